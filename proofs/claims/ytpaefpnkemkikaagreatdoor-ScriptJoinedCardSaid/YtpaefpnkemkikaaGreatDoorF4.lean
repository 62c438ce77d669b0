import Derived.Test.YtpaefpnkemkikaaGreatDoorD24
set_option maxRecDepth 100000
set_option maxHeartbeats 16000000
namespace Scr
def sS1 : Bs := [35, 32, 97, 32, 114, 101, 109, 97, 114, 107, 10, 112, 117, 98, 108, 105, 115, 104, 32, 51, 32, 49, 48, 47, 50, 44, 52, 47, 49, 47, 48, 10, 10, 115, 101, 97, 114, 99, 104, 32, 49, 32, 53, 32, 114, 97, 105, 110, 32, 45, 99, 105, 116, 121, 10, 99, 114, 97, 115, 104, 32, 45, 49, 32, 48, 44, 50]
def sS2 : Bs := [112, 117, 98, 108, 105, 115, 104, 32, 51, 32, 49, 48, 47, 50, 44, 52, 47, 49, 47, 48, 10, 115, 101, 97, 114, 99, 104, 32, 49, 32, 53, 32, 114, 97, 105, 110, 32, 45, 99, 105, 116, 121, 10, 99, 114, 97, 115, 104, 32, 45, 49, 32, 48, 44, 50, 10]
def sS3 : Bs := [99, 104, 101, 99, 107, 10, 116, 105, 99, 107, 32, 48, 10]
def sA0 : Ac := { Ac.zero with kd := 1, fc := { Fc.zero with kd := 3, st := 3, lb := ⟨10, [2, 4], 1, 0⟩ } }
def sA1 : Ac := { Ac.zero with kd := 7, cl := 1, n := 5, tx := [114, 97, 105, 110, 32, 45, 99, 105, 116, 121] }
def sA2 : Ac := { Ac.zero with kd := 5, n := -1, ke := [0, 2] }
def isOk (e : Except Nat (List Ac)) (l : List Ac) : Bool := match e with | .ok m => decide (m = l) | .error _ => false
def isEr (e : Except Nat (List Ac)) (n : Nat) : Bool := match e with | .ok _ => false | .error m => decide (m = n)
theorem isOk_eq {e : Except Nat (List Ac)} {l : List Ac} (h : isOk e l = true) : e = .ok l := by
 cases e with
 | ok m => unfold isOk at h; rw [of_decide_eq_true h]
 | error n => cases h
theorem isEr_eq {e : Except Nat (List Ac)} {n : Nat} (h : isEr e n = true) : e = .error n := by
 cases e with
 | ok m => cases h
 | error m => unfold isEr at h; rw [of_decide_eq_true h]
theorem sane1 : parse sS1 = .ok [sA0, sA1, sA2] := isOk_eq (by decide +kernel)
theorem sane2 : print [sA0, sA1, sA2] = some sS2 := by decide +kernel
theorem sane3 : parse sS3 = .error 2 := isEr_eq (by decide +kernel)
theorem sane4 : vAc sA0 = true := by decide +kernel
theorem sane5 : decide (sA0 = sA1) = false := by decide +kernel
end Scr
namespace Cdk
open Go Go.RowKit
theorem wpS_loadR {P : Program} {ops : Array Oper} {C : World -> Prop} {o : Oper} {a : Act} {w : World} {Q : Exit -> Act -> World -> Prop} {r : List (Oper × Bool)} (hw : Region.wanted o (yielded ops a.tmps) = true) (ty : TypeId) (x : Operand) (ho : o.op = .load ty x) (b n : Nat) (hx : a.eval x = .pointer (some ⟨b, n, none⟩)) (cs : Array Value) (d : TypeDesc)
  (hS : ∀ w, C w -> w.rangeAt b n cs.toList) (hu : P.underlying ty = some d) (hd : d.isRow = true) (hi : (P.info? ty).map (·.size) = some cs.toList.length)
  (h : wpS P ops C Q r (a.put o.dst (.agg cs)) w) : wpS P ops C Q ((o, true) :: r) a w := by
 obtain ⟨cs⟩ := cs
 exact ⟨_, yieldsIf_load_mid hw ty x ho b n hx cs d hS hu hd hi, h⟩
theorem rangeAt_ext {w w' : World} {b n : Nat} {cs : List Value} (h : w.rangeAt b n cs) (hx : Ext w w') : w'.rangeAt b n cs := fun i u hu => hx.cell (h i u hu) (fun h => h)
end Cdk
namespace Go.Proofs.YtpaefpnkemkikaaGreatDoor
open Go.Shelf Go.RowKit Cdk Scr
theorem sane_any (w : World) (hG : Gl w) : Calls Tryz.prog 12 #[] w fun e w' => e = .returned (.bool true) /\ Ext w w' := by
 have hp1 := parse_any sS1 (by decide) w hG
 unfold PaP at hp1
 rw [sane1] at hp1
 unfold PaE at hp1
 simp only at hp1
 replace hp1 := hid hp1
 replace hG := hid hG
 go_enter Tryz.func12, Tryz.ntmps12
 go_wp2_with fail
 refine hp1.out.mono ?_; rintro e w1 ⟨hx1, ao, cap, rfl, hA1⟩
 have hl3 : [sA0, sA1, sA2].length = 3 := rfl
 rw [hl3] at hA1 ⊢
 have hG1 := hid (hG.out.ext hx1)
 have hpr := hid (print_any (.slice ao 3 cap) [sA0, sA1, sA2] w1 hG1.out (hA1.mono (fun k hk => hk.2)))
 replace hx1 := hid hx1
 replace hA1 := hid hA1
 clear hp1 hl3
 go_wp2_with fail
 refine hpr.out.mono ?_; rintro e w2 ⟨hr, hx2⟩
 unfold printR at hr
 rw [sane2] at hr
 simp only at hr
 rw [show (⟨sS2.toArray⟩ : ByteArray) = ⟨#[112, 117, 98, 108, 105, 115, 104, 32, 51, 32, 49, 48, 47, 50, 44, 52, 47, 49, 47, 48, 10, 115, 101, 97, 114, 99, 104, 32, 49, 32, 53, 32, 114, 97, 105, 110, 32, 45, 99, 105, 116, 121, 10, 99, 114, 97, 115, 104, 32, 45, 49, 32, 48, 44, 50, 10]⟩ from rfl] at hr
 subst hr
 have hG2 := hid (hG1.out.ext hx2)
 have hp3 := parse_any sS3 (by decide) w2 hG2.out
 unfold PaP at hp3
 rw [sane3] at hp3
 unfold PaE at hp3
 simp only at hp3
 replace hp3 := hid hp3
 replace hx2 := hid hx2
 clear hpr
 go_wp2_with fail
 refine hp3.out.mono ?_; rintro e w3 ⟨hx3, rfl⟩
 have hA3 := (hA1.out.ext (hx2.out.trans hx3))
 have hxx := hid ((hx1.out.trans hx2.out).trans hx3)
 have hlow := hid (hA3.mono (F' := fun k => k < w3.heap.size) (fun k hk => Nat.lt_of_lt_of_le hk.2 (hx2.out.trans hx3).size))
 clear hA3 hp3 hx1 hx2 hx3 hA1 hG1 hG2
 obtain ⟨b, off, cap', s0, e, -, hA0, hc0⟩ := hlow.out.get (j := 0) (by decide)
 injection e with e1 e2 e3
 subst e1 e3
 obtain ⟨b', off', cap'', s1, e, -, hA1, hc1⟩ := hlow.out.get (j := 1) (by decide)
 injection e with e1 e2 e3
 injection e1 with e1
 injection e1 with e1 e4
 subst e1 e4 e3
 obtain ⟨b', off', cap'', s2, e, -, hA2, hc2⟩ := hlow.out.get (j := 2) (by decide)
 injection e with e1 e2 e3
 injection e1 with e1
 injection e1 with e1 e4
 subst e1 e4 e3
 obtain ⟨a01, n01, c01, a02, n02, c02, a03, n03, c03, a04, n04, c04, a05, n05, c05, rfl⟩ := acAt_slices hA0
 obtain ⟨a11, n11, c11, a12, n12, c12, a13, n13, c13, a14, n14, c14, a15, n15, c15, rfl⟩ := acAt_slices hA1
 obtain ⟨a21, n21, c21, a22, n22, c22, a23, n23, c23, a24, n24, c24, a25, n25, c25, rfl⟩ := acAt_slices hA2
 have hn : n03 = 2 := by
  obtain ⟨x, y, e⟩ := hA0.fc.af.slice
  injection e with _ e _
 subst hn
 have f0 : w3.cell? ⟨b, off + 12, none⟩ = some (.int .i64 10) := by have := hc0 12 _ (by decide) rfl; exact this
 have f1 : w3.cell? ⟨b, off + 13, none⟩ = some (.slice a03 2 c03) := by have := hc0 13 _ (by decide) rfl; simpa using this
 have f2 : w3.cell? ⟨b, off + 62, none⟩ = some (.string ⟨#[114, 97, 105, 110, 32, 45, 99, 105, 116, 121]⟩) := by have := hc1 26 _ (by decide) rfl; exact this
 obtain ⟨V0, hV0⟩ : ∃ V0, V0 = acA a01 n01 c01 a02 n02 c02 a03 2 c03 a04 n04 c04 a05 n05 c05 sA0 := ⟨_, rfl⟩
 obtain ⟨V1, hV1⟩ : ∃ V1, V1 = acA a11 n11 c11 a12 n12 c12 a13 n13 c13 a14 n14 c14 a15 n15 c15 sA1 := ⟨_, rfl⟩
 obtain ⟨V2, hV2⟩ : ∃ V2, V2 = acA a21 n21 c21 a22 n22 c22 a23 n23 c23 a24 n24 c24 a25 n25 c25 sA2 := ⟨_, rfl⟩
 have r0 : w3.rangeAt b off V0.toList := fun i u hu => by
  have hu' : (acC ((⟨⟨.slice a01 n01 c01, .slice a02 n02 c02, .slice a03 2 c03⟩, .slice a04 n04 c04, .slice a05 n05 c05⟩ : AV), sA0))[i]? = some u := by rw [hV0] at hu; exact hu
  have := hc0 i u (List.getElem?_eq_some_iff.1 hu').1 hu'
  simpa using this
 have r1 : w3.rangeAt b (off + 36) V1.toList := fun i u hu => by
  have hu' : (acC ((⟨⟨.slice a11 n11 c11, .slice a12 n12 c12, .slice a13 n13 c13⟩, .slice a14 n14 c14, .slice a15 n15 c15⟩ : AV), sA1))[i]? = some u := by rw [hV1] at hu; exact hu
  have := hc1 i u (List.getElem?_eq_some_iff.1 hu').1 hu'
  simpa using this
 have r2 : w3.rangeAt b (off + 72) V2.toList := fun i u hu => by
  have hu' : (acC ((⟨⟨.slice a21 n21 c21, .slice a22 n22 c22, .slice a23 n23 c23⟩, .slice a24 n24 c24, .slice a25 n25 c25⟩ : AV), sA2))[i]? = some u := by rw [hV2] at hu; exact hu
  have := hc2 i u (List.getElem?_eq_some_iff.1 hu').1 hu'
  simpa using this
 have i0 : Hid ((Tryz.prog.info? 32).map (·.size) = some V0.toList.length) := hid (by rw [hV0]; kernel_rfl)
 have i1 : Hid ((Tryz.prog.info? 32).map (·.size) = some V1.toList.length) := hid (by rw [hV1]; kernel_rfl)
 have i2 : Hid ((Tryz.prog.info? 32).map (·.size) = some V2.toList.length) := hid (by rw [hV2]; kernel_rfl)
 have hval := svalid_any a01 n01 c01 a02 n02 c02 a03 2 c03 a04 n04 c04 a05 n05 c05 sA0 w3.drew ((hA0.ext (Mod.drew0 (fun _ => False) w3)))
 rw [sane4, <- hV0] at hval
 have hs22 := fun W (hX : Ext w3 W) => actSame_any a21 n21 c21 a22 n22 c22 a23 n23 c23 a24 n24 c24 a25 n25 c25 sA2 a21 n21 c21 a22 n22 c22 a23 n23 c23 a24 n24 c24 a25 n25 c25 sA2 W (hA2.ext hX) (hA2.ext hX)
 have hs01 := fun W (hX : Ext w3 W) => actSame_any a01 n01 c01 a02 n02 c02 a03 2 c03 a04 n04 c04 a05 n05 c05 sA0 a11 n11 c11 a12 n12 c12 a13 n13 c13 a14 n14 c14 a15 n15 c15 sA1 W (hA0.ext hX) (hA1.ext hX)
 simp only [<- hV0, <- hV1, <- hV2, sane5, decide_true] at hs22 hs01
 replace hval := hid hval
 replace hs22 := hid hs22
 replace hs01 := hid hs01
 replace r0 := hid r0
 replace r1 := hid r1
 replace r2 := hid r2
 replace hV0 := hid hV0
 replace hV1 := hid hV1
 replace hV2 := hid hV2
 have t0 : V0.toList.toArray = V0 := by simp
 have t1 : V1.toList.toArray = V1 := by simp
 have t2 : V2.toList.toArray = V2 := by simp
 replace t0 := hid t0
 replace t1 := hid t1
 replace t2 := hid t2
 clear hc0 hc1 hc2 hA0 hA1 hA2
 replace hlow := hid hlow
 go_upto_region 4 with fail
 simp only [List.append_eq, List.cons_append, List.nil_append]
 refine wp_region_sched (fun W => Ext w3 W) [(0, true), (1, true), (2, true), (3, true), (4, true), (5, true), (6, true), (7, true), (8, true), (9, true), (10, true), (11, true), (12, true), (13, true), (14, true), (15, true), (16, true), (17, true), (18, true), (19, true), (20, true), (21, true), (22, true), (23, true), (24, true), (25, true), (26, true), (27, true), (28, true), (29, true), (30, true), (31, true), (32, true), (33, true), (34, true), (35, true), (36, true), (37, true), (38, true), (39, true), (40, true), (41, true), (42, true), (43, true), (44, true), (45, true), (46, true), (47, true), (48, true), (49, true), (50, true), (51, true), (52, true), (53, true), (54, true), (55, true), (56, true), (57, false), (58, true), (59, true), (60, true), (61, true), (62, true), (63, true), (64, true), (65, true), (66, false), (67, true), (68, true), (69, true), (70, true), (71, true), (72, true), (73, true), (74, true), (75, false), (76, true), (77, true), (78, true)]
  (by as_aux_lemma => kernel_rfl) (by as_aux_lemma => kernel_rfl) (by as_aux_lemma => kernel_rfl) (by decide) (Mod.drew0 (fun _ => False) w3) ?_
 simp only [schedOps, List.map_cons, List.map_nil, List.getD_cons_zero, List.getD_cons_succ]
 have hy4 := hid (Mod.drew0 (fun _ => False) w3)
 iterate 56 (refine wpS_q (by rfl) ?_ (fun w' hC => ?_) ?_; rotate_left; (have q0 : w'.cell? ⟨b, off + 12, none⟩ = some (.int .i64 10) := hC.cell f0 (fun h => h); have q1 : w'.cell? ⟨b, off + 13, none⟩ = some (.slice a03 2 c03) := hC.cell f1 (fun h => h); have q2 := hC.cell f2 (fun h => h); go_simp; try with_reducible rfl); try simp only [Act.put, sA, sZ, sS])
 refine wpS_loadR (by rfl) 32 _ rfl b off rfl V0 _ (fun W hW => rangeAt_ext r0.out hW) Tryz.underlying32 rfl i0.out ?_
 try simp only [Act.put, sA, sZ, sS]
 refine wpS_c (by rfl) (fun K hK => ?_)
 go_simp
 refine (hval.out).mono ?_; rintro e w5 ⟨rfl, hxn⟩
 refine hK.out _ _ (hy4.out.trans hxn) ?_
 have hy5 := hid (hy4.out.trans hxn)
 clear hK K hxn
 try simp only [Act.put, sA, sZ, sS]
 iterate 4 (refine wpS_q (by rfl) ?_ (fun w' hC => ?_) ?_; rotate_left; (have q0 : w'.cell? ⟨b, off + 12, none⟩ = some (.int .i64 10) := hC.cell f0 (fun h => h); have q1 : w'.cell? ⟨b, off + 13, none⟩ = some (.slice a03 2 c03) := hC.cell f1 (fun h => h); have q2 := hC.cell f2 (fun h => h); go_simp; try with_reducible rfl); try simp only [Act.put, sA, sZ, sS])
 refine wpS_loadR (by rfl) 32 _ rfl b (off + 72) rfl V2 _ (fun W hW => rangeAt_ext r2.out hW) Tryz.underlying32 rfl i2.out ?_
 try simp only [Act.put, sA, sZ, sS]
 iterate 2 (refine wpS_q (by rfl) ?_ (fun w' hC => ?_) ?_; rotate_left; (have q0 : w'.cell? ⟨b, off + 12, none⟩ = some (.int .i64 10) := hC.cell f0 (fun h => h); have q1 : w'.cell? ⟨b, off + 13, none⟩ = some (.slice a03 2 c03) := hC.cell f1 (fun h => h); have q2 := hC.cell f2 (fun h => h); go_simp; try with_reducible rfl); try simp only [Act.put, sA, sZ, sS])
 refine wpS_loadR (by rfl) 32 _ rfl b (off + 72) rfl V2 _ (fun W hW => rangeAt_ext r2.out hW) Tryz.underlying32 rfl i2.out ?_
 try simp only [Act.put, sA, sZ, sS]
 refine wpS_c (by rfl) (fun K hK => ?_)
 go_simp
 refine (hs22.out _ hy5.out).mono ?_; rintro e w6 ⟨rfl, hxn⟩
 refine hK.out _ _ (hy5.out.trans hxn) ?_
 have hy6 := hid (hy5.out.trans hxn)
 clear hK K hxn
 try simp only [Act.put, sA, sZ, sS]
 iterate 4 (refine wpS_q (by rfl) ?_ (fun w' hC => ?_) ?_; rotate_left; (have q0 : w'.cell? ⟨b, off + 12, none⟩ = some (.int .i64 10) := hC.cell f0 (fun h => h); have q1 : w'.cell? ⟨b, off + 13, none⟩ = some (.slice a03 2 c03) := hC.cell f1 (fun h => h); have q2 := hC.cell f2 (fun h => h); go_simp; try with_reducible rfl); try simp only [Act.put, sA, sZ, sS])
 refine wpS_loadR (by rfl) 32 _ rfl b off rfl V0 _ (fun W hW => rangeAt_ext r0.out hW) Tryz.underlying32 rfl i0.out ?_
 try simp only [Act.put, sA, sZ, sS]
 iterate 2 (refine wpS_q (by rfl) ?_ (fun w' hC => ?_) ?_; rotate_left; (have q0 : w'.cell? ⟨b, off + 12, none⟩ = some (.int .i64 10) := hC.cell f0 (fun h => h); have q1 : w'.cell? ⟨b, off + 13, none⟩ = some (.slice a03 2 c03) := hC.cell f1 (fun h => h); have q2 := hC.cell f2 (fun h => h); go_simp; try with_reducible rfl); try simp only [Act.put, sA, sZ, sS])
 refine wpS_loadR (by rfl) 32 _ rfl b (off + 36) rfl V1 _ (fun W hW => rangeAt_ext r1.out hW) Tryz.underlying32 rfl i1.out ?_
 try simp only [Act.put, sA, sZ, sS]
 refine wpS_c (by rfl) (fun K hK => ?_)
 go_simp
 refine (hs01.out _ hy6.out).mono ?_; rintro e w7 ⟨rfl, hxn⟩
 refine hK.out _ _ (hy6.out.trans hxn) ?_
 have hy7 := hid (hy6.out.trans hxn)
 clear hK K hxn
 try simp only [Act.put, sA, sZ, sS]
 iterate 3 (refine wpS_q (by rfl) ?_ (fun w' hC => ?_) ?_; rotate_left; (have q0 : w'.cell? ⟨b, off + 12, none⟩ = some (.int .i64 10) := hC.cell f0 (fun h => h); have q1 : w'.cell? ⟨b, off + 13, none⟩ = some (.slice a03 2 c03) := hC.cell f1 (fun h => h); have q2 := hC.cell f2 (fun h => h); go_simp; try with_reducible rfl); try simp only [Act.put, sA, sZ, sS])
 refine wpS_nil ?_
 go_wp2_with fail
 go_ret
 exact ⟨rfl, hxx.out.trans hy7.out⟩
theorem ignored_any (t : Bs) (w : World) : Calls Tryz.prog 26 #[.string ⟨t.toArray⟩] w fun e w' => e = .returned (.bool (skip t)) /\ w = w' := by
 obtain ⟨S, hS⟩ : ∃ S : ByteArray, S = ⟨t.toArray⟩ := ⟨_, rfl⟩
 have hSe : S.toList.isEmpty = t.isEmpty := by rw [hS]; simp
 rw [<- hS]
 cases hb : t.isEmpty with
 | true =>
  rw [hb] at hSe
  have hsk : skip t = true := by
   have : t = [] := by simpa using hb
   subst this; rfl
  rw [hsk]
  replace hS := hid hS
  replace hb := hid hb
  replace hsk := hid hsk
  go_enter Tryz.func26, Tryz.ntmps26
  go_wp2_with fail
  go_ret
  exact ⟨rfl, rfl⟩
 | false =>
  obtain ⟨c, rt, rfl⟩ : ∃ c rt, t = c :: rt := by
   cases t with
   | nil => cases hb
   | cons c rt => exact ⟨c, rt, rfl⟩
  rw [hb] at hSe
  have hSz : 0 < S.size := by rw [hS]; show 0 < (c :: rt).toArray.size; simp
  have hS0 : S[0] = c := by subst hS; rfl
  have hSzi : (0 : Int) < (S.size : Int) := by omega
  have hsk : skip (c :: rt) = decide (c.toNat = 35) := rfl
  rw [hsk, <- hS0]
  replace hS := hid hS
  replace hb := hid hb
  replace hS0 := hid hS0
  replace hsk := hid hsk
  by_cases h35 : S[0].toNat = 35
  ·have b1 : ((S[0].toNat : Int) == 35) = true := by rw [beq_iff_eq]; omega
   go_enter Tryz.func26, Tryz.ntmps26
   go_wp2_with fail
   go_ret
   exact ⟨by rw [decide_eq_true h35]; rfl, rfl⟩
  ·have b1 : ((S[0].toNat : Int) == 35) = false := by rw [beq_eq_false_iff_ne]; omega
   go_enter Tryz.func26, Tryz.ntmps26
   go_wp2_with fail
   go_ret
   exact ⟨by rw [decide_eq_false h35]; rfl, rfl⟩
def LnP (s : Bs) (pre : List Bs) (k j : Nat) : Prop := (k <= j /\ j <= s.length /\ parts 10 s = pre ++ parts 10 (s.drop k) /\ (10 : UInt8) ∉ (s.drop k).take (j - k)) \/ (j = s.length + 1 /\ pre = parts 10 s)
theorem LnP.cut {s : Bs} {pre : List Bs} {k j : Nat} (h : LnP s pre k j) (hj : j < s.length) (hc : s[j] = 10) : LnP s (pre ++ [(s.drop k).take (j - k)]) (j + 1) (j + 1) := by
 rcases h with ⟨h1, h2, h3, h4⟩ | ⟨h1, -⟩
 ·have e : s.drop k = (s.drop k).take (j - k) ++ 10 :: s.drop (j + 1) := by
   have e1 : (s.drop k).drop (j - k) = 10 :: s.drop (j + 1) := by
    rw [List.drop_drop, show k + (j - k) = j by omega, List.drop_eq_getElem_cons hj, hc]
   rw [<- e1, List.take_append_drop]
  refine .inl ⟨Nat.le_refl _, by omega, ?_, by simp⟩
  rw [h3, e, parts_app _ h4, <- e]
  simp
 ·omega
theorem LnP.pass {s : Bs} {pre : List Bs} {k j : Nat} (h : LnP s pre k j) (hj : j < s.length) (hc : s[j] ≠ 10) : LnP s pre k (j + 1) := by
 rcases h with ⟨h1, h2, h3, h4⟩ | ⟨h1, -⟩
 ·refine .inl ⟨by omega, by omega, h3, ?_⟩
  have hjk : j - k < (s.drop k).length := by rw [List.length_drop]; omega
  rw [show j + 1 - k = (j - k) + 1 by omega, List.take_succ_eq_append_getElem hjk]
  simp only [List.mem_append, List.mem_singleton, not_or]
  refine ⟨h4, fun e => hc ?_⟩
  rw [List.getElem_drop] at e
  have e2 : k + (j - k) = j := by omega
  simp only [e2] at e
  exact e.symm
 ·omega
theorem LnP.last {s : Bs} {pre : List Bs} {k : Nat} (h : LnP s pre k s.length) : LnP s (pre ++ [(s.drop k).take (s.length - k)]) (s.length + 1) (s.length + 1) := by
 rcases h with ⟨h1, h2, h3, h4⟩ | ⟨h1, -⟩
 ·have e : (s.drop k).take (s.length - k) = s.drop k := List.take_of_length_le (by rw [List.length_drop]; exact Nat.le_refl _)
  rw [e] at h4 ⊢
  rw [parts_no h4] at h3
  exact .inr ⟨rfl, h3.symm⟩
 ·omega
theorem linesL_any (t : Bs) (hs : t.length <= 1000000) (w : World) : Calls Tryz.prog 25 #[.string ⟨t.toArray⟩] w (InP (parts 10 t) w) := by
 obtain ⟨P, hP⟩ : ∃ P, P = parts 10 t := ⟨_, rfl⟩
 have hpl := parts_len 10 t
 rw [<- hP]
 obtain ⟨S, hS⟩ : ∃ S : ByteArray, S = ⟨t.toArray⟩ := ⟨_, rfl⟩
 have hSs : S.size = t.length := by rw [hS]; rfl
 have hex : Hid (∀ a b : Nat, S.extract a b = ⟨((t.take b).drop a).toArray⟩) := hid (fun a b => by rw [hS, ext_bs'])
 have hget : Hid (∀ (j : Nat) (h : j < S.size) (h2 : j < t.length), S[j] = t[j]) := hid (fun j h h2 => by subst hS; rfl)
 rw [<- hS]
 have hsl : S.size <= 1000000 := by omega
 replace hS := hid hS
 replace hP := hid hP
 replace hpl := hid hpl
 replace hSs := hid hSs
 go_enter Tryz.func25, Tryz.ntmps25
 go_wp2_with fail
 go_loopg [3, 4, 5] (S.size + 1) (fun g o f i wr => ∃ (j k : Nat) (pre : List Bs) (av : Option Addr) (cv : Nat), j + g = S.size + 1 /\ k <= S.size + 1 /\ i = .int .i64 j /\ f = .int .i64 k /\ o = .slice av pre.length cv /\ LnP t pre k j /\ pre.length <= j /\ Cdk.Own wr w.heap.size 9 1 strC (.slice av pre.length cv) pre /\ Ext w wr)
 case atStart => exact ⟨0, 0, [], none, 0, by omega, by omega, rfl, rfl, rfl, .inl ⟨Nat.le_refl _, Nat.zero_le _, by simp, by simp⟩, by simp, Own.nil _ _ _ _ _, Mod.refl _ _⟩
 case round =>
  obtain ⟨j, k, pre, av, cv, hj, hk, rfl, rfl, rfl, hL, hpj, hO, hx⟩ := hrel
  have hsz : w.heap.size <= wr.heap.size := hx.size
  have hjl : j <= S.size + 1 := by omega
  replace hj := hid hj
  replace hO := hid hO
  replace hx := hid hx
  by_cases hle : j <= S.size
  ·have hdi : (j : Int) <= (S.size : Int) := by omega
   have hdin : ¬ (S.size : Int) < (j : Int) := by omega
   have hd : decide ((j : Int) <= (S.size : Int)) = true := decide_eq_true hdi
   have hkj : k <= j := by
    rcases hL with ⟨h1, -⟩ | ⟨h1, -⟩
    ·exact h1
    ·have := hSs.out; omega
   have hkji : (k : Int) <= (j : Int) := by omega
   have hjw : IntKind.i64.wrap ((j : Int) + 1) = (j : Int) + 1 := IntWalk.i64_in _ (by omega)
   have hxe := hex.out k j
   have htd : (t.take j).drop k = (t.drop k).take (j - k) := by rw [List.drop_take]
   rw [htd] at hxe
   obtain ⟨X, hX⟩ : ∃ X, X = (t.drop k).take (j - k) := ⟨_, rfl⟩
   rw [<- hX] at hxe
   have fin : ∀ (hcut : LnP t (pre ++ [X]) (j + 1) (j + 1)), True := fun _ => trivial
   by_cases heq : j = S.size
   ·subst heq
    have hnext : Hid (LnP t (pre ++ [X]) (S.size + 1) (S.size + 1)) := hid (by
     have hL2 : LnP t pre k t.length := by rw [<- hSs.out]; exact hL
     rw [hX, hSs.out]; exact hL2.last)
    replace hX := hid hX
    replace hL := hid hL
    have hxa := Mod.alloc (Mod.refl (fun _ => False) wr) (.cells #[.string ⟨X.toArray⟩] 9)
    go_wp2_with (at_builtin; refine wpList_app rfl _ _ _ rfl Tryz.underlying22 el9 rfl (hO.out.ext hxa) _ 1 1 rfl [X] rfl (by exact RowIs.new _ _ _) strC_len (fun y hy u hu => by simp only [List.mem_singleton] at hy; subst hy; simp [strC, strV] at hu; subst hu; rfl) (by simp only [List.length_singleton]; omega) (by rw [World.size_alloc]; omega) (fun e => nomatch e) (fun v6 w6 H6 => ?_); skip)
    obtain ⟨hO6, hm6⟩ := H6.out
    have hx6 := hid (ext_app (hx.out.trans hxa) (hO.out.ext hxa) (Nat.le_refl _) hm6)
    obtain ⟨av6, cv6, rfl, -⟩ := hO6.row
    have hl6 : (pre ++ [X]).length = pre.length + 1 := by simp
    rw [hl6]
    rw [hl6] at hO6
    clear H6 hm6 hxa
    replace hO6 := hid hO6
    go_wp2_with fail
    go_roundg (gk - 1)
    case measure => have := hj.out; omega
    case rel => exact ⟨S.size + 1, S.size + 1, pre ++ [X], av6, cv6, by have := hj.out; omega, by omega, by go_num, by go_num, by rw [hl6], hnext.out, by rw [hl6]; omega, by rw [hl6]; exact hO6.out, hx6.out⟩
   ·have hlt : j < S.size := by omega
    have b1 : ((j : Int) == (S.size : Int)) = false := by rw [beq_eq_false_iff_ne]; omega
    have b1i : ¬ (j : Int) = (S.size : Int) := by omega
    have hlti : (j : Int) < (S.size : Int) := by omega
    have hjt : j < t.length := by have := hSs.out; omega
    have hgj := hget.out j hlt hjt
    by_cases h10 : t[j] = 10
    ·have b2 : ((S[j].toNat : Int) == 10) = true := by rw [hgj, h10]; rfl
     have b2i : S[j].toNat = 10 := by rw [hgj, h10]; rfl
     have hnext : Hid (LnP t (pre ++ [X]) (j + 1) (j + 1)) := hid (by rw [hX]; exact hL.cut hjt h10)
     replace hX := hid hX
     replace heq := hid heq
     replace hL := hid hL
     replace hgj := hid hgj
     replace h10 := hid h10
     have hxa := Mod.alloc (Mod.refl (fun _ => False) wr) (.cells #[.string ⟨X.toArray⟩] 9)
     go_wp2_with (at_builtin; refine wpList_app rfl _ _ _ rfl Tryz.underlying22 el9 rfl (hO.out.ext hxa) _ 1 1 rfl [X] rfl (by exact RowIs.new _ _ _) strC_len (fun y hy u hu => by simp only [List.mem_singleton] at hy; subst hy; simp [strC, strV] at hu; subst hu; rfl) (by simp only [List.length_singleton]; omega) (by rw [World.size_alloc]; omega) (fun e => nomatch e) (fun v6 w6 H6 => ?_); skip)
     obtain ⟨hO6, hm6⟩ := H6.out
     have hx6 := hid (ext_app (hx.out.trans hxa) (hO.out.ext hxa) (Nat.le_refl _) hm6)
     obtain ⟨av6, cv6, rfl, -⟩ := hO6.row
     have hl6 : (pre ++ [X]).length = pre.length + 1 := by simp
     rw [hl6]
     rw [hl6] at hO6
     clear H6 hm6 hxa
     replace hO6 := hid hO6
     go_wp2_with fail
     go_roundg (gk - 1)
     case measure => have := hj.out; omega
     case rel => exact ⟨j + 1, j + 1, pre ++ [X], av6, cv6, by have := hj.out; omega, by omega, by go_num, by go_num, by rw [hl6], hnext.out, by rw [hl6]; omega, by rw [hl6]; exact hO6.out, hx6.out⟩
    ·have hne : S[j].toNat ≠ 10 := fun e => h10 (by rw [<- hgj]; exact UInt8.toNat_inj.1 e)
     have b2 : ((S[j].toNat : Int) == 10) = false := by rw [beq_eq_false_iff_ne]; omega
     have hnext : Hid (LnP t pre k (j + 1)) := hid (hL.pass hjt h10)
     replace hX := hid hX
     replace heq := hid heq
     replace hL := hid hL
     replace hgj := hid hgj
     replace h10 := hid h10
     go_wp2_with fail
     go_roundg (gk - 1)
     case measure => have := hj.out; omega
     case rel => exact ⟨j + 1, k, pre, av, cv, by have := hj.out; omega, by omega, by go_num, rfl, rfl, hnext.out, by omega, hO.out, hx.out⟩
  ·have hdi : ¬ (j : Int) <= (S.size : Int) := by omega
   have hdin : (S.size : Int) < (j : Int) := by omega
   have hd : decide ((j : Int) <= (S.size : Int)) = false := decide_eq_false hdi
   have hpe : pre = P := by
    rcases hL with ⟨-, h2, -⟩ | ⟨-, h2⟩
    ·have := hSs.out; omega
    ·rw [h2, hP.out]
   subst hpe
   have hrow := hid (own_row hO.out (by omega))
   replace hL := hid hL
   go_wp2_with fail
   go_ret
   exact ⟨av, cv, rfl, hrow.out, hx.out⟩
def shA (a : Ac) : Ac := { a with fa := a.fa.take 70, ke := a.ke.take 70, fc := { a.fc with bl := a.fc.bl.take 5 }, tx := a.tx.take 400, ms := { a.ms with da := a.ms.da.take 400 } }
theorem cut400 (t : Bs) : (⟨t.toArray⟩ : ByteArray).extract 0 (min (t.length : Int) 400).toNat = ⟨(t.take 400).toArray⟩ := by
 rw [ext_bs', List.drop_zero]
 by_cases h : 400 <= t.length
 ·rw [show (min (t.length : Int) 400).toNat = 400 by omega]
 ·rw [show (min (t.length : Int) 400).toNat = t.length by omega, List.take_length, List.take_of_length_le (by omega)]
theorem row_short {α : Type} {F : Nat -> Prop} {w : World} {f : α -> List Value} {a : Option Addr} {n c : Nat} {l : List α} (h : RowAt F w f (.slice a n c) l) (size : Nat) (hf : ∀ x, (f x).length = size) (L : Nat) : n = l.length /\ (L <= n -> L <= c) /\ RowAt F w f (.slice a (min n L) c) (l.take L) := by
 have hn : n = l.length := by obtain ⟨x, y, e⟩ := h.slice; injection e
 subst hn
 by_cases hl : L <= l.length
 ·obtain ⟨x, y, e, h1, h2⟩ := h.take size hf hl
  injection e with e1 _ e3
  subst e1 e3
  rw [Nat.min_eq_right hl]
  exact ⟨rfl, fun _ => h1, h2⟩
 ·rw [Nat.min_eq_left (by omega), List.take_of_length_le (by omega)]
  exact ⟨rfl, fun h => absurd h hl, h⟩
theorem bks_short {F : Nat -> Prop} {w : World} {a : Option Addr} {n c : Nat} {l : List Bk} (h : BksAt F w (.slice a n c) l) (L : Nat) : n = l.length /\ (L <= n -> L <= c) /\ BksAt F w (.slice a (min n L) c) (l.take L) := by
 have hn := h.count
 subst hn
 by_cases hl : L <= l.length
 ·obtain ⟨x, y, e, h1, h2⟩ := h.take hl
  injection e with e1 _ e3
  subst e1 e3
  rw [Nat.min_eq_right hl]
  exact ⟨rfl, fun _ => h1, h2⟩
 ·rw [Nat.min_eq_left (by omega), List.take_of_length_le (by omega)]
  exact ⟨rfl, fun h => absurd h hl, h⟩
theorem short_any {F : Nat -> Prop} (a1 : Option Addr) (n1 c1 : Nat) (a2 : Option Addr) (n2 c2 : Nat) (a3 : Option Addr) (n3 c3 : Nat) (a4 : Option Addr) (n4 c4 : Nat) (a5 : Option Addr) (n5 c5 : Nat) (a : Ac) (w : World) (h : AcAt F w ⟨⟨.slice a1 n1 c1, .slice a2 n2 c2, .slice a3 n3 c3⟩, .slice a4 n4 c4, .slice a5 n5 c5⟩ a) (htx : a.tx.length < 4611686018427387904) (hda : a.ms.da.length < 4611686018427387904) :
  Calls Tryz.prog 13 #[.agg (acA a1 n1 c1 a2 n2 c2 a3 n3 c3 a4 n4 c4 a5 n5 c5 a)] w fun e w' => e = .returned (.agg (acA a1 n1 c1 a2 (min n2 5) c2 a3 n3 c3 a4 (min n4 70) c4 a5 (min n5 70) c5 (shA a))) ∧
   AcAt F w' ⟨⟨.slice a1 n1 c1, .slice a2 (min n2 5) c2, .slice a3 n3 c3⟩, .slice a4 (min n4 70) c4, .slice a5 (min n5 70) c5⟩ (shA a) /\ Ext w w' := by
 obtain ⟨e4, q4, h4⟩ := row_short h.fa 1 intC_len 70
 obtain ⟨e5, q5, h5⟩ := row_short h.ke 1 intC_len 70
 obtain ⟨e2, q2, h2⟩ := bks_short h.fc.bl 5
 have hAc : AcAt F w ⟨⟨.slice a1 n1 c1, .slice a2 (min n2 5) c2, .slice a3 n3 c3⟩, .slice a4 (min n4 70) c4, .slice a5 (min n5 70) c5⟩ (shA a) := ⟨⟨h.fc.tp, h2, h.fc.af⟩, h4, h5⟩
 replace hAc := hid hAc
 clear h h2 h4 h5 e2 e4 e5
 obtain ⟨T, hT⟩ : ∃ T, T = w.heap.size := ⟨_, rfl⟩
 obtain ⟨V0, hV0⟩ : ∃ V0, V0 = acA a1 n1 c1 a2 n2 c2 a3 n3 c3 a4 n4 c4 a5 n5 c5 a := ⟨_, rfl⟩
 rw [<- hV0]
 have hs0 : Hid (V0.size = 36) := hid (by rw [hV0]; rfl)
 have hx0 := ((Mod.refl (fun k => T <= k) w).alloc (.cells V0 32)).alloc (.cells zA9 32)
 have hTc : ((w.alloc (.cells V0 32)).alloc (.cells zA9 32)).heap[T]? = some (.cells V0 32 (0, 0)) := by rw [alloc_get, World.size_alloc, hT, if_neg (by omega)]; exact heap_alloc_new w _
 have hUc : ((w.alloc (.cells V0 32)).alloc (.cells zA9 32)).heap[T + 1]? = some (.cells zA9 32 (0, 0)) := by rw [hT]; have := heap_alloc_new (w.alloc (.cells V0 32)) (.cells zA9 32); rwa [World.size_alloc] at this
 have hwT : w.heap.size <= T := Nat.le_of_eq hT.symm
 replace hx0 := hid hx0
 replace hTc := hid hTc
 replace hUc := hid hUc
 replace hV0 := hid hV0
 go_enter Tryz.func13, Tryz.ntmps13
 go_upto_region 1 with fail
 try simp only [World.size_alloc]
 rw [<- hT]
 generalize ((w.alloc (.cells V0 32)).alloc (.cells zA9 32)) = w0 at hTc hUc hx0 ⊢
 replace hT := hid hT
 have f : w0.cell? ⟨T, 27, none⟩ = some (.slice a4 n4 c4) := (cell_of' hTc.out 27).trans (by rw [hV0.out]; rfl)
 obtain ⟨V1, hV1⟩ : ∃ V, V = acA a1 n1 c1 a2 n2 c2 a3 n3 c3 a4 (min n4 70) c4 a5 n5 c5 a := ⟨_, rfl⟩
 by_cases g : 70 < n4
 case' pos =>
  have gi : (70 : Int) < (n4 : Int) := by omega
  have gc : (70 : Int) <= (c4 : Int) := by have := q4 (by omega); omega
  have gn : 70 <= c4 := by have := q4 (by omega); omega
  have z := free_of' hTc.out
  have p := put_at' hTc.out 27 (.slice a4 70 c4)
  have m : Mod (fun k => k = T) w0 (w0.setCell ⟨T, 27, none⟩ (.slice a4 70 c4)) := (Mod.refl (fun k => k = T) w0).setCell (a := ⟨T, 27, none⟩) (fun _ => rfl) (.slice a4 70 c4)
  rw [show V0.setIfInBounds 27 (.slice a4 70 c4) = V1 by rw [hV0.out, hV1, show min n4 70 = 70 by omega]; rfl] at p
  replace hUc := hid (m.at hUc.out (by omega))
  replace hx0 := hid (hx0.out.trans (m.mono (T := fun k => T <= k) (fun k hk => by omega)))
  replace hTc := hid p
  clear m p
  replace hV1 := hid hV1
  go_upto_region 3 with fail
  clear z gi gc gn
  generalize w0.setCell ⟨T, 27, none⟩ (.slice a4 70 c4) = w1 at hTc hUc hx0 ⊢
 case' neg =>
  have gi : ¬ (70 : Int) < (n4 : Int) := by omega
  have e : V0 = V1 := by rw [hV0.out, hV1, show min n4 70 = n4 by omega]
  replace hTc := hid (e ▸ hTc.out)
  replace hV1 := hid hV1
  go_upto_region 3 with fail
  clear gi e
  generalize w0 = w1 at hTc hUc hx0 ⊢
 all_goals
  clear f g
  have f : w1.cell? ⟨T, 28, none⟩ = some (.slice a5 n5 c5) := (cell_of' hTc.out 28).trans (by rw [hV1.out]; rfl)
  obtain ⟨V2, hV2⟩ : ∃ V, V = acA a1 n1 c1 a2 n2 c2 a3 n3 c3 a4 (min n4 70) c4 a5 (min n5 70) c5 a := ⟨_, rfl⟩
  by_cases g : 70 < n5
  case' pos =>
   have gi : (70 : Int) < (n5 : Int) := by omega
   have gc : (70 : Int) <= (c5 : Int) := by have := q5 (by omega); omega
   have gn : 70 <= c5 := by have := q5 (by omega); omega
   have z := free_of' hTc.out
   have p := put_at' hTc.out 28 (.slice a5 70 c5)
   have m : Mod (fun k => k = T) w1 (w1.setCell ⟨T, 28, none⟩ (.slice a5 70 c5)) := (Mod.refl (fun k => k = T) w1).setCell (a := ⟨T, 28, none⟩) (fun _ => rfl) (.slice a5 70 c5)
   rw [show V1.setIfInBounds 28 (.slice a5 70 c5) = V2 by rw [hV1.out, hV2, show min n5 70 = 70 by omega]; rfl] at p
   replace hUc := hid (m.at hUc.out (by omega))
   replace hx0 := hid (hx0.out.trans (m.mono (T := fun k => T <= k) (fun k hk => by omega)))
   replace hTc := hid p
   clear m p
   replace hV2 := hid hV2
   go_upto_region 5 with fail
   clear z gi gc gn
   generalize w1.setCell ⟨T, 28, none⟩ (.slice a5 70 c5) = w2 at hTc hUc hx0 ⊢
  case' neg =>
   have gi : ¬ (70 : Int) < (n5 : Int) := by omega
   have e : V1 = V2 := by rw [hV1.out, hV2, show min n5 70 = n5 by omega]
   replace hTc := hid (e ▸ hTc.out)
   replace hV2 := hid hV2
   go_upto_region 5 with fail
   clear gi e
   generalize w1 = w2 at hTc hUc hx0 ⊢
  all_goals
   clear f g
   have f : w2.cell? ⟨T, 11, none⟩ = some (.slice a2 n2 c2) := (cell_of' hTc.out 11).trans (by rw [hV2.out]; rfl)
   obtain ⟨V3, hV3⟩ : ∃ V, V = acA a1 n1 c1 a2 (min n2 5) c2 a3 n3 c3 a4 (min n4 70) c4 a5 (min n5 70) c5 a := ⟨_, rfl⟩
   by_cases g : 5 < n2
   case' pos =>
    have gi : (5 : Int) < (n2 : Int) := by omega
    have gc : (5 : Int) <= (c2 : Int) := by have := q2 (by omega); omega
    have gn : 5 <= c2 := by have := q2 (by omega); omega
    have z := free_of' hTc.out
    have p := put_at' hTc.out 11 (.slice a2 5 c2)
    have m : Mod (fun k => k = T) w2 (w2.setCell ⟨T, 11, none⟩ (.slice a2 5 c2)) := (Mod.refl (fun k => k = T) w2).setCell (a := ⟨T, 11, none⟩) (fun _ => rfl) (.slice a2 5 c2)
    rw [show V2.setIfInBounds 11 (.slice a2 5 c2) = V3 by rw [hV2.out, hV3, show min n2 5 = 5 by omega]; rfl] at p
    replace hUc := hid (m.at hUc.out (by omega))
    replace hx0 := hid (hx0.out.trans (m.mono (T := fun k => T <= k) (fun k hk => by omega)))
    replace hTc := hid p
    clear m p
    replace hV3 := hid hV3
    go_upto_region 7 with fail
    clear z gi gc gn
    generalize w2.setCell ⟨T, 11, none⟩ (.slice a2 5 c2) = w3 at hTc hUc hx0 ⊢
   case' neg =>
    have gi : ¬ (5 : Int) < (n2 : Int) := by omega
    have e : V2 = V3 := by rw [hV2.out, hV3, show min n2 5 = n2 by omega]
    replace hTc := hid (e ▸ hTc.out)
    replace hV3 := hid hV3
    go_upto_region 7 with fail
    clear gi e
    generalize w2 = w3 at hTc hUc hx0 ⊢
   all_goals
    clear f g
    have t26 : w3.cell? ⟨T, 26, none⟩ = some (.string ⟨a.tx.toArray⟩) := (cell_of' hTc.out 26).trans (by rw [hV3.out]; rfl)
    have z26 := free_of' hTc.out
    have x26 := cut400 a.tx
    have l26 : (0 : Int) <= min (a.tx.length : Int) 400 /\ min (a.tx.length : Int) 400 <= (a.tx.length : Int) := by omega
    have p26 := put_at' hTc.out 26 (.string ⟨(a.tx.take 400).toArray⟩)
    have m26 : Mod (fun k => k = T) w3 (w3.setCell ⟨T, 26, none⟩ (.string ⟨(a.tx.take 400).toArray⟩)) := (Mod.refl (fun k => k = T) w3).setCell (a := ⟨T, 26, none⟩) (fun _ => rfl) (.string ⟨(a.tx.take 400).toArray⟩)
    obtain ⟨VX, hVX⟩ : ∃ V, V = acA a1 n1 c1 a2 (min n2 5) c2 a3 n3 c3 a4 (min n4 70) c4 a5 (min n5 70) c5 { a with tx := a.tx.take 400 } := ⟨_, rfl⟩
    rw [show V3.setIfInBounds 26 (.string ⟨(a.tx.take 400).toArray⟩) = VX by rw [hV3.out, hVX]; rfl] at p26
    have u26 := hid (m26.at hUc.out (by omega))
    have y26 := hid (hx0.out.trans (m26.mono (T := fun k => T <= k) (fun k hk => by omega)))
    replace p26 := hid p26
    replace hVX := hid hVX
    clear m26 hTc hUc hx0
    go_upto_region 8 with fail
    clear t26 z26 x26 l26
    generalize w3.setCell ⟨T, 26, none⟩ (.string ⟨(a.tx.take 400).toArray⟩) = wx at p26 u26 y26 ⊢
    have t35 : wx.cell? ⟨T, 35, none⟩ = some (.string ⟨a.ms.da.toArray⟩) := (cell_of' p26.out 35).trans (by rw [hVX.out]; rfl)
    have z35 := free_of' p26.out
    have x35 := cut400 a.ms.da
    have p35 := put_at' p26.out 35 (.string ⟨(a.ms.da.take 400).toArray⟩)
    have m35 : Mod (fun k => k = T) wx (wx.setCell ⟨T, 35, none⟩ (.string ⟨(a.ms.da.take 400).toArray⟩)) := (Mod.refl (fun k => k = T) wx).setCell (a := ⟨T, 35, none⟩) (fun _ => rfl) (.string ⟨(a.ms.da.take 400).toArray⟩)
    obtain ⟨VY, hVY⟩ : ∃ V, V = acA a1 n1 c1 a2 (min n2 5) c2 a3 n3 c3 a4 (min n4 70) c4 a5 (min n5 70) c5 (shA a) := ⟨_, rfl⟩
    rw [show VX.setIfInBounds 35 (.string ⟨(a.ms.da.take 400).toArray⟩) = VY by rw [hVX.out, hVY]; rfl] at p35
    have u35 := hid (m35.at u26.out (by omega))
    have y35 := hid (y26.out.trans (m35.mono (T := fun k => T <= k) (fun k hk => by omega)))
    have sY : Hid (VY.size = 36) := hid (by rw [hVY]; rfl)
    have oY : Hid (VY.toList.all (·.oneCell') = true) := hid (by rw [hVY]; rfl)
    replace p35 := hid p35
    replace hVY := hid hVY
    clear m35 p26 u26 y26
    go_upto_region 9 with fail
    clear t35 z35 x35
    generalize wx.setCell ⟨T, 35, none⟩ (.string ⟨(a.ms.da.take 400).toArray⟩) = wy at p35 u35 y35 ⊢
    go_wp2_with (first | (refine wpList_loadW (by rfl) 32 _ rfl T VY _ _ _ rfl p35.out Tryz.underlying32 rfl (by rw [sY.out]; kernel_rfl) ?_) | (refine wpList_storeW rfl 32 _ _ rfl (T + 1) _ VY 32 rfl rfl u35.out (by rw [sY.out]; rfl) (by rw [sY.out]; kernel_rfl) oY.out (fun WE HE => ?_)))
    refine bodyPost_ret (results_cell_row rfl _ _ (T + 1) _ _ _ _ rfl HE.out.1 Tryz.underlying32 rfl (by rw [sY.out]; kernel_rfl)) rfl ?_
    have hxE := mod_ext (B := T) hwT (y35.out.trans (HE.out.2.mono (T := fun k => T <= k) (fun k hk => by omega)))
    exact ⟨by rw [hVY.out], hAc.out.ext hxE, hxE⟩
end Go.Proofs.YtpaefpnkemkikaaGreatDoor
namespace Scr
def pl (x : Ac) : Nat := match print [x] with | some s => s.length | none => 0
def okA (x : Ac) : Bool := vAc x && (print [x]).isSome
def plS : List Ac -> Nat
 | [] => 0
 | x :: r => pl x + plS r
theorem plS_app : ∀ a b : List Ac, plS (a ++ b) = plS a + plS b
 | [], b => by simp [plS]
 | x :: a, b => by simp only [List.cons_append, plS, plS_app a b]; omega
theorem print_one (x : Ac) : print [x] = if vAc x = true /\ (lnF x).length <= 65536 then some (lnF x) else none := by
 unfold print
 by_cases h1 : vAc x = true <;> by_cases h2 : (lnF x).length <= 65536 <;> simp [h1, h2]
theorem pl_ok {x : Ac} (h : okA x = true) : vAc x = true /\ pl x = (lnF x).length /\ print [x] = some (lnF x) := by
 unfold okA at h
 rw [Bool.and_eq_true] at h
 have hp := print_one x
 split at hp
 ·exact ⟨h.1, by unfold pl; rw [hp], hp⟩
 ·rw [hp] at h; exact absurd h.2 (by decide)
theorem pl_le (x : Ac) : pl x <= 65536 := by
 unfold pl
 rw [print_one]
 split
 ·rename_i h
  split at h
  ·rename_i h2; cases h; exact h2.2
  ·cases h
 ·omega
theorem plS_ok : ∀ {l : List Ac}, l.all okA = true -> plS l = (l.flatMap lnF).length
 | [], _ => rfl
 | x :: l, h => by
  simp only [List.all_cons, Bool.and_eq_true] at h
  simp only [plS, List.flatMap_cons, List.length_append, (pl_ok h.1).2.1, plS_ok h.2]
def rtOk (l : List Ac) : Bool := decide (l.length <= 100) && (l.all okA && decide (plS l <= 65536))
theorem all_okA {l : List Ac} (h : ∀ a ∈ l, vAc a = true) (hl : (l.flatMap lnF).length <= 65536) : l.all okA = true := by
 rw [List.all_eq_true]
 intro x hx
 have hx1 : (lnF x).length <= (l.flatMap lnF).length := by
  obtain ⟨p, q, rfl⟩ := List.append_of_mem hx
  simp only [List.flatMap_append, List.flatMap_cons, List.length_append]; omega
 unfold okA
 rw [h x hx, print_one, if_pos ⟨h x hx, by omega⟩]
 rfl
theorem rt_ok (l : List Ac) : (print l).isSome = rtOk l := by
 cases h : print l with
 | some s =>
  obtain ⟨h1, h2, h3, h4⟩ := print_some h
  have h5 : (l.flatMap lnF).length <= 65536 := by rw [<- h4]; exact h3
  have ha := all_okA h2 h5
  unfold rtOk
  rw [ha, plS_ok ha, decide_eq_true h1, decide_eq_true h5]
  rfl
 | none =>
  cases h2 : rtOk l with
  | false => rfl
  | true =>
   unfold rtOk at h2
   simp only [Bool.and_eq_true, decide_eq_true_eq] at h2
   obtain ⟨h3, h4, h5⟩ := h2
   rw [plS_ok h4] at h5
   unfold print at h
   rw [if_pos] at h
   ·cases h
   ·simp only [Bool.and_eq_true, decide_eq_true_eq]
    refine ⟨h3, ?_, h5⟩
    rw [List.all_eq_true] at h4 ⊢
    exact fun x hx => (pl_ok (h4 x hx)).1
theorem print_line {a : Ac} {s : Bs} (h : print [a] = some s) : vAc a = true /\ s = line a ++ [10] := by
 rw [print_one] at h
 split at h
 ·rename_i h2; injection h with h; exact ⟨h2.1, h.symm⟩
 ·cases h
theorem line_parts {a : Ac} (h : vAc a = true) : parts 10 (line a ++ [10]) = [line a, []] := by
 rw [parts_app _ (line_nl h)]; rfl
theorem lines_same {a b : Ac} {s t : Bs} (ha : print [a] = some s) (hb : print [b] = some t) : decide (s = t) = decide (a = b) := by
 obtain ⟨h1, rfl⟩ := print_line ha
 obtain ⟨h2, rfl⟩ := print_line hb
 by_cases h : a = b
 ·subst h; simp
 ·rw [decide_eq_false h, decide_eq_false]
  intro e
  exact h (line_inj h1 h2 (List.append_cancel_right e))
def rep (n : Nat) (s : Bs) : Bs := (List.replicate n s).flatten
theorem rep_succ (n : Nat) (s : Bs) : rep (n + 1) s = rep n s ++ s := by
 unfold rep
 rw [List.replicate_succ', List.flatten_append]; simp
theorem rep_len (n : Nat) (s : Bs) : (rep n s).length = n * s.length := by
 unfold rep
 induction n with
 | zero => simp
 | succ k ih => rw [List.replicate_succ]; simp only [List.flatten_cons, List.length_append, ih, Nat.succ_mul]; omega
theorem rep_flat (n : Nat) (a : Ac) : rep n (lnF a) = (List.replicate n a).flatMap lnF := by
 unfold rep
 induction n with
 | zero => rfl
 | succ k ih => rw [List.replicate_succ, List.replicate_succ, List.flatMap_cons, List.flatten_cons, ih]
theorem limits {a : Ac} {s : Bs} (h : print [a] = some s) (hs : s.length <= 300) (n : Nat) (hn : n < 120) :
  parse (rep n s) = if n <= 100 then .ok (List.replicate n a) else .error 101 := by
 obtain ⟨h1, rfl⟩ := print_line h
 have hlen : (rep n (line a ++ [10])).length <= 65536 := by
  rw [rep_len]
  calc n * (line a ++ [10]).length <= 120 * 300 := Nat.mul_le_mul (by omega) hs
   _ <= 65536 := by decide
 unfold parse
 rw [if_neg (by omega)]
 have e : rep n (line a ++ [10]) = (List.replicate n a).flatMap lnF ++ [] := by rw [List.append_nil]; exact rep_flat n a
 have hall : ∀ m, ∀ x ∈ List.replicate m a, vAc x = true := fun m x hx => by rw [List.eq_of_mem_replicate hx]; exact h1
 rw [e, parts_lines [] (hall n)]
 by_cases hn2 : n <= 100
 ·rw [if_pos hn2, parseF_lines 1 [] _ (hall n) (by simpa using hn2)]
  rfl
 ·rw [if_neg hn2]
  have hr : List.replicate n a = List.replicate 100 a ++ List.replicate (n - 100) a := by rw [List.replicate_append_replicate]; congr 1; omega
  have hr2 : List.replicate (n - 100) a = a :: List.replicate (n - 101) a := by rw [show n - 100 = (n - 101) + 1 by omega, List.replicate_succ]
  rw [hr, List.map_append, List.append_assoc, parseF_lines 1 [] _ (hall 100) (by simp), hr2]
  simp only [List.map_cons, List.cons_append, parseF]
  rw [line_skip h1, if_neg (by simp), if_pos (by simp)]
  simp
theorem parse_err {s : Bs} {n : Nat} (hs : s.length <= 6000) (h : parse s = .error n) : 1 <= n /\ n <= (parts 10 s).length /\ ∃ t, (parts 10 s)[n - 1]? = some t /\ skip t = false := by
 unfold parse at h
 rw [if_neg (by omega)] at h
 obtain ⟨h1, h2, h3⟩ := parseF_error h
 exact ⟨h1, by omega, h3⟩
theorem ignored {rem s : Bs} (hr : skip rem = true) (hn : (10 : UInt8) ∉ rem) (hs : s.length <= 65536) (ht : (join 10 (doubled rem (parts 10 s))).length <= 65536) :
  parse (join 10 (doubled rem (parts 10 s))) = map2 (parse s) := by
 unfold parse
 rw [if_neg (by omega), if_neg (by omega), parts_doubled hn (parts_ne 10 s) (fun t ht => parts_mem s t ht)]
 exact parseF_doubled hr (parts 10 s) 1 [] (by decide)
theorem joined_err {s t : Bs} {n : Nat} (hs : (s ++ 10 :: t).length <= 65536) (h : parse s = .error n) : parse (s ++ 10 :: t) = .error n := by
 simp only [List.length_append, List.length_cons] at hs
 unfold parse at h ⊢
 rw [if_neg (by omega)] at h
 rw [if_neg (by simp; omega), parts_two, parseF_app, h]
theorem joined_ok {s t : Bs} {l m : List Ac} (hs : (s ++ 10 :: t).length <= 65536) (h : parse s = .ok l) (h2 : parse t = .ok m) (hl : l.length + m.length <= 100) : parse (s ++ 10 :: t) = .ok (l ++ m) := by
 simp only [List.length_append, List.length_cons] at hs
 unfold parse at h h2 ⊢
 rw [if_neg (by omega)] at h h2
 rw [if_neg (by simp; omega), parts_two, parseF_app, h]
 simp only
 rw [parseF_shift (parts 10 s).length (parts 10 t) 1 l, parseF_acc (parts 10 t) 1 l [] m (by simpa using h2) (by simp) hl]
 rfl
theorem joined_many {s t : Bs} {l m : List Ac} (hs : (s ++ 10 :: t).length <= 65536) (h : parse s = .ok l) (h2 : parse t = .ok m) (hl : 100 < l.length + m.length) : ∃ n, parse (s ++ 10 :: t) = .error n := by
 have hl1 := (parse_ok h).2.1
 simp only [List.length_append, List.length_cons] at hs
 unfold parse at h h2 ⊢
 rw [if_neg (by omega)] at h h2
 rw [if_neg (by simp; omega), parts_two, parseF_app, h]
 simp only
 rw [parseF_shift (parts 10 s).length (parts 10 t) 1 l]
 obtain ⟨n, hn⟩ := parseF_many (parts 10 t) 1 l [] m (by simpa using h2) (by simp) hl1 hl
 rw [hn]
 exact ⟨_, rfl⟩
theorem joined_bad {s t : Bs} {l : List Ac} {k : Nat} (hs : (s ++ 10 :: t).length <= 65536) (h : parse s = .ok l) (h2 : parse t = .error k) : ∃ n, parse (s ++ 10 :: t) = .error n := by
 have hl1 := (parse_ok h).2.1
 simp only [List.length_append, List.length_cons] at hs
 unfold parse at h h2 ⊢
 rw [if_neg (by omega)] at h h2
 rw [if_neg (by simp; omega), parts_two, parseF_app, h]
 simp only
 rw [parseF_shift (parts 10 s).length (parts 10 t) 1 l]
 obtain ⟨n, hn⟩ := parseF_bad (parts 10 t) 1 k l [] h2 (by simp) hl1
 rw [hn]
 exact ⟨_, rfl⟩
theorem joined_first {s t : Bs} {k : Nat} (hs : (s ++ 10 :: t).length <= 65536) (h : parse s = .ok []) (h2 : parse t = .error k) : parse (s ++ 10 :: t) = .error (k + (parts 10 s).length) := by
 simp only [List.length_append, List.length_cons] at hs
 unfold parse at h h2 ⊢
 rw [if_neg (by omega)] at h h2
 rw [if_neg (by simp; omega), parts_two, parseF_app, h]
 simp only
 rw [parseF_shift (parts 10 s).length (parts 10 t) 1 [], h2]
 rfl
end Scr
namespace Go.Proofs.YtpaefpnkemkikaaGreatDoor
open Go.Shelf Go.RowKit Cdk Scr
theorem acs_one {w : World} {sv : AV} {a : Ac} {V : Array Value} (hV : V.toList = acC (sv, a)) (h : AcAt (fun k => k < w.heap.size) w sv a) : AcsAt (fun k => k < (w.alloc (.cells V 32)).heap.size) (w.alloc (.cells V 32)) (.slice (some ⟨w.heap.size, 0, none⟩) 1 1) [a] := by
 have hx := Mod.alloc (Mod.refl (fun _ => False) w) (.cells V 32)
 have hsz : (w.alloc (.cells V 32)).heap.size = w.heap.size + 1 := World.size_alloc _ _
 refine ⟨[(sv, a)], rfl, ⟨some ⟨w.heap.size, 0, none⟩, 1, rfl, ?_, fun b off e _ => by injection e with e; injection e with e _; omega, Nat.le_refl _, ⟨by simp, by decide⟩, fun e => nomatch e⟩, fun p hp => ?_⟩
 ·have hr := RowIs.new w V.toList 32
  rw [show V.toList.toArray = V from by simp, hV] at hr
  rw [show [(sv, a)].flatMap acC = acC (sv, a) from by simp]
  exact hr
 ·simp only [List.mem_singleton] at hp
  subst hp
  exact (h.ext hx).mono (fun k hk => by omega)
theorem limitsL_any (a1 : Option Addr) (n1 c1 : Nat) (a2 : Option Addr) (n2 c2 : Nat) (a3 : Option Addr) (n3 c3 : Nat) (a4 : Option Addr) (n4 c4 : Nat) (a5 : Option Addr) (n5 c5 : Nat) (a : Ac) (n : Int) (hn : -9223372036854775808 <= n /\ n <= 9223372036854775807) (w : World) (hG : Gl w) (h : AcAt (fun k => k < w.heap.size) w ⟨⟨.slice a1 n1 c1, .slice a2 n2 c2, .slice a3 n3 c3⟩, .slice a4 n4 c4, .slice a5 n5 c5⟩ a) (htx : a.tx.length < 4611686018427387904) (hda : a.ms.da.length < 4611686018427387904) :
  Calls Tryz.prog 11 #[.agg (acA a1 n1 c1 a2 n2 c2 a3 n3 c3 a4 n4 c4 a5 n5 c5 a), .int .i64 n] w fun e w' => e = .returned (.bool true) /\ Ext w w' := by
 obtain ⟨T, hT⟩ : ∃ T, T = w.heap.size := ⟨_, rfl⟩
 obtain ⟨V0, hV0⟩ : ∃ V0, V0 = acA a1 n1 c1 a2 n2 c2 a3 n3 c3 a4 n4 c4 a5 n5 c5 a := ⟨_, rfl⟩
 rw [<- hV0]
 have hs0 : Hid (V0.size = 36) := hid (by rw [hV0]; rfl)
 have hx0 := (Mod.refl (fun _ => False) w).alloc (.cells V0 32)
 have hTc := heap_alloc_new w (.cells V0 32)
 rw [<- hT] at hTc
 have hG0 := hid (hG.ext hx0)
 have h0 := hid (h.ext hx0)
 have hsn := hid (sane_any (w.alloc (.cells V0 32)) hG0.out)
 replace hx0 := hid hx0
 replace hTc := hid hTc
 replace hV0 := hid hV0
 clear h hG
 go_enter Tryz.func11, Tryz.ntmps11
 go_wp2_with fail
 rw [<- hT]
 generalize (w.alloc (.cells V0 32)) = w0 at hTc hx0 hG0 h0 hsn ⊢
 have hwT : w.heap.size <= T := Nat.le_of_eq hT.symm
 replace hT := hid hT
 refine hsn.out.mono ?_; rintro e w1 ⟨rfl, hx1⟩
 have hT1 := hid (hx1.at hTc.out (fun h => h))
 have hG1 := hid (hG0.out.ext hx1)
 have h1 := hid (h0.out.ext hx1)
 have hx01 := hid (hx0.out.trans hx1)
 have hsz1 : w.heap.size <= w1.heap.size := hx01.out.size
 clear hsn hx1 hTc hG0 h0 hx0
 have hsh := short_any a1 n1 c1 a2 n2 c2 a3 n3 c3 a4 n4 c4 a5 n5 c5 a w1 h1.out htx hda
 rw [<- hV0.out] at hsh
 replace hsh := hid hsh
 go_wp2_with (refine wpList_loadW (by rfl) 32 _ rfl T V0 _ _ _ rfl hT1.out Tryz.underlying32 rfl (by rw [hs0.out]; kernel_rfl) ?_)
 refine hsh.out.mono ?_; rintro e w2 ⟨rfl, h2, hx2⟩
 have hG2 := hid (hG1.out.ext hx2)
 have hx02 := hid (hx01.out.trans hx2)
 obtain ⟨V1, hV1⟩ : ∃ V1, V1 = acA a1 n1 c1 a2 (min n2 5) c2 a3 n3 c3 a4 (min n4 70) c4 a5 (min n5 70) c5 (shA a) := ⟨_, rfl⟩
 rw [<- hV1]
 have hs1 : Hid (V1.size = 36) := hid (by rw [hV1]; rfl)
 have hacs := acs_one (w := w2) (sv := ⟨⟨.slice a1 n1 c1, .slice a2 (min n2 5) c2, .slice a3 n3 c3⟩, .slice a4 (min n4 70) c4, .slice a5 (min n5 70) c5⟩) (a := shA a) (V := V1) (by rw [hV1]; rfl) (h2.mono (fun k hk => by have := hx02.out.size; omega))
 have hx3 := Mod.alloc (Mod.refl (fun _ => False) w2) (.cells V1 32)
 have hpr := hid (print_any _ [shA a] (w2.alloc (.cells V1 32)) (hG2.out.ext hx3) hacs)
 have hG3 := hid (hG2.out.ext hx3)
 have hx03 := hid (hx02.out.trans hx3)
 generalize shA a = b at hpr
 replace hV1 := hid hV1
 clear hsh h2 hx2 hacs hx3 h1 hT1
 go_wp2_with (refine wpList_slice1 rfl _ _ rfl Tryz.underlying37 elA (by decide) V1 rfl hs1.out ?_)
 refine hpr.out.mono ?_; rintro e w4 ⟨hr, hx4⟩
 have hG4 := hid (hG3.out.ext hx4)
 have hx04 := hid (hx03.out.trans hx4)
 clear hpr hx4 hG3 hG2 hx03 hx02
 unfold printR at hr
 cases hp : print [b] with
 | none =>
  rw [hp] at hr
  simp only at hr
  subst hr
  replace hp := hid hp
  go_wp2_with fail
  go_ret
  exact ⟨rfl, hx04.out⟩
 | some s =>
  rw [hp] at hr
  simp only at hr
  subst hr
  by_cases h300 : 300 < s.length
  ·have hi : (300 : Int) < (s.length : Int) := by omega
   replace hp := hid hp
   go_wp2_with fail
   go_ret
   exact ⟨rfl, hx04.out⟩
  ·have hi : ¬ (300 : Int) < (s.length : Int) := by omega
   have hsl : s.length <= 300 := by omega
   replace hp := hid hp
   by_cases hneg : n < 0
   ·obtain ⟨q, hq⟩ : ∃ q : Nat, -(n + 1) = (q : Int) := ⟨(-(n + 1)).toNat, by omega⟩
    have f1 : IntKind.i64.wrap (n + 1) = n + 1 := IntWalk.i64_in _ (by omega)
    have f2 : wrap64 (-(n + 1)) = (q : Int) := by rw [<- hq]; exact IntWalk.wrap64_in _ (by omega)
    replace hq := hid hq
    replace hn := hid hn
    have hrm : (q : Int).tmod 120 = ((q % 120 : Nat) : Int) := by rw [Int.tmod_eq_emod_of_nonneg (by omega)]; omega
    obtain ⟨r, hr⟩ : ∃ r, r = q % 120 := ⟨_, rfl⟩
    rw [<- hr] at hrm
    have hr120 : r < 120 := by omega
    have hlim := hid (limits hp.out (by omega) r hr120)
    replace hr := hid hr
    go_wp2_with fail
    go_loopg [8, 9] r (fun g tv iv wr => ∃ j : Nat, j + g = r /\ iv = .int .i64 j /\ tv = .string ⟨(rep j s).toArray⟩ /\ wr = w4)
    case atStart => exact ⟨0, by omega, rfl, rfl, rfl⟩
    case round =>
     obtain ⟨j, hj, rfl, rfl, rfl⟩ := hrel
     have hjl := rep_len j s
     have hjm : j * s.length <= 120 * 300 := Nat.mul_le_mul (by omega) (by omega)
     by_cases hlt : j < r
     ·have hdi : (j : Int) < (r : Int) := by omega
      have hd : decide ((j : Int) < (r : Int)) = true := decide_eq_true hdi
      have hsum : (rep j s).length + s.length <= 1000000 := by omega
      have hnx := hid (rep_succ j s)
      have hjw : IntKind.i64.wrap ((j : Int) + 1) = (j : Int) + 1 := IntWalk.i64_in _ (by omega)
      replace hj := hid hj
      replace hjl := hid hjl
      go_wp2_with fail
      go_roundg (gk - 1)
      case measure => have := hj.out; omega
      case rel => exact ⟨j + 1, by have := hj.out; omega, by go_num, by rw [hnx.out, <- app_bs], rfl⟩
     ·obtain rfl : j = r := by omega
      have hdi : ¬ (j : Int) < (j : Int) := by omega
      have hd : decide ((j : Int) < (j : Int)) = false := decide_eq_false hdi
      have hpa := parse_any (rep j s) (by omega) wr hG4.out
      unfold PaP at hpa
      rw [hlim.out] at hpa
      replace hjl := hid hjl
      by_cases h100 : j <= 100
      ·rw [if_pos h100] at hpa
       unfold PaE at hpa
       simp only [List.length_replicate] at hpa
       have hi1 : (j : Int) <= 100 := by omega
       replace hpa := hid hpa
       go_wp2_with fail
       refine hpa.out.mono ?_; rintro e w5 ⟨hx5, ao, cap, rfl, -⟩
       have hx05 := hid (hx04.out.trans hx5)
       clear hpa hx5
       go_wp2_with fail
       go_ret
       exact ⟨rfl, hx05.out⟩
      ·rw [if_neg h100] at hpa
       unfold PaE at hpa
       simp only at hpa
       have hi1 : ¬ (j : Int) <= 100 := by omega
       replace hpa := hid hpa
       go_wp2_with fail
       refine hpa.out.mono ?_; rintro e w5 ⟨hx5, rfl⟩
       have hx05 := hid (hx04.out.trans hx5)
       clear hpa hx5
       go_wp2_with fail
       go_ret
       exact ⟨rfl, hx05.out⟩
   ·obtain ⟨q, rfl⟩ : ∃ q : Nat, n = (q : Int) := ⟨n.toNat, by omega⟩
    replace hn := hid hn
    have hrm : (q : Int).tmod 120 = ((q % 120 : Nat) : Int) := by rw [Int.tmod_eq_emod_of_nonneg (by omega)]; omega
    obtain ⟨r, hr⟩ : ∃ r, r = q % 120 := ⟨_, rfl⟩
    rw [<- hr] at hrm
    have hr120 : r < 120 := by omega
    have hlim := hid (limits hp.out (by omega) r hr120)
    replace hr := hid hr
    go_wp2_with fail
    go_loopg [8, 9] r (fun g tv iv wr => ∃ j : Nat, j + g = r /\ iv = .int .i64 j /\ tv = .string ⟨(rep j s).toArray⟩ /\ wr = w4)
    case atStart => exact ⟨0, by omega, rfl, rfl, rfl⟩
    case round =>
     obtain ⟨j, hj, rfl, rfl, rfl⟩ := hrel
     have hjl := rep_len j s
     have hjm : j * s.length <= 120 * 300 := Nat.mul_le_mul (by omega) (by omega)
     by_cases hlt : j < r
     ·have hdi : (j : Int) < (r : Int) := by omega
      have hd : decide ((j : Int) < (r : Int)) = true := decide_eq_true hdi
      have hsum : (rep j s).length + s.length <= 1000000 := by omega
      have hnx := hid (rep_succ j s)
      have hjw : IntKind.i64.wrap ((j : Int) + 1) = (j : Int) + 1 := IntWalk.i64_in _ (by omega)
      replace hj := hid hj
      replace hjl := hid hjl
      go_wp2_with fail
      go_roundg (gk - 1)
      case measure => have := hj.out; omega
      case rel => exact ⟨j + 1, by have := hj.out; omega, by go_num, by rw [hnx.out, <- app_bs], rfl⟩
     ·obtain rfl : j = r := by omega
      have hdi : ¬ (j : Int) < (j : Int) := by omega
      have hd : decide ((j : Int) < (j : Int)) = false := decide_eq_false hdi
      have hpa := parse_any (rep j s) (by omega) wr hG4.out
      unfold PaP at hpa
      rw [hlim.out] at hpa
      replace hjl := hid hjl
      by_cases h100 : j <= 100
      ·rw [if_pos h100] at hpa
       unfold PaE at hpa
       simp only [List.length_replicate] at hpa
       have hi1 : (j : Int) <= 100 := by omega
       replace hpa := hid hpa
       go_wp2_with fail
       refine hpa.out.mono ?_; rintro e w5 ⟨hx5, ao, cap, rfl, -⟩
       have hx05 := hid (hx04.out.trans hx5)
       clear hpa hx5
       go_wp2_with fail
       go_ret
       exact ⟨rfl, hx05.out⟩
      ·rw [if_neg h100] at hpa
       unfold PaE at hpa
       simp only at hpa
       have hi1 : ¬ (j : Int) <= 100 := by omega
       replace hpa := hid hpa
       go_wp2_with fail
       refine hpa.out.mono ?_; rintro e w5 ⟨hx5, rfl⟩
       have hx05 := hid (hx04.out.trans hx5)
       clear hpa hx5
       go_wp2_with fail
       go_ret
       exact ⟨rfl, hx05.out⟩
end Go.Proofs.YtpaefpnkemkikaaGreatDoor
