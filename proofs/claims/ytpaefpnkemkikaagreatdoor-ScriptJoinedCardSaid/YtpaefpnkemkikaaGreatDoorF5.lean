import Derived.Test.YtpaefpnkemkikaaGreatDoorF4
import Derived.Test.YtpaefpnkemkikaaGreatDoorTh14
set_option maxRecDepth 100000
set_option maxHeartbeats 16000000
namespace Go.Proofs.YtpaefpnkemkikaaGreatDoor
open Go.Shelf Go.RowKit Cdk Scr
theorem printR_parts {l : List Ac} {e : Ending} (h : printR l e) : ∃ (S : ByteArray) (f : Int), e = .returned (.tuple #[.string S, .int .i64 f]) /\ ((f = 0 /\ ∃ s, print l = some s /\ S = ⟨s.toArray⟩) \/ (f = 280 /\ print l = none /\ S = ⟨#[]⟩)) := by
 unfold printR at h
 cases hp : print l with
 | none => rw [hp] at h; exact ⟨_, _, h, .inr ⟨rfl, rfl, rfl⟩⟩
 | some s => rw [hp] at h; exact ⟨_, _, h, .inl ⟨rfl, s, rfl, rfl⟩⟩
theorem differL_any (xa1 : Option Addr) (xn1 xc1 : Nat) (xa2 : Option Addr) (xn2 xc2 : Nat) (xa3 : Option Addr) (xn3 xc3 : Nat) (xa4 : Option Addr) (xn4 xc4 : Nat) (xa5 : Option Addr) (xn5 xc5 : Nat) (a : Ac) (ya1 : Option Addr) (yn1 yc1 : Nat) (ya2 : Option Addr) (yn2 yc2 : Nat) (ya3 : Option Addr) (yn3 yc3 : Nat) (ya4 : Option Addr) (yn4 yc4 : Nat) (ya5 : Option Addr) (yn5 yc5 : Nat) (b : Ac) (w : World) (hG : Gl w) (ha : AcAt (fun k => k < w.heap.size) w ⟨⟨.slice xa1 xn1 xc1, .slice xa2 xn2 xc2, .slice xa3 xn3 xc3⟩, .slice xa4 xn4 xc4, .slice xa5 xn5 xc5⟩ a) (hb : AcAt (fun k => k < w.heap.size) w ⟨⟨.slice ya1 yn1 yc1, .slice ya2 yn2 yc2, .slice ya3 yn3 yc3⟩, .slice ya4 yn4 yc4, .slice ya5 yn5 yc5⟩ b) (hta : a.tx.length < 4611686018427387904) (hda : a.ms.da.length < 4611686018427387904) (htb : b.tx.length < 4611686018427387904) (hdb : b.ms.da.length < 4611686018427387904) :
  Calls Tryz.prog 8 #[.agg (acA xa1 xn1 xc1 xa2 xn2 xc2 xa3 xn3 xc3 xa4 xn4 xc4 xa5 xn5 xc5 a), .agg (acA ya1 yn1 yc1 ya2 yn2 yc2 ya3 yn3 yc3 ya4 yn4 yc4 ya5 yn5 yc5 b)] w fun e w' => e = .returned (.bool true) /\ Ext w w' := by
 obtain ⟨T, hT⟩ : ∃ T, T = w.heap.size := ⟨_, rfl⟩
 obtain ⟨Vx, hVx⟩ : ∃ V, V = acA xa1 xn1 xc1 xa2 xn2 xc2 xa3 xn3 xc3 xa4 xn4 xc4 xa5 xn5 xc5 a := ⟨_, rfl⟩
 obtain ⟨Vy, hVy⟩ : ∃ V, V = acA ya1 yn1 yc1 ya2 yn2 yc2 ya3 yn3 yc3 ya4 yn4 yc4 ya5 yn5 yc5 b := ⟨_, rfl⟩
 rw [<- hVx, <- hVy]
 have hsx : Hid (Vx.size = 36) := hid (by rw [hVx]; rfl)
 have hsy : Hid (Vy.size = 36) := hid (by rw [hVy]; rfl)
 have hx0 := ((Mod.refl (fun _ => False) w).alloc (.cells Vx 32)).alloc (.cells Vy 32)
 have hTx0 : ((w.alloc (.cells Vx 32)).alloc (.cells Vy 32)).heap[T]? = some (.cells Vx 32 (0, 0)) := by rw [alloc_get, World.size_alloc, hT, if_neg (by omega)]; exact heap_alloc_new w _
 have hTy0 : ((w.alloc (.cells Vx 32)).alloc (.cells Vy 32)).heap[T + 1]? = some (.cells Vy 32 (0, 0)) := by rw [alloc_get, World.size_alloc, hT, if_pos rfl]
 have hG0 := hid (hG.ext hx0)
 have ha0 := hid (ha.ext hx0)
 have hb0 := hid (hb.ext hx0)
 have hsn := hid (sane_any ((w.alloc (.cells Vx 32)).alloc (.cells Vy 32)) hG0.out)
 replace hx0 := hid hx0
 replace hTx0 := hid hTx0
 replace hTy0 := hid hTy0
 replace hVx := hid hVx
 replace hVy := hid hVy
 have hsz2 : ((w.alloc (.cells Vx 32)).alloc (.cells Vy 32)).heap.size = w.heap.size + 1 + 1 := by rw [World.size_alloc, World.size_alloc]
 clear ha hb hG
 go_enter Tryz.func8, Tryz.ntmps8
 go_wp2_with fail
 rw [<- hT] at hsz2 ⊢
 generalize ((w.alloc (.cells Vx 32)).alloc (.cells Vy 32)) = w0 at hTx0 hTy0 hx0 hG0 ha0 hb0 hsn hsz2 ⊢
 have hwT : w.heap.size <= T := Nat.le_of_eq hT.symm
 replace hT := hid hT
 refine hsn.out.mono ?_; rintro e w1 ⟨rfl, hx⟩
 have hlt0 : T + 1 < w1.heap.size := by have := hx.size; omega
 replace hsz2 := hid hsz2
 have hTx1 := hid (hx.at hTx0.out (fun h => h))
 have hTy1 := hid (hx.at hTy0.out (fun h => h))
 have hG1 := hid (hG0.out.ext hx)
 have ha1 := hid (ha0.out.ext hx)
 have hb1 := hid (hb0.out.ext hx)
 have hx01 := hid (hx0.out.trans hx)
 clear hsn hx hTx0 hTy0 hG0 ha0 hb0 hx0
 have hsha := short_any xa1 xn1 xc1 xa2 xn2 xc2 xa3 xn3 xc3 xa4 xn4 xc4 xa5 xn5 xc5 a w1 ha1.out hta hda
 rw [<- hVx.out] at hsha
 replace hsha := hid hsha
 go_wp2_with (refine wpList_loadW (by rfl) 32 _ rfl T Vx _ _ _ rfl hTx1.out Tryz.underlying32 rfl (by rw [hsx.out]; kernel_rfl) ?_)
 refine hsha.out.mono ?_; rintro e w2 ⟨rfl, h2, hx⟩
 have hG2 := hid (hG1.out.ext hx)
 have hx02 := hid (hx01.out.trans hx)
 have hTx2 := hid (hx.at hTx1.out (fun h => h))
 have hTy2 := hid (hx.at hTy1.out (fun h => h))
 have ha2 := hid (ha1.out.ext hx)
 have hb2 := hid (hb1.out.ext hx)
 obtain ⟨Ux, hUx⟩ : ∃ U, U = acA xa1 xn1 xc1 xa2 (min xn2 5) xc2 xa3 xn3 xc3 xa4 (min xn4 70) xc4 xa5 (min xn5 70) xc5 (shA a) := ⟨_, rfl⟩
 rw [<- hUx]
 have hux : Hid (Ux.size = 36) := hid (by rw [hUx]; rfl)
 have hlt2 : w.heap.size <= w2.heap.size := hx02.out.size
 have hacs := acs_one (w := w2) (sv := ⟨⟨.slice xa1 xn1 xc1, .slice xa2 (min xn2 5) xc2, .slice xa3 xn3 xc3⟩, .slice xa4 (min xn4 70) xc4, .slice xa5 (min xn5 70) xc5⟩) (a := shA a) (V := Ux) (by rw [hUx]; rfl) (h2.mono (fun k hk => by have := hx.size; omega))
 have hx3 := Mod.alloc (Mod.refl (fun _ => False) w2) (.cells Ux 32)
 have hpr := hid (print_any _ [shA a] (w2.alloc (.cells Ux 32)) (hG2.out.ext hx3) hacs)
 have hx3' := hid hx3
 replace hUx := hid hUx
 clear hsha h2 hx hacs hx3 hTx1 hTy1 ha1 hb1 hG1 hx01
 go_wp2_with (refine wpList_slice1 rfl _ _ rfl Tryz.underlying37 elA (by decide) Ux rfl hux.out ?_)
 refine hpr.out.mono ?_; rintro e w3 ⟨hr, hx⟩
 replace hx := hx3'.out.trans hx
 have hG3 := hid (hG2.out.ext hx)
 have hx03 := hid (hx02.out.trans hx)
 have hTx3 := hid (hx.at hTx2.out (fun h => h))
 have hTy3 := hid (hx.at hTy2.out (fun h => h))
 have ha3 := hid (ha2.out.ext hx)
 have hb3 := hid (hb2.out.ext hx)
 obtain ⟨Sx, fx, rfl, hpx⟩ := printR_parts hr
 have hlt3 : w.heap.size <= w3.heap.size := hx03.out.size
 replace hpx := hid hpx
 clear hpr hx hr hx3' hTx2 hTy2 ha2 hb2 hG2 hx02 hlt2
 have hshb := short_any ya1 yn1 yc1 ya2 yn2 yc2 ya3 yn3 yc3 ya4 yn4 yc4 ya5 yn5 yc5 b w3 hb3.out htb hdb
 rw [<- hVy.out] at hshb
 replace hshb := hid hshb
 go_wp2_with (refine wpList_loadW (by rfl) 32 _ rfl (T + 1) Vy _ _ _ rfl hTy3.out Tryz.underlying32 rfl (by rw [hsy.out]; kernel_rfl) ?_)
 refine hshb.out.mono ?_; rintro e w4 ⟨rfl, h2, hx⟩
 have hG4 := hid (hG3.out.ext hx)
 have hx04 := hid (hx03.out.trans hx)
 have hTx4 := hid (hx.at hTx3.out (fun h => h))
 have hTy4 := hid (hx.at hTy3.out (fun h => h))
 have ha4 := hid (ha3.out.ext hx)
 have hb4 := hid (hb3.out.ext hx)
 obtain ⟨Uy, hUy⟩ : ∃ U, U = acA ya1 yn1 yc1 ya2 (min yn2 5) yc2 ya3 yn3 yc3 ya4 (min yn4 70) yc4 ya5 (min yn5 70) yc5 (shA b) := ⟨_, rfl⟩
 rw [<- hUy]
 have huy : Hid (Uy.size = 36) := hid (by rw [hUy]; rfl)
 have hlt4 : w.heap.size <= w4.heap.size := hx04.out.size
 have hacs := acs_one (w := w4) (sv := ⟨⟨.slice ya1 yn1 yc1, .slice ya2 (min yn2 5) yc2, .slice ya3 yn3 yc3⟩, .slice ya4 (min yn4 70) yc4, .slice ya5 (min yn5 70) yc5⟩) (a := shA b) (V := Uy) (by rw [hUy]; rfl) (h2.mono (fun k hk => by have := hx.size; omega))
 have hx3 := Mod.alloc (Mod.refl (fun _ => False) w4) (.cells Uy 32)
 have hpr := hid (print_any _ [shA b] (w4.alloc (.cells Uy 32)) (hG4.out.ext hx3) hacs)
 have hx3' := hid hx3
 replace hUy := hid hUy
 clear hshb h2 hx hacs hx3 hTx3 hTy3 ha3 hb3 hG3 hx03
 go_wp2_with (refine wpList_slice1 rfl _ _ rfl Tryz.underlying37 elA (by decide) Uy rfl huy.out ?_)
 refine hpr.out.mono ?_; rintro e w5 ⟨hr, hx⟩
 replace hx := hx3'.out.trans hx
 have hG5 := hid (hG4.out.ext hx)
 have hx05 := hid (hx04.out.trans hx)
 have hTx5 := hid (hx.at hTx4.out (fun h => h))
 have hTy5 := hid (hx.at hTy4.out (fun h => h))
 have ha5 := hid (ha4.out.ext hx)
 have hb5 := hid (hb4.out.ext hx)
 obtain ⟨Sy, fy, rfl, hpy⟩ := printR_parts hr
 have hlt5 : w.heap.size <= w5.heap.size := hx05.out.size
 replace hpy := hid hpy
 clear hpr hx hr hx3' hTx4 hTy4 ha4 hb4 hG4 hx04 hlt4
 rcases hpx.out with ⟨rfl, sx, hpx1, rfl⟩ | ⟨rfl, -, rfl⟩
 ·obtain ⟨hva, hsx1⟩ := print_line hpx1
  have hnxl : sx.length <= 65536 := (print_some hpx1).2.2.1
  have hpar : parts 10 sx = [line (shA a), []] := by rw [hsx1]; exact line_parts hva
  have hsk := line_skip hva
  obtain ⟨L, hL⟩ : ∃ L, L = line (shA a) := ⟨_, rfl⟩
  rw [<- hL] at hsx1 hpar hsk
  have hln := fun W => linesL_any sx (by omega) W
  rw [hpar] at hln
  obtain ⟨S, hS⟩ : ∃ S : ByteArray, S = ⟨sx.toArray⟩ := ⟨_, rfl⟩
  have hSz : S.size = L.length + 1 := by rw [hS, hsx1]; show (L ++ [10]).toArray.size = _; simp
  have hLb : L.length <= 65536 := by have := congrArg List.length hsx1; simp at this; omega
  have hSe : S.toList.isEmpty = false := by rw [hS]; simp [hsx1]
  have hkl : L.length < S.size := by omega
  have hkli : (L.length : Int) < (S.size : Int) := by omega
  have hSpos : (0 : Int) < (S.size : Int) := by omega
  have hg10 : S[L.length] = 10 := by subst hS; subst hsx1; show (L ++ [10]).toArray[L.length] = 10; simp
  have hw1 : IntKind.i64.wrap ((S.size : Int) - 1) = (L.length : Int) := by rw [IntWalk.i64_in _ (by omega)]; omega
  have b10 : ((S[L.length].toNat : Int) == 10) = true := by rw [hg10]; rfl
  have b10i : S[L.length].toNat = 10 := by rw [hg10]; rfl
  rw [<- hS] at hln ⊢
  have hig := fun W => ignored_any L W
  rw [hsk] at hig
  replace hS := hid hS
  replace hSz := hid hSz
  replace hsx1 := hid hsx1
  replace hpx1 := hid hpx1
  replace hg10 := hid hg10
  replace hpar := hid hpar
  replace hL := hid hL
  replace hva := hid hva
  replace hln := hid hln
  replace hig := hid hig
  replace hsk := hid hsk
  clear hpx
  go_wp2_with fail
  refine (hln.out w5).mono ?_; rintro e w6 ⟨aw, cw, rfl, -, hx⟩
  have hTx6 := hid (hx.at hTx5.out (fun h => h))
  have hTy6 := hid (hx.at hTy5.out (fun h => h))
  have ha6 := hid (ha5.out.ext hx)
  have hb6 := hid (hb5.out.ext hx)
  have hx06 := hid (hx05.out.trans hx)
  have hlt6 : w5.heap.size <= w6.heap.size := hx.size
  clear hx hTx5 hTy5 ha5 hb5 hx05
  go_wp2_with fail
  refine (hln.out w6).mono ?_; rintro e w7 ⟨av, cv, rfl, hst, hx⟩
  have hTx7 := hid (hx.at hTx6.out (fun h => h))
  have hTy7 := hid (hx.at hTy6.out (fun h => h))
  have ha7 := hid (ha6.out.ext hx)
  have hb7 := hid (hb6.out.ext hx)
  have hx07 := hid (hx06.out.trans hx)
  have hlt7 : w6.heap.size <= w7.heap.size := hx.size
  obtain ⟨bL, oL, cL, eL, -, hcL⟩ := RowAt.get hst 1 strC_len (by decide) (j := 0) (by simp)
  injection eL with eL1 _ eL3
  subst eL1 eL3
  have hcell := hcL 0 (.string ⟨L.toArray⟩) (by decide) rfl
  simp only [Nat.zero_mul, Nat.add_zero] at hcell
  have hl2 : ([L, []] : List Bs).length = 2 := rfl
  rw [hl2]
  clear hx hTx6 hTy6 ha6 hb6 hx06 hcL hst
  go_wp2_with fail
  refine (hig.out w7).mono ?_; rintro e w8 ⟨rfl, hw8⟩
  subst hw8
  clear hcell
  rcases hpy.out with ⟨rfl, sy, hpy1, rfl⟩ | ⟨rfl, -, rfl⟩
  ·have hsame := lines_same hpx1.out hpy1
   have hSx : (decide (sx = sy)) = decide (S = (⟨sy.toArray⟩ : ByteArray)) := by
    rw [hS.out]
    by_cases h : sx = sy
    ·subst h; simp
    ·rw [decide_eq_false h, decide_eq_false]
     intro e; injection e with e; exact h (by simpa using congrArg Array.toList e)
   rw [hSx] at hsame
   obtain ⟨R, hR⟩ : ∃ R : ByteArray, R = ⟨sy.toArray⟩ := ⟨_, rfl⟩
   rw [<- hR] at hsame ⊢
   have hA := fun W (hW : Ext w7 W) => short_any xa1 xn1 xc1 xa2 xn2 xc2 xa3 xn3 xc3 xa4 xn4 xc4 xa5 xn5 xc5 a W (ha7.out.ext hW) hta hda
   have hB := fun W (hW : Ext w7 W) => short_any ya1 yn1 yc1 ya2 yn2 yc2 ya3 yn3 yc3 ya4 yn4 yc4 ya5 yn5 yc5 b W (hb7.out.ext hW) htb hdb
   rw [<- hVx.out] at hA
   rw [<- hVy.out] at hB
   replace hA := hid hA
   replace hB := hid hB
   replace hR := hid hR
   replace hpy1 := hid hpy1
   replace hsame := hid hsame
   clear hpy
   go_upto_region 8 with fail
   try simp only [List.append_eq, List.cons_append, List.nil_append]
   refine wp_region_sched (fun W => Ext w7 W) [(0, true), (1, true), (2, true), (3, true), (4, true), (5, true), (6, true), (7, true), (8, true), (10, true), (9, false), (11, false), (12, false), (13, true), (14, true), (15, true), (16, true)]
    (by as_aux_lemma => kernel_rfl) (by as_aux_lemma => kernel_rfl) (by as_aux_lemma => kernel_rfl) (by decide) (Mod.drew0 (fun _ => False) w7) ?_
   simp only [schedOps, List.map_cons, List.map_nil, List.getD_cons_zero, List.getD_cons_succ]
   have hy0 := hid (Mod.drew0 (fun _ => False) w7)
   iterate 8 (refine qT ?_)
   refine wpS_loadW (by rfl) 32 _ rfl T Vx _ _ _ rfl (fun W hW => hW.at hTx7.out (fun h => h)) Tryz.underlying32 rfl (by rw [hsx.out]; kernel_rfl) ?_
   try simp only [Act.put, sA, sZ, sS]
   refine wpS_loadW (by rfl) 32 _ rfl (T + 1) Vy _ _ _ rfl (fun W hW => hW.at hTy7.out (fun h => h)) Tryz.underlying32 rfl (by rw [hsy.out]; kernel_rfl) ?_
   try simp only [Act.put, sA, sZ, sS]
   refine wpS_c (by rfl) (fun K hK => ?_)
   go_simp
   refine (hA.out _ hy0.out).mono ?_; rintro e w9 ⟨rfl, hA9, hxn⟩
   refine hK.out _ _ (hy0.out.trans hxn) ?_
   have hy1 := hid (hy0.out.trans hxn)
   clear hK K hxn
   try simp only [Act.put, sA, sZ, sS]
   refine wpS_c (by rfl) (fun K hK => ?_)
   go_simp
   refine (hB.out _ hy1.out).mono ?_; rintro e w10 ⟨rfl, hB10, hxn⟩
   refine hK.out _ _ (hy1.out.trans hxn) ?_
   have hy2 := hid (hy1.out.trans hxn)
   have hA10 := (hA9.ext hxn).mono (F' := fun k => k < w10.heap.size) (fun k hk => by have := hy2.out.size; omega)
   have hB10' := hB10.mono (F' := fun k => k < w10.heap.size) (fun k hk => by have := hy2.out.size; omega)
   have hsm := hid (actSame_any xa1 xn1 xc1 xa2 (min xn2 5) xc2 xa3 xn3 xc3 xa4 (min xn4 70) xc4 xa5 (min xn5 70) xc5 (shA a) ya1 yn1 yc1 ya2 (min yn2 5) yc2 ya3 yn3 yc3 ya4 (min yn4 70) yc4 ya5 (min yn5 70) yc5 (shA b) w10 hA10 hB10')
   clear hK K hxn hA9 hA10 hB10 hB10'
   try simp only [Act.put, sA, sZ, sS]
   refine wpS_c (by rfl) (fun K hK => ?_)
   go_simp
   refine hsm.out.mono ?_; rintro e w11 ⟨rfl, hxn⟩
   rw [<- hsame.out]
   refine hK.out _ _ (hy2.out.trans hxn) ?_
   have hy3 := hid (hy2.out.trans hxn)
   clear hK K hxn hsm
   try simp only [Act.put, sA, sZ, sS]
   iterate 4 (refine qT ?_)
   refine wpS_nil ?_
   go_wp2_with fail
   go_ret
   have key : (S.toList == R.toList) = decide (S = R) := by
    rw [hS.out, hR.out]
    by_cases h : sx = sy
    ·subst h; simp
    ·have h2 : ¬ (⟨sx.toArray⟩ : ByteArray) = ⟨sy.toArray⟩ := fun e => h (by injection e with e; simpa using congrArg Array.toList e)
     rw [decide_eq_false h2]; simpa using h
   exact ⟨by simp [key], hx07.out.trans hy3.out⟩
  ·clear hpy
   go_upto_region 8 with fail
   try simp only [List.append_eq, List.cons_append, List.nil_append]
   refine wp_region_sched (fun W => Ext w7 W) [(0, true), (1, true), (2, true), (3, true), (4, true), (5, true), (6, true), (7, true), (8, true), (10, true), (9, false), (11, false), (12, false), (13, true), (14, true), (15, true), (16, true)]
    (by as_aux_lemma => kernel_rfl) (by as_aux_lemma => kernel_rfl) (by as_aux_lemma => kernel_rfl) (by decide) (Mod.drew0 (fun _ => False) w7) ?_
   simp only [schedOps, List.map_cons, List.map_nil, List.getD_cons_zero, List.getD_cons_succ]
   have hy0 := hid (Mod.drew0 (fun _ => False) w7)
   iterate 5 (refine qT ?_)
   iterate 9 (refine nT ?_)
   iterate 3 (refine qT ?_)
   refine wpS_nil ?_
   go_wp2_with fail
   go_ret
   exact ⟨rfl, hx07.out.trans hy0.out⟩
 ·clear hpx hpy
  go_wp2_with fail
  go_ret
  exact ⟨rfl, hx05.out⟩
end Go.Proofs.YtpaefpnkemkikaaGreatDoor
