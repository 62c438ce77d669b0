import Derived.Test.YtpaefpnkemkikaaGreatDoorC15
import Derived.Test.YtpaefpnkemkikaaGreatDoorA16
import Derived.Test.YtpaefpnkemkikaaGreatDoorTh10
import Derived.Test.YtpaefpnkemkikaaGreatDoorC6
set_option maxRecDepth 100000
set_option maxHeartbeats 16000000
namespace Go.Proofs.YtpaefpnkemkikaaGreatDoor
open Go.Shelf Go.RowKit Cdk Scr
theorem FmsAt.mod {F S : Nat -> Prop} {w w' : World} {v : Value} (h : FmsAt F w v) (hm : Mod S w w') (hS : ∀ k, F k -> ¬ S k) : FmsAt F w' v := by
 obtain ⟨rows, h1, h2, h3⟩ := h
 exact ⟨rows, h1, h2.mod hm hS, fun j hj => (h3 j hj).mod hm hS⟩
theorem FmsAt.ext {F : Nat -> Prop} {w w' : World} {v : Value} (h : FmsAt F w v) (hm : Ext w w') : FmsAt F w' v := h.mod hm (fun _ _ h => h)
theorem acAt_slices {F : Nat -> Prop} {w : World} {s : AV} {a : Ac} (h : AcAt F w s a) : ∃ (a1 : Option Addr) (n1 c1 : Nat) (a2 : Option Addr) (n2 c2 : Nat) (a3 : Option Addr) (n3 c3 : Nat) (a4 : Option Addr) (n4 c4 : Nat) (a5 : Option Addr) (n5 c5 : Nat), s = ⟨⟨.slice a1 n1 c1, .slice a2 n2 c2, .slice a3 n3 c3⟩, .slice a4 n4 c4, .slice a5 n5 c5⟩ := by
 obtain ⟨⟨h1, h2, h3⟩, h4, h5⟩ := h
 obtain ⟨⟨x1, x2, x3⟩, x4, x5⟩ := s
 obtain ⟨_, _, rfl⟩ := h1.slice
 obtain ⟨_, _, rfl⟩ := h2.slice
 obtain ⟨_, _, rfl⟩ := h3.slice
 obtain ⟨_, _, rfl⟩ := h4.slice
 obtain ⟨_, _, rfl⟩ := h5.slice
 exact ⟨_, _, _, _, _, _, _, _, _, _, _, _, _, _, _, rfl⟩
theorem line_le {a : Ac} (hv : vAc a = true) : (line a).length <= 100000000 := by
 obtain ⟨ok, hm⟩ := vAc_ok hv
 unfold line
 have key : ∀ (l : List Fm) (k : Nat), l = forms.drop k -> k <= 18 -> (match findF a.kd a.fc.kd k l with | none => ([] : Bs) | some (j, f) => join 32 (f.wd :: writeF j a)).length <= 100000000 := by
  intro l
  induction l with
  | nil => intro k _ _; simp [findF]
  | cons f r ih =>
   intro k hk h18
   have hk' : k < 18 := by
    rcases Nat.lt_or_ge k 18 with h | h
    ·exact h
    ·have : forms.drop k = [] := List.drop_eq_nil_of_le h
     rw [this] at hk; cases hk
   obtain ⟨ff, e, k1, k2, k3⟩ := forms_at hk'
   rw [e] at hk
   injection hk with e1 e2
   subst e1
   simp only [findF]
   by_cases hh : f.kd = a.kd /\ f.fk = a.fc.kd
   ·rw [if_pos hh]
    have hm17 : k = 17 -> vMs a.ms = true := fun e => hm (by rw [<- hh.1, k1]; exact forms_17 hk' e)
    obtain ⟨hw9, hwl⟩ := words_le ok hm17
    have hwd : f.wd.length <= 3000000 := by
     rw [k3]
     have : ∀ k : Fin 18, (fmWd k.val).length <= 3000000 := by decide
     exact this ⟨k, hk'⟩
    have h1 := join_le 32 3000000 (f.wd :: writeF k a) (fun x hx => by
     rcases List.mem_cons.1 hx with rfl | hx
     ·exact hwd
     ·exact hwl x hx)
    rw [List.length_cons] at h1
    have h3 : ((writeF k a).length + 1) * (3000000 + 1) <= 10 * 3000001 := Nat.mul_le_mul (by omega) (Nat.le_refl _)
    simp only
    omega
   ·rw [if_neg hh]
    exact ih (k + 1) e2 (by omega)
 exact key forms 0 rfl (by omega)
def printR (l : List Ac) (e : Ending) : Prop := e = match print l with | some s => .returned (.tuple #[.string ⟨s.toArray⟩, .int .i64 0]) | none => .returned (.tuple #[.string ⟨#[]⟩, .int .i64 280])
theorem print_none1 {l : List Ac} (h : 100 < l.length) : print l = none := by unfold print; rw [if_neg]; simp; omega
theorem print_none2 {l : List Ac} {a : Ac} (h : a ∈ l) (hv : vAc a = false) : print l = none := by
 unfold print
 rw [if_neg]
 simp only [Bool.and_eq_true, List.all_eq_true, not_and, decide_eq_true_eq]
 intro _ hh
 have := hh a h
 rw [hv] at this; cases this
theorem print_none3 {l : List Ac} {j : Nat} (h : 65536 < ((l.take j).flatMap lnF).length) : print l = none := by
 unfold print
 rw [if_neg]
 simp only [Bool.and_eq_true, decide_eq_true_eq, not_and]
 intro _ _ hh
 have : (l.flatMap lnF).length = ((l.take j).flatMap lnF).length + ((l.drop j).flatMap lnF).length := by
  rw [<- List.length_append, <- List.flatMap_append, List.take_append_drop]
 omega
theorem print_any (v : Value) (l : List Ac) (w : World) (hG : Gl w) (h : AcsAt (fun k => k < w.heap.size) w v l) :
  Calls Tryz.prog 19 #[v] w fun e w' => printR l e /\ Ext w w' := by
 obtain ⟨ao, cap, rfl⟩ := h.slice
 obtain ⟨n, hn⟩ : ∃ n, n = l.length := ⟨_, rfl⟩
 have hn0 := h.len
 rw [<- hn] at h hn0 ⊢
 replace hn := hid hn
 replace h := hid h
 replace hG := hid hG
 by_cases h100 : 100 < n
 ·have hi : (100 : Int) < (n : Int) := by omega
  have hp := hid (print_none1 (l := l) (by rw [<- hn.out]; exact h100))
  go_enter Tryz.func19, Tryz.ntmps19
  go_wp2_with fail
  go_ret2
  exact ⟨by unfold printR; rw [hp.out]; rfl, Mod.refl _ _⟩
 have hi : ¬ (100 : Int) < (n : Int) := by omega
 go_enter Tryz.func19, Tryz.ntmps19
 go_wp2_with fail
 refine (forms_any w).mono ?_; rintro e w1 ⟨fo, fcap, rfl, hF, hx1⟩
 have hb0 := Bld.fresh w1
 have hxb := Mod.alloc (Mod.refl (fun _ => False) w1) (.cells #[.pointer none, .slice none 0 0] bldT)
 have hF1 := hid (FmsAt.ext (hF) hxb)
 have hs1 : w.heap.size <= w1.heap.size := hx1.size
 have hw2 := hid (hx1.trans hxb)
 clear hF hx1 hxb
 go_wp2_with fail
 generalize (w1.alloc _) = w2 at hb0 hF1 hw2 ⊢
 generalize w1.heap.size = B at hb0 hF1 hs1 ⊢
 replace hb0 := hid hb0
 go_loopg [14] n (fun g i wr => ∃ (j : Nat) (ty : Bs), j + g = n /\ i = .int .i64 j /\ Bld B B ty wr /\ KeepB B B w2 wr /\ ty = (l.take j).flatMap lnF /\ ((l.take j).all vAc = true) /\ ty.length <= 65536)
 case atStart => exact ⟨0, [], by omega, rfl, hb0.out, KeepB.refl _ _ _, rfl, rfl, by decide⟩
 case round =>
  clear hb0
  obtain ⟨j, ty, hj, rfl, hB, hK, ht, hall, hlen⟩ := hrel
  replace hj := hid hj
  have hm : Mod (fun k => B <= k) w wr := (hw2.out.mono (T := fun k => B <= k) (fun _ h => h.elim)).trans hK.1
  by_cases hlt : j < n
  ·have hdi : (j : Int) < (n : Int) := by omega
   have hd : decide ((j : Int) < (n : Int)) = true := decide_eq_true hdi
   have hjl : j < l.length := by have := hn.out; omega
   obtain ⟨b1, o1, cap', sv, e, hFb, hA, hc⟩ := (h.out.mod hm (fun k h1 h2 => by omega)).get hjl
   have htk : (l.take (j + 1)).flatMap lnF = ty ++ lnF l[j] := by rw [List.take_succ_eq_append_getElem hjl, List.flatMap_append, <- ht]; simp
   have hall2 : (l.take (j + 1)).all vAc = ((l.take j).all vAc && vAc l[j]) := by rw [List.take_succ_eq_append_getElem hjl, List.all_append]; simp
   have hmem : l[j] ∈ l := List.getElem_mem _
   injection e with e1 e2 e3
   subst e1
   clear e2 e3
   obtain ⟨a1, n1, c1, a2, n2, c2, a3, n3, c3, a4, n4, c4, a5, n5, c5, rfl⟩ := acAt_slices hA
   generalize l[j] = a at hA hc htk hall2 hmem
   obtain ⟨V, hV⟩ : ∃ V, V = acA a1 n1 c1 a2 n2 c2 a3 n3 c3 a4 n4 c4 a5 n5 c5 a := ⟨_, rfl⟩
   have hr : wr.rangeAt b1 (o1 + j * 36) V.toList := fun i u hu => by
    have hu' : (acC (⟨⟨.slice a1 n1 c1, .slice a2 n2 c2, .slice a3 n3 c3⟩, .slice a4 n4 c4, .slice a5 n5 c5⟩, a))[i]? = some u := by rw [hV] at hu; exact hu
    exact hc i u (List.getElem?_eq_some_iff.1 hu').1 hu'
   have hVs : V.toList.length = 36 := by rw [hV]; rfl
   have hVi : (Tryz.prog.info? 32).map (·.size) = some V.toList.length := by rw [hVs]; kernel_rfl
   have hVj : (Tryz.prog.info? 32).map (·.size) = some V.size := by rw [<- Array.length_toList]; exact hVi
   have hV1 : V.toList.all (·.oneCell') = true := by rw [hV]; rfl
   have hVa : V.toList.toArray = V := by simp
   clear hc
   have hBl := hB.lt
   replace hA := hid hA
   replace hB := hid hB
   replace hK := hid hK
   replace hm := hid hm
   replace ht := hid ht
   replace htk := hid htk
   replace hlen := hid hlen
   replace hV := hid hV
   replace hr := hid hr
   replace hVi := hid hVi
   replace hVj := hid hVj
   replace hVs := hid hVs
   replace hV1 := hid hV1
   replace hVa := hid hVa
   replace hall2 := hid hall2
   replace hmem := hid hmem
   go_upto_region 8 with (first | (refine wpList_load_mid rfl 32 _ rfl b1 (o1 + j * 36) rfl V.toList _ hr.out Tryz.underlying32 rfl hVi.out ?_) | (refine wpList_storeW rfl 32 _ _ rfl wr.heap.size _ V 32 rfl (by rw [<- hVa.out]; rfl) (heap_alloc_new wr _) (by rw [<- Array.length_toList, hVs.out]; rfl) hVj.out hV1.out (fun WS HS => ?_)))
   obtain ⟨zs, hzs⟩ : ∃ zs, Hid (Mod (Eq wr.heap.size) (wr.alloc (.cells zs 32)) WS) := ⟨_, hid HS.out.2⟩
   have hX2 : Ext wr WS := (((Mod.alloc (Mod.refl (fun _ => False) wr) (.cells zs 32)).mono (T := fun k => wr.heap.size <= k) (fun _ h => h.elim)).then hzs.out (fun k _ e => by omega)).mono' (fun k h1 h2 => by omega)
   have hT := hid HS.out.1
   have hTB : wr.heap.size ≠ B := by omega
   generalize wr.heap.size = T at hT hTB ⊢
   clear HS hzs
   have hBS := hid (hB.out.ext hX2)
   have hKS := hid (hK.out.ext hX2)
   have hAS := hid ((hA.out.ext hX2))
   have hmS := hid (hm.out.trans (hX2.mono (T := fun k => B <= k) (fun _ h => h.elim)))
   have hsz : w.heap.size <= WS.heap.size := hmS.out.size
   clear hB hK hA hm hr hX2
   have hvl := hid (svalid_any a1 n1 c1 a2 n2 c2 a3 n3 c3 a4 n4 c4 a5 n5 c5 a WS (hAS.out.mono (fun k hk => by omega)))
   rw [<- hV.out] at hvl
   clear hsz
   cases hva : vAc a with
   | false =>
    rw [hva] at hvl
    have hp := hid (print_none2 hmem.out hva)
    replace hva := hid hva
    go_wp2_with (first | (refine wpList_loadW (by rfl) 32 _ rfl T V _ _ _ rfl hT.out Tryz.underlying32 rfl hVj.out ?_))
    refine hvl.out.mono ?_; rintro e w3 ⟨rfl, hx3⟩
    have hx3 := hid (hmS.out.trans (hx3.mono (T := fun k => B <= k) (fun _ h => h.elim)))
    go_wp2_with fail
    go_ret2
    exact ⟨by unfold printR; rw [hp.out]; rfl, mod_ext hs1 hx3.out⟩
   | true =>
    rw [hva] at hvl
    have hll := hid (line_le hva)
    go_wp2_with (first | (refine wpList_loadW (by rfl) 32 _ rfl T V _ _ _ rfl hT.out Tryz.underlying32 rfl hVj.out ?_))
    refine hvl.out.mono ?_; rintro e w3 ⟨rfl, hx3⟩
    have hT3 := hid (hx3.at hT.out (fun h => h))
    have hB3 := hid (hBS.out.ext hx3)
    have hK3 := hid (hKS.out.ext hx3)
    have hm3 := hid (hmS.out.trans (hx3.mono (T := fun k => B <= k) (fun _ h => h.elim)))
    have hA3 := hid (hAS.out.ext hx3)
    clear hvl hT hBS hKS hmS hAS hx3
    have hsz : w.heap.size <= w3.heap.size := hm3.out.size
    have hF3 := FmsAt.mod hF1.out hK3.out.1 (fun k h1 h2 => by have := h1.2; omega)
    have hG3 := hG.out.mod hm3.out (fun k h => by have := hG.out.size; omega)
    have hln := hid (line_any (.slice fo 18 fcap) a1 n1 c1 a2 n2 c2 a3 n3 c3 a4 n4 c4 a5 n5 c5 a w3 hG3 hF3 (hA3.out.mono (fun k hk => by omega)) hva)
    rw [<- hV.out] at hln
    replace hva := hid hva
    clear hF3 hG3 hsz hA3
    generalize hlt2 : line a = tl at hln hll
    have hlnF : lnF a = tl ++ [10] := by rw [lnF, hlt2]
    replace hlnF := hid hlnF
    replace hlt2 := hid hlt2
    go_wp2_with (first | (refine wpList_loadW (by rfl) 32 _ rfl T V _ _ _ rfl hT3.out Tryz.underlying32 rfl hVj.out ?_))
    refine hln.out.mono ?_; rintro e w4 ⟨rfl, hx4⟩
    have hB4 := hB3.out.ext hx4
    have hK4 := hid (hK3.out.ext hx4)
    have hm4 := hid (hm3.out.trans (hx4.mono (T := fun k => B <= k) (fun _ h => h.elim)))
    clear hln hB3 hK3 hm3 hx4 hT3
    go_wp2_with fail
    refine (putStr_any B B ty ⟨tl.toArray⟩ w4 hB4 (by have := hlen.out; have := hll.out; rw [size_bs]; omega)).mono ?_; rintro e w5 ⟨rfl, hB5, hK5⟩
    have hm5 := hid (hm4.out.trans hK5.1)
    have hK5 := hid (hK4.out.trans hK5)
    clear hB4 hK4 hm4
    go_wp2_with fail
    refine (putByte_any B B _ 10 w5 hB5 (by have := hlen.out; have := hll.out; simp only [List.length_append]; omega)).mono ?_; rintro e w6 ⟨rfl, hB6, hK6⟩
    have hm6 := hid (hm5.out.trans hK6.1)
    have hK6 := hid (hK5.out.trans hK6)
    clear hB5 hK5 hm5
    have hty : (ty ++ tl) ++ [10] = (l.take (j + 1)).flatMap lnF := by rw [htk.out, hlnF.out, List.append_assoc]
    have hty' : (ty ++ tl ++ [10]).length = ((l.take (j + 1)).flatMap lnF).length := by rw [hty]
    have hbl := hid (blen_any B B _ w6 hB6)
    obtain ⟨tq, htq⟩ : ∃ tq, tq = (ty ++ tl) ++ [10] := ⟨_, rfl⟩
    change Hid _ at hbl
    rw [<- htq] at hbl hB6 hty
    replace hB6 := hid hB6
    replace hty := hid hty
    replace htq := hid htq
    clear hty'
    go_wp2_with fail
    refine hbl.out.mono ?_; rintro e w7 ⟨rfl, rfl⟩
    by_cases hbig : 65536 < tq.length
    ·have hbi : (65536 : Int) < (tq.length : Int) := by omega
     have hp := hid (print_none3 (l := l) (j := j + 1) (by rw [<- hty.out]; exact hbig))
     go_wp2_with fail
     go_ret2
     exact ⟨by unfold printR; rw [hp.out]; rfl, mod_ext hs1 hm6.out⟩
    ·have hbi : ¬ (65536 : Int) < (tq.length : Int) := by omega
     go_wp2_with fail
     go_roundg (gk - 1)
     case measure => have := hj.out; omega
     case rel => exact ⟨j + 1, tq, by have := hj.out; omega, by go_num, hB6.out, hK6.out, hty.out, by rw [hall2.out, hall, hva.out]; rfl, by omega⟩
  ·obtain rfl : j = n := by have := hj.out; omega
   have hdi : ¬ (j : Int) < (j : Int) := by omega
   have hd : decide ((j : Int) < (j : Int)) = false := decide_eq_false hdi
   rw [List.take_of_length_le (by have := hn.out; omega)] at ht hall
   have hp := hid (show print l = some ty by
    unfold print
    rw [if_pos, <- ht]
    simp only [Bool.and_eq_true, decide_eq_true_eq]
    exact ⟨by have := hn.out; omega, hall, by rw [<- ht]; exact hlen⟩)
   have hst := hid (bstr_any B B ty wr hB)
   replace hm := hid hm
   replace ht := hid ht
   clear hB hK
   go_wp2_with fail
   refine hst.out.mono ?_; rintro e w4 ⟨rfl, hm4⟩
   replace hm4 := hid hm4
   go_wp2_with fail
   go_ret2
   exact ⟨by unfold printR; rw [hp.out]; rfl, mod_ext hs1 (hm.out.trans hm4.out)⟩
def RdAt (w : World) (R : Nat) (r : Rd) : Prop := w.heap[R]? = some (.cells #[.string ⟨r.rest.toArray⟩, .bool r.more, .bool r.bad] 106 (0, 0))
theorem RdAt.ext {w w' : World} {R : Nat} {r : Rd} (h : RdAt w R r) (hx : Ext w w') : RdAt w' R r := hx.at h (fun h => h)
theorem RdAt.lt {w : World} {R : Nat} {r : Rd} (h : RdAt w R r) : R < w.heap.size := lt_of_at h
abbrev RdM (R : Nat) (w w' : World) : Prop := Mod (fun k => k = R) w w'
theorem RdM.ofExt {R : Nat} {w w' : World} (h : Ext w w') : RdM R w w' := h.mono (fun _ h => h.elim)
theorem Gl.rd {R : Nat} {w w' : World} (h : Gl w) (hR : 10 <= R) (hm : RdM R w w') : Gl w' := h.mod hm (fun k hk => by omega)
theorem cut_any (s : Bs) (c : UInt8) (hs : s.length <= 1000000) (w : World) (hG : Gl w) : Calls Tryz.prog 80 #[.string ⟨s.toArray⟩, .string ⟨#[c]⟩] w fun e w' =>
  e = .returned (.tuple #[.string ⟨(cutB c s).1.toArray⟩, .string ⟨(cutB c s).2.1.toArray⟩, .bool (cutB c s).2.2]) /\ Ext w w' := by
 obtain ⟨m, hm⟩ := hG.mx
 have h := Tryz.strings_Cut ⟨s.toArray⟩ ⟨#[c]⟩ m w (by show s.toArray.size < 4294967281; simp; omega) hm
 have e : Lib.cut (⟨s.toArray⟩ : ByteArray).data.toList (⟨#[c]⟩ : ByteArray).data.toList = cutB c s := cutL_eq c s
 rw [e] at h
 refine h.mono ?_
 rintro e w' ⟨rfl, n, rfl⟩
 exact ⟨rfl, (Mod.refl _ w).ofDrewN n⟩
theorem word_any (R : Nat) (r : Rd) (w : World) (hG : Gl w) (h : RdAt w R r) (hs : r.rest.length <= 1000000) :
  Calls Tryz.prog 81 #[.pointer (some ⟨R, 0, none⟩)] w fun e w' => e = .returned (.string ⟨(rWord r).1.toArray⟩) /\ RdAt w' R (rWord r).2 /\ RdM R w w' := by
 obtain ⟨rest, more, bad⟩ := r
 unfold RdAt at h
 simp only at h hs
 have c0 : w.cell? ⟨R, 0, none⟩ = some (.string ⟨rest.toArray⟩) := cell_of' h 0
 have c1 : w.cell? ⟨R, 1, none⟩ = some (.bool more) := cell_of' h 1
 have c2 : w.cell? ⟨R, 2, none⟩ = some (.bool bad) := cell_of' h 2
 have z := free_of' h
 cases more with
 | false =>
  have hp := put_at' h 2 (.bool true)
  have hm := (Mod.refl (fun k => k = R) w).setCell (a := ⟨R, 2, none⟩) (fun _ => rfl) (.bool true)
  replace h := hid h
  replace hp := hid hp
  replace hm := hid hm
  go_enter Tryz.func81, Tryz.ntmps81
  go_wp2_with fail
  go_ret
  exact ⟨rfl, hp.out, hm.out⟩
 | true =>
  have hc := hid (cut_any rest 32 hs w hG)
  obtain ⟨q, hq⟩ : ∃ q, q = cutB 32 rest := ⟨_, rfl⟩
  rw [<- hq] at hc
  have hw : rWord ⟨rest, true, bad⟩ = (q.1, ⟨q.2.1, q.2.2, bad⟩) := by unfold rWord; rw [if_pos rfl, hq]
  rw [hw]
  obtain ⟨q1, q2, q3⟩ := q
  simp only at hc hw ⊢
  replace h := hid h
  replace hw := hid hw
  replace hq := hid hq
  go_enter Tryz.func81, Tryz.ntmps81
  go_wp2_with fail
  refine hc.out.mono ?_; rintro e w1 ⟨rfl, hx1⟩
  have h1 := hx1.at h.out (fun h => h)
  have d0 : w1.cell? ⟨R, 0, none⟩ = some (.string ⟨rest.toArray⟩) := cell_of' h1 0
  have d1 : w1.cell? ⟨R, 1, none⟩ = some (.bool true) := cell_of' h1 1
  have z1 := free_of' h1
  have p0 := put_at' h1 0 (.string ⟨q2.toArray⟩)
  have m0 := (RdM.ofExt (R := R) hx1).setCell (a := ⟨R, 0, none⟩) (fun _ => rfl) (.string ⟨q2.toArray⟩)
  have p1 := put_at' p0 1 (.bool q3)
  have m1 := m0.setCell (a := ⟨R, 1, none⟩) (fun _ => rfl) (.bool q3)
  replace p1 := hid p1
  replace m1 := hid m1
  clear p0 m0 hx1 h1 c0 c1 c2 z hc
  go_wp2_with fail
  go_ret
  exact ⟨rfl, p1.out, m1.out⟩
theorem tail_any (R : Nat) (r : Rd) (w : World) (h : RdAt w R r) :
  Calls Tryz.prog 121 #[.pointer (some ⟨R, 0, none⟩)] w fun e w' => e = .returned (.string ⟨(rTail r).1.toArray⟩) /\ RdAt w' R (rTail r).2 /\ RdM R w w' := by
 obtain ⟨rest, more, bad⟩ := r
 unfold RdAt at h
 simp only at h
 have c0 : w.cell? ⟨R, 0, none⟩ = some (.string ⟨rest.toArray⟩) := cell_of' h 0
 have c1 : w.cell? ⟨R, 1, none⟩ = some (.bool more) := cell_of' h 1
 have c2 : w.cell? ⟨R, 2, none⟩ = some (.bool bad) := cell_of' h 2
 have z := free_of' h
 cases more with
 | false =>
  have hp := put_at' h 2 (.bool true)
  have hm := (Mod.refl (fun k => k = R) w).setCell (a := ⟨R, 2, none⟩) (fun _ => rfl) (.bool true)
  replace h := hid h
  replace hp := hid hp
  replace hm := hid hm
  go_enter Tryz.func121, Tryz.ntmps121
  go_wp2_with fail
  go_ret
  exact ⟨rfl, hp.out, hm.out⟩
 | true =>
  have hp := put_at' h 1 (.bool false)
  have hm := (Mod.refl (fun k => k = R) w).setCell (a := ⟨R, 1, none⟩) (fun _ => rfl) (.bool false)
  have e0 : (w.setCell ⟨R, 1, none⟩ (.bool false)).cell? ⟨R, 0, none⟩ = some (.string ⟨rest.toArray⟩) := cell_of' hp 0
  replace h := hid h
  replace hp := hid hp
  replace hm := hid hm
  go_enter Tryz.func121, Tryz.ntmps121
  go_wp2_with fail
  go_ret
  exact ⟨rfl, hp.out, hm.out⟩
theorem toNum_any (R : Nat) (r : Rd) (s : Bs) (hs : s.length <= 1000000) (w : World) (hG : Gl w) (h : RdAt w R r) :
  Calls Tryz.prog 177 #[.pointer (some ⟨R, 0, none⟩), .string ⟨s.toArray⟩] w fun e w' => e = .returned (.int .i64 (toNum s r).1) /\ RdAt w' R (toNum s r).2 /\ RdM R w w' := by
 obtain ⟨rest, more, bad⟩ := r
 unfold RdAt at h
 simp only at h
 unfold toNum
 have key : ∀ (e : Ending) (w1 : World), True := fun _ _ => trivial
 cases ha : Go.Lib.atoiAll s with
 | ok v =>
  have hA := hid (Tryz.strconv_Atoi_ok ⟨s.toArray⟩ (by show s.toArray.size <= _; simp; omega) v ha w)
  replace h := hid h
  go_enter Tryz.func177, Tryz.ntmps177
  go_wp2_with fail
  refine hA.out.mono ?_; rintro e w1 ⟨rfl, hw⟩
  have hx : Ext w w1 := by
   rcases hw with rfl | ⟨t, rfl⟩
   ·exact Mod.refl _ _
   ·exact Mod.ofBelow (Lib.bytesWorld_below w _ t)
  replace hx := hid hx
  go_wp2_with fail
  go_ret
  exact ⟨rfl, hx.out.at h.out (fun h => h), RdM.ofExt hx.out⟩
 | range =>
  obtain ⟨tp, p, hvar⟩ := hG.er
  have hA := hid (Tryz.strconv_Atoi_range_var ⟨s.toArray⟩ (by show s.toArray.size <= _; simp; omega) ha tp p w hvar)
  replace h := hid h
  go_enter Tryz.func177, Tryz.ntmps177
  go_wp2_with fail
  refine hA.out.mono ?_; rintro e w1 ⟨N, rfl, -, -, hb⟩
  have hx : Ext w w1 := Mod.ofBelow hb
  have h1 := hx.at h.out (fun h => h)
  have c2 : w1.cell? ⟨R, 2, none⟩ = some (.bool bad) := cell_of' h1 2
  have z := free_of' h1
  have hp := put_at' h1 2 (.bool true)
  have hm := (RdM.ofExt (R := R) hx).setCell (a := ⟨R, 2, none⟩) (fun _ => rfl) (.bool true)
  replace hp := hid hp
  replace hm := hid hm
  clear hA hb hx h1
  go_wp2_with fail
  go_ret
  exact ⟨rfl, hp.out, hm.out⟩
 | _ =>
  obtain ⟨tp, p, hvar⟩ := hG.es
  have hA := hid (Tryz.strconv_Atoi_syntax_var ⟨s.toArray⟩ (by show s.toArray.size <= _; simp; omega) ha tp p w hvar)
  replace h := hid h
  go_enter Tryz.func177, Tryz.ntmps177
  go_wp2_with fail
  refine hA.out.mono ?_; rintro e w1 ⟨N, rfl, -, -, hb⟩
  have hx : Ext w w1 := Mod.ofBelow hb
  have h1 := hx.at h.out (fun h => h)
  have c2 : w1.cell? ⟨R, 2, none⟩ = some (.bool bad) := cell_of' h1 2
  have z := free_of' h1
  have hp := put_at' h1 2 (.bool true)
  have hm := (RdM.ofExt (R := R) hx).setCell (a := ⟨R, 2, none⟩) (fun _ => rfl) (.bool true)
  replace hp := hid hp
  replace hm := hid hm
  clear hA hb hx h1
  go_wp2_with fail
  go_ret
  exact ⟨rfl, hp.out, hm.out⟩
theorem cutB_le (c : UInt8) (s : Bs) : (cutB c s).1.length <= s.length /\ (cutB c s).2.1.length <= s.length := by
 rcases cutB_spec (c := c) s with ⟨-, e, -⟩ | ⟨-, e1, e2, -⟩
 ·have := congrArg List.length e
  simp only [List.length_append, List.length_cons] at this
  omega
 ·rw [e1, e2]; simp
theorem rWord_le (r : Rd) : (rWord r).1.length <= r.rest.length /\ (rWord r).2.rest.length <= r.rest.length := by
 unfold rWord
 split
 ·exact cutB_le 32 r.rest
 ·simp
theorem toNum_rest (s : Bs) (r : Rd) : (toNum s r).2.rest = r.rest := by unfold toNum; split <;> rfl
theorem rNum_le (r : Rd) : (rNum r).2.rest.length <= r.rest.length := by
 unfold rNum
 rw [toNum_rest]
 exact (rWord_le r).2
theorem number_any (R : Nat) (r : Rd) (w : World) (hG : Gl w) (hR : 10 <= R) (h : RdAt w R r) (hs : r.rest.length <= 1000000) :
  Calls Tryz.prog 109 #[.pointer (some ⟨R, 0, none⟩)] w fun e w' => e = .returned (.int .i64 (rNum r).1) /\ RdAt w' R (rNum r).2 /\ RdM R w w' := by
 have h1 := hid (word_any R r w hG h hs)
 have hl := hid (rWord_le r)
 go_enter Tryz.func109, Tryz.ntmps109
 go_wp2_with fail
 refine h1.out.mono ?_; rintro e w1 ⟨rfl, hr1, hm1⟩
 have h2 := hid (toNum_any R (rWord r).2 (rWord r).1 (by have := hl.out; omega) w1 (hG.rd hR hm1) hr1)
 go_wp2_with fail
 refine h2.out.mono ?_; rintro e w2 ⟨rfl, hr2, hm2⟩
 replace hr2 := hid hr2
 have hm := hid (hm1.trans hm2)
 clear hm1 hm2 hr1 h1 h2
 go_wp2_with fail
 go_ret
 exact ⟨rfl, hr2.out, hm.out⟩
def BrAt (w : World) (R : Nat) (t : Bs) (st : St) : Prop := ∃ a : Nat, a <= t.length /\ match st with
 | .ok r => r = t.drop a /\ w.heap[R]? = some (.cells #[.string ⟨t.toArray⟩, .int .i64 a, .int .i64 0] 184 (0, 0))
 | .error e => e ≠ 0 /\ w.heap[R]? = some (.cells #[.string ⟨t.toArray⟩, .int .i64 a, .int .i64 e] 184 (0, 0))
theorem BrAt.lt {w : World} {R : Nat} {t : Bs} {st : St} (h : BrAt w R t st) : R < w.heap.size := by
 obtain ⟨a, -, h⟩ := h
 cases st with
 | ok r => exact lt_of_at h.2
 | error e => exact lt_of_at h.2
theorem BrAt.mod {S : Nat -> Prop} {w w' : World} {R : Nat} {t : Bs} {st : St} (h : BrAt w R t st) (hm : Mod S w w') (hR : ¬ S R) : BrAt w' R t st := by
 obtain ⟨a, ha, h⟩ := h
 refine ⟨a, ha, ?_⟩
 cases st with
 | ok r => exact ⟨h.1, hm.at h.2 hR⟩
 | error e => exact ⟨h.1, hm.at h.2 hR⟩
theorem BrAt.ext {w w' : World} {R : Nat} {t : Bs} {st : St} (h : BrAt w R t st) (hx : Ext w w') : BrAt w' R t st := h.mod hx (fun h => h)
def stE : St -> Int
 | .ok _ => 0
 | .error e => e
theorem BrAt.err {w : World} {R : Nat} {t : Bs} {st : St} (h : BrAt w R t st) : w.cell? ⟨R, 2, none⟩ = some (.int .i64 (stE st)) := by
 obtain ⟨a, ha, h⟩ := h
 cases st with
 | ok r => exact cell_of' h.2 2
 | error e => exact cell_of' h.2 2
theorem BrAt.ne {w : World} {R : Nat} {t : Bs} {e : Int} (h : BrAt w R t (.error e)) : e ≠ 0 := by
 obtain ⟨a, ha, h⟩ := h
 exact h.1
theorem readI_any (R : Nat) (t : Bs) (st : St) (hs : t.length <= 1000000) (w : World) (h : BrAt w R t st) :
  Calls Tryz.prog 239 #[.pointer (some ⟨R, 0, none⟩), .func (.func 192) #[] #[]] w fun e w' => e = .returned (.int .i64 (mI st).1) /\ BrAt w' R t (mI st).2 /\ RdM R w w' := by
 obtain ⟨a, ha, h⟩ := h
 cases st with
 | error er =>
  simp only at h
  obtain ⟨he, h⟩ := h
  have c2 : w.cell? ⟨R, 2, none⟩ = some (.int .i64 er) := cell_of' h 2
  have he1 : (er != 0) = true := by rw [bne_iff_ne]; exact he
  have he2 : (er == 0) = false := by rw [beq_eq_false_iff_ne]; exact he
  replace h := hid h
  go_enter Tryz.func239, Tryz.ntmps239
  go_wp2_with fail
  go_ret
  exact ⟨rfl, ⟨a, ha, he, h.out⟩, Mod.refl _ _⟩
 | ok r =>
  simp only at h
  obtain ⟨hr, h⟩ := h
  have c0 : w.cell? ⟨R, 0, none⟩ = some (.string ⟨t.toArray⟩) := cell_of' h 0
  have c1 : w.cell? ⟨R, 1, none⟩ = some (.int .i64 a) := cell_of' h 1
  have c2 : w.cell? ⟨R, 2, none⟩ = some (.int .i64 0) := cell_of' h 2
  have hce := enters_of Tryz.func192 (by kernel_rfl) rfl
  have hd0 := (Mod.drew0 (fun _ => False) w).at h (fun h => h)
  have hm0 := RdM.ofExt (R := R) (Mod.drew0 (fun _ => False) w)
  replace h := hid h
  go_enter Tryz.func239, Tryz.ntmps239
  go_upto_region 4 with (fail)
  refine wp_region_sched (fun W => W.heap[R]? = some (.cells #[.string ⟨t.toArray⟩, .int .i64 a, .int .i64 0] 184 (0, 0))) [(0, true), (1, true), (2, true), (3, true), (4, true), (5, true), (6, true), (7, true), (8, true), (9, false), (10, true), (11, true), (12, true), (13, true), (14, true), (15, true), (16, true)]
   (by as_aux_lemma => kernel_rfl) (by as_aux_lemma => kernel_rfl) (by as_aux_lemma => kernel_rfl) (by decide) hd0 ?_
  simp only [schedOps, List.map_cons, List.map_nil, List.getD_cons_zero, List.getD_cons_succ]
  generalize w.drew = w0 at hd0 hm0 ⊢
  clear c0 c1 c2
  have h1 := hid (int_any t a ha hs w0)
  replace hd0 := hid hd0
  replace hm0 := hid hm0
  repeat (refine wpS_q (by rfl) ?_ (fun w' hC => ?_) ?_; rotate_left; (have q0 : w'.cell? ⟨R, 0, none⟩ = some (.string ⟨t.toArray⟩) := cell_of' hC 0; have q1 : w'.cell? ⟨R, 1, none⟩ = some (.int .i64 a) := cell_of' hC 1; go_simp; try with_reducible rfl); try simp only [Act.put, sA, sZ, sS])
  refine wpS_c (by rfl) (fun K hK => ?_)
  go_simp
  refine h1.out.mono ?_; rintro e w1 ⟨rfl, hi⟩
  clear h1
  unfold intR intE at hi
  have hb0 : w0.cell? ⟨R, 2, none⟩ = some (.int .i64 0) := cell_of' hd0.out 2
  have zR := free_of' hd0.out
  cases hg : getI (t.drop a) with
  | none =>
   have em : mI (.ok r) = (0, .error 10) := by unfold mI mR rbI; simp only [hr, hg]
   rw [hg] at hi
   simp only at hi
   subst hi
   refine hK.out _ _ hd0.out ?_
   clear hK K
   have p2 := hid (put_at' hd0.out 2 (.int .i64 10))
   have m2 := hid (hm0.out.setCell (a := ⟨R, 2, none⟩) (fun _ => rfl) (.int .i64 10))
   try simp only [Act.put, sA, sZ, sS]
   repeat (refine qT ?_)
   refine wpS_nil ?_
   go_wp2_with fail
   go_ret
   rw [em]
   exact ⟨rfl, ⟨a, ha, by decide, p2.out⟩, m2.out⟩
  | some x =>
   obtain ⟨n, u⟩ := x
   have em : mI (.ok r) = (n, .ok u) := by unfold mI mR rbI; simp only [hr, hg]
   rw [hg] at hi
   simp only at hi
   obtain ⟨b, hab, hbl, hub, rfl⟩ := hi
   refine hK.out _ _ hd0.out ?_
   clear hK K
   have hb1 : w0.cell? ⟨R, 1, none⟩ = some (.int .i64 a) := cell_of' hd0.out 1
   have p2 := hid (put_at' hd0.out 1 (.int .i64 b))
   have m2 := hid (hm0.out.setCell (a := ⟨R, 1, none⟩) (fun _ => rfl) (.int .i64 b))
   try simp only [Act.put, sA, sZ, sS]
   repeat (refine qT ?_)
   refine wpS_nil ?_
   go_wp2_with fail
   go_ret
   rw [em]
   exact ⟨rfl, ⟨b, hbl, hub, p2.out⟩, m2.out⟩
theorem readS_any (R : Nat) (t : Bs) (st : St) (hs : t.length <= 1000000) (w : World) (h : BrAt w R t st) :
  Calls Tryz.prog 241 #[.pointer (some ⟨R, 0, none⟩), .func (.func 194) #[] #[]] w fun e w' => e = .returned (.string ⟨((mS st).1).toArray⟩) /\ BrAt w' R t (mS st).2 /\ RdM R w w' := by
 obtain ⟨a, ha, h⟩ := h
 cases st with
 | error er =>
  simp only at h
  obtain ⟨he, h⟩ := h
  have c2 : w.cell? ⟨R, 2, none⟩ = some (.int .i64 er) := cell_of' h 2
  have he1 : (er != 0) = true := by rw [bne_iff_ne]; exact he
  have he2 : (er == 0) = false := by rw [beq_eq_false_iff_ne]; exact he
  replace h := hid h
  go_enter Tryz.func241, Tryz.ntmps241
  go_wp2_with fail
  go_ret
  exact ⟨rfl, ⟨a, ha, he, h.out⟩, Mod.refl _ _⟩
 | ok r =>
  simp only at h
  obtain ⟨hr, h⟩ := h
  have c0 : w.cell? ⟨R, 0, none⟩ = some (.string ⟨t.toArray⟩) := cell_of' h 0
  have c1 : w.cell? ⟨R, 1, none⟩ = some (.int .i64 a) := cell_of' h 1
  have c2 : w.cell? ⟨R, 2, none⟩ = some (.int .i64 0) := cell_of' h 2
  have hce := enters_of Tryz.func194 (by kernel_rfl) rfl
  have hd0 := (Mod.drew0 (fun _ => False) w).at h (fun h => h)
  have hm0 := RdM.ofExt (R := R) (Mod.drew0 (fun _ => False) w)
  replace h := hid h
  go_enter Tryz.func241, Tryz.ntmps241
  go_upto_region 4 with (fail)
  refine wp_region_sched (fun W => W.heap[R]? = some (.cells #[.string ⟨t.toArray⟩, .int .i64 a, .int .i64 0] 184 (0, 0))) [(0, true), (1, true), (2, true), (3, true), (4, true), (5, true), (6, true), (7, true), (8, true), (9, false), (10, true), (11, true), (12, true), (13, true), (14, true), (15, true), (16, true)]
   (by as_aux_lemma => kernel_rfl) (by as_aux_lemma => kernel_rfl) (by as_aux_lemma => kernel_rfl) (by decide) hd0 ?_
  simp only [schedOps, List.map_cons, List.map_nil, List.getD_cons_zero, List.getD_cons_succ]
  generalize w.drew = w0 at hd0 hm0 ⊢
  clear c0 c1 c2
  have h1 := hid (string_any t a ha hs w0)
  replace hd0 := hid hd0
  replace hm0 := hid hm0
  repeat (refine wpS_q (by rfl) ?_ (fun w' hC => ?_) ?_; rotate_left; (have q0 : w'.cell? ⟨R, 0, none⟩ = some (.string ⟨t.toArray⟩) := cell_of' hC 0; have q1 : w'.cell? ⟨R, 1, none⟩ = some (.int .i64 a) := cell_of' hC 1; go_simp; try with_reducible rfl); try simp only [Act.put, sA, sZ, sS])
  refine wpS_c (by rfl) (fun K hK => ?_)
  go_simp
  refine h1.out.mono ?_; rintro e w1 ⟨rfl, hi⟩
  clear h1
  unfold strR strE at hi
  have hb0 : w0.cell? ⟨R, 2, none⟩ = some (.int .i64 0) := cell_of' hd0.out 2
  have zR := free_of' hd0.out
  cases hg : getS (t.drop a) with
  | none =>
   have em : mS (.ok r) = ([], .error 10) := by unfold mS mR rbS; simp only [hr, hg]
   rw [hg] at hi
   simp only at hi
   subst hi
   refine hK.out _ _ hd0.out ?_
   clear hK K
   have p2 := hid (put_at' hd0.out 2 (.int .i64 10))
   have m2 := hid (hm0.out.setCell (a := ⟨R, 2, none⟩) (fun _ => rfl) (.int .i64 10))
   try simp only [Act.put, sA, sZ, sS]
   repeat (refine qT ?_)
   refine wpS_nil ?_
   go_wp2_with fail
   go_ret
   rw [em]
   exact ⟨rfl, ⟨a, ha, by decide, p2.out⟩, m2.out⟩
  | some x =>
   obtain ⟨n, u⟩ := x
   have em : mS (.ok r) = (n, .ok u) := by unfold mS mR rbS; simp only [hr, hg]
   rw [hg] at hi
   simp only at hi
   obtain ⟨b, hab, hbl, hub, rfl⟩ := hi
   refine hK.out _ _ hd0.out ?_
   clear hK K
   have hb1 : w0.cell? ⟨R, 1, none⟩ = some (.int .i64 a) := cell_of' hd0.out 1
   have p2 := hid (put_at' hd0.out 1 (.int .i64 b))
   have m2 := hid (hm0.out.setCell (a := ⟨R, 1, none⟩) (fun _ => rfl) (.int .i64 b))
   try simp only [Act.put, sA, sZ, sS]
   repeat (refine qT ?_)
   refine wpS_nil ?_
   go_wp2_with fail
   go_ret
   rw [em]
   exact ⟨rfl, ⟨b, hbl, hub, p2.out⟩, m2.out⟩
theorem readInt_any (R : Nat) (t : Bs) (st : St) (hs : t.length <= 1000000) (w : World) (h : BrAt w R t st) :
  Calls Tryz.prog 240 #[.pointer (some ⟨R, 0, none⟩)] w fun e w' => e = .returned (.int .i64 (mI st).1) /\ BrAt w' R t (mI st).2 /\ RdM R w w' := by
 have h1 := hid (readI_any R t st hs w h)
 go_enter Tryz.func240, Tryz.ntmps240
 go_wp2_with fail
 refine h1.out.mono ?_; rintro e w1 ⟨rfl, hr, hm⟩
 replace hr := hid hr
 replace hm := hid hm
 go_wp2_with fail
 go_ret
 exact ⟨rfl, hr.out, hm.out⟩
end Go.Proofs.YtpaefpnkemkikaaGreatDoor
