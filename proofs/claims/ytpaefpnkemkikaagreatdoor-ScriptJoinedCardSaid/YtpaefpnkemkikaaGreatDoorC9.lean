import Derived.Test.YtpaefpnkemkikaaGreatDoorC6
import Derived.Test.YtpaefpnkemkikaaGreatDoorTh10
import Derived.Test.YtpaefpnkemkikaaGreatDoorA9
import Derived.Test.YtpaefpnkemkikaaGreatDoorWhole
import Derived.Laws.StructEq
import Derived.Test.YtpaefpnkemkikaaGreatDoorLast
import Derived.Laws.EntriesVeiled
set_option maxRecDepth 100000
set_option maxHeartbeats 16000000
namespace Go.Proofs.YtpaefpnkemkikaaGreatDoor
open Go.Shelf Go.RowKit Cdk Scr
theorem nums_le (l : List Int) : (join 44 (l.map itoa)).length <= l.length * 22 := by
 have := join_le 44 21 (l.map itoa) (fun x hx => by
  obtain ⟨n, -, rfl⟩ := List.mem_map.1 hx
  exact itoa_len n)
 simpa using this
theorem listW_le (l : List Bs) : (listW l).length <= (join 44 l).length + 1 := by
 unfold listW
 split
 ·simp
 ·omega
theorem labelWord_any (v : Value) (lb : Lb) (w : World) (hG : Gl w) (h : IntsAt (fun k => k < w.heap.size) w v lb.aft) (h1 : I64 lb.til) (h2 : I64 lb.app) (h3 : I64 lb.den) (h4 : ∀ x ∈ lb.aft, I64 x) (h5 : lb.aft.length <= 1000) :
  Calls Tryz.prog 116 #[.agg (lbC v lb).toArray] w fun e w' => e = .returned (.string ⟨(labelW lb).toArray⟩) /\ Ext w w' := by
 obtain ⟨til, aft, app, den⟩ := lb
 simp only at h h1 h2 h3 h4 h5
 obtain ⟨tz, htz⟩ : ∃ tz, tz = labelW ⟨til, aft, app, den⟩ := ⟨_, rfl⟩
 rw [<- htz]
 obtain ⟨ao, cap, rfl⟩ := h.slice
 obtain ⟨n, hn⟩ : ∃ n, n = aft.length := ⟨_, rfl⟩
 unfold lbC
 simp only
 rw [<- hn] at h h5 ⊢
 unfold labelW at htz
 simp only at htz
 have hle := nums_le aft
 have hx0 := Mod.alloc (Mod.refl (fun _ => False) w) (.cells #[.int .i64 til, .slice ao n cap, .int .i64 app, .int .i64 den] 26)
 have hT := heap_alloc_new w (.cells #[.int .i64 til, .slice ao n cap, .int .i64 app, .int .i64 den] 26)
 have hn0 : aft = [] ↔ n = 0 := by rw [hn, List.length_eq_zero_iff]
 replace hn := hid hn
 replace hn0 := hid hn0
 replace h := hid h
 replace hG := hid hG
 replace h1 := hid h1
 replace h2 := hid h2
 replace h3 := hid h3
 replace h4 := hid h4
 replace hx0 := hid hx0
 replace hT := hid hT
 replace hle := hid hle
 by_cases c1 : til = 0
 rotate_left
 ·have d1 : (til == 0) = false := by rw [beq_eq_false_iff_ne]; exact c1
  replace htz := hid (show tz = join 47 [itoa til, listW (aft.map itoa), itoa app, itoa den] by rw [htz, if_neg (by rintro ⟨e1, e2, e3, e4⟩; exact c1 e1)])
  go_enter Tryz.func116, Tryz.ntmps116
  go_upto_region 1 with fail
  generalize (w.alloc _) = W at hx0 hT ⊢
  generalize w.heap.size = T at hT ⊢
  have f0 : W.cell? ⟨T, 0, none⟩ = some (.int .i64 til) := cell_of' hT.out 0
  have f1 : W.cell? ⟨T, 1, none⟩ = some (.slice ao n cap) := cell_of' hT.out 1
  have f2 : W.cell? ⟨T, 2, none⟩ = some (.int .i64 app) := cell_of' hT.out 2
  have f3 : W.cell? ⟨T, 3, none⟩ = some (.int .i64 den) := cell_of' hT.out 3
  go_upto_region 3 with fail
  clear f0 f1 f2 f3
  have hTd := hid ((Mod.drew0 (fun _ => False) W).at hT.out (fun h => h))
  have hxd := hid (hx0.out.drew)
  clear hT hx0
  refine wp_region_sched (fun w' => w'.heap[T]? = some (.cells #[.int .i64 til, .slice ao n cap, .int .i64 app, .int .i64 den] 26 (0, 0))) [(0, true), (1, true), (3, true), (4, true), (6, true), (7, true), (9, true), (10, true), (2, false), (5, false), (8, false), (11, false), (12, false), (13, true)] (by as_aux_lemma => kernel_rfl) (by as_aux_lemma => kernel_rfl) (by as_aux_lemma => kernel_rfl) (by decide) hTd.out ?_
  generalize W.drew = W0 at hTd hxd ⊢
  simp only [schedOps, List.map_cons, List.map_nil, List.getD_cons_zero, List.getD_cons_succ]
  repeat (refine wpS_q (by rfl) ?_ (fun w' hC => ?_) ?_; rotate_left; (have q0 : w'.cell? ⟨T, 0, none⟩ = some (.int .i64 til) := cell_of' hC 0; have q1 : w'.cell? ⟨T, 1, none⟩ = some (.slice ao n cap) := cell_of' hC 1; have q2 : w'.cell? ⟨T, 2, none⟩ = some (.int .i64 app) := cell_of' hC 2; have q3 : w'.cell? ⟨T, 3, none⟩ = some (.int .i64 den) := cell_of' hC 3; go_simp; try with_reducible rfl); try simp only [Act.put, sA, sZ, sS])
  refine wpS_c (by rfl) (fun K hK => ?_)
  go_simp
  refine (itoa_any til h1.out W0 (hG.out.ext hxd.out)).mono ?_; rintro e W1 ⟨rfl, hxn⟩
  refine hK.out _ _ (hxn.at hTd.out (fun h => h)) ?_
  have hTe := hid (hxn.at hTd.out (fun h => h))
  have hxe := hid (hxd.out.trans hxn)
  clear hK K hTd hxd hxn
  try simp only [Act.put, sA, sZ, sS]
  refine wpS_c (by rfl) (fun K hK => ?_)
  go_simp
  refine (listInts_any (.slice ao n cap) aft h4.out W1 (hG.out.ext hxe.out) ((h.out.ext hxe.out).mono (fun k hk => Nat.lt_of_lt_of_le hk hxe.out.size)) (by rw [<- hn.out]; exact h5) (by have := hle.out; rw [<- hn.out] at this; omega)).mono ?_; rintro e W2 ⟨rfl, hxn⟩
  refine hK.out _ _ (hxn.at hTe.out (fun h => h)) ?_
  have hTd := hid (hxn.at hTe.out (fun h => h))
  have hxd := hid (hxe.out.trans hxn)
  clear hK K hTe hxe hxn
  try simp only [Act.put, sA, sZ, sS]
  refine wpS_c (by rfl) (fun K hK => ?_)
  go_simp
  refine (itoa_any app h2.out W2 (hG.out.ext hxd.out)).mono ?_; rintro e W3 ⟨rfl, hxn⟩
  refine hK.out _ _ (hxn.at hTd.out (fun h => h)) ?_
  have hTe := hid (hxn.at hTd.out (fun h => h))
  have hxe := hid (hxd.out.trans hxn)
  clear hK K hTd hxd hxn
  try simp only [Act.put, sA, sZ, sS]
  refine wpS_c (by rfl) (fun K hK => ?_)
  go_simp
  refine (itoa_any den h3.out W3 (hG.out.ext hxe.out)).mono ?_; rintro e W4 ⟨rfl, hxn⟩
  refine hK.out _ _ (hxn.at hTe.out (fun h => h)) ?_
  have hTd := hid (hxn.at hTe.out (fun h => h))
  have hxd := hid (hxe.out.trans hxn)
  clear hK K hTe hxe hxn
  try simp only [Act.put, sA, sZ, sS]
  refine wpS_c (by rfl) (fun K hK => ?_)
  go_simp
  have hxA := Mod.alloc (Mod.refl (fun _ => False) W4) (.cells #[.string ⟨(itoa til).toArray⟩, .string ⟨(listW (aft.map itoa)).toArray⟩, .string ⟨(itoa app).toArray⟩, .string ⟨(itoa den).toArray⟩] 9)
  have hA := heap_alloc_new W4 (.cells #[.string ⟨(itoa til).toArray⟩, .string ⟨(listW (aft.map itoa)).toArray⟩, .string ⟨(itoa app).toArray⟩, .string ⟨(itoa den).toArray⟩] 9)
  refine hK.out _ _ (hxA.at hTd.out (fun h => h)) ?_
  have hxe := hid (hxd.out.trans hxA)
  clear hK K hxd hxA hTd
  generalize W4.heap.size = Z at hA ⊢
  generalize (W4.alloc _) = W5 at hA hxe ⊢
  have hrow : StrsAt (fun _ => True) W5 (.slice (some ⟨Z, 0, none⟩) 4 4) [itoa til, listW (aft.map itoa), itoa app, itoa den] := ⟨some ⟨Z, 0, none⟩, 4, rfl, RowIs.block hA, fun _ _ _ _ => trivial, by simp, ⟨by simp, by decide⟩, fun e => nomatch e⟩
  have hjl : (join 47 [itoa til, listW (aft.map itoa), itoa app, itoa den]).length <= 1000000 := by
   have l1 := itoa_len til
   have l2 := itoa_len app
   have l3 := itoa_len den
   have l4 := listW_le (aft.map itoa)
   have l5 := hle.out
   rw [<- hn.out] at l5
   simp only [join, List.length_append, List.length_cons]
   omega
  have hjn := hid (join_any _ _ 47 W5 hrow (by omega))
  clear hA hrow hjl
  try simp only [Act.put, sA, sZ, sS]
  repeat (refine qT ?_)
  refine wpS_nil ?_
  go_wp2_with fail
  refine hjn.out.mono ?_; rintro e W6 ⟨rfl, hx6⟩
  have hx6 := hid (hxe.out.trans hx6)
  go_wp2_with fail
  go_ret
  exact ⟨by rw [htz.out]; rfl, hx6.out⟩
 have d1 : (til == 0) = true := by rw [c1]; rfl
 replace c1 := hid c1
 by_cases c2 : n = 0
 rotate_left
 ·have d2 : ((n : Int) == 0) = false := by rw [beq_eq_false_iff_ne]; omega
  have d2i : ¬ (n : Int) = 0 := by omega
  replace htz := hid (show tz = join 47 [itoa til, listW (aft.map itoa), itoa app, itoa den] by rw [htz, if_neg (by rintro ⟨e1, e2, e3, e4⟩; exact c2 (hn0.out.1 e2))])
  go_enter Tryz.func116, Tryz.ntmps116
  go_upto_region 1 with fail
  generalize (w.alloc _) = W at hx0 hT ⊢
  generalize w.heap.size = T at hT ⊢
  have f0 : W.cell? ⟨T, 0, none⟩ = some (.int .i64 til) := cell_of' hT.out 0
  have f1 : W.cell? ⟨T, 1, none⟩ = some (.slice ao n cap) := cell_of' hT.out 1
  have f2 : W.cell? ⟨T, 2, none⟩ = some (.int .i64 app) := cell_of' hT.out 2
  have f3 : W.cell? ⟨T, 3, none⟩ = some (.int .i64 den) := cell_of' hT.out 3
  go_upto_region 3 with fail
  clear f0 f1 f2 f3
  have hTd := hid ((Mod.drew0 (fun _ => False) W).at hT.out (fun h => h))
  have hxd := hid (hx0.out.drew)
  clear hT hx0
  refine wp_region_sched (fun w' => w'.heap[T]? = some (.cells #[.int .i64 til, .slice ao n cap, .int .i64 app, .int .i64 den] 26 (0, 0))) [(0, true), (1, true), (3, true), (4, true), (6, true), (7, true), (9, true), (10, true), (2, false), (5, false), (8, false), (11, false), (12, false), (13, true)] (by as_aux_lemma => kernel_rfl) (by as_aux_lemma => kernel_rfl) (by as_aux_lemma => kernel_rfl) (by decide) hTd.out ?_
  generalize W.drew = W0 at hTd hxd ⊢
  simp only [schedOps, List.map_cons, List.map_nil, List.getD_cons_zero, List.getD_cons_succ]
  repeat (refine wpS_q (by rfl) ?_ (fun w' hC => ?_) ?_; rotate_left; (have q0 : w'.cell? ⟨T, 0, none⟩ = some (.int .i64 til) := cell_of' hC 0; have q1 : w'.cell? ⟨T, 1, none⟩ = some (.slice ao n cap) := cell_of' hC 1; have q2 : w'.cell? ⟨T, 2, none⟩ = some (.int .i64 app) := cell_of' hC 2; have q3 : w'.cell? ⟨T, 3, none⟩ = some (.int .i64 den) := cell_of' hC 3; go_simp; try with_reducible rfl); try simp only [Act.put, sA, sZ, sS])
  refine wpS_c (by rfl) (fun K hK => ?_)
  go_simp
  refine (itoa_any til h1.out W0 (hG.out.ext hxd.out)).mono ?_; rintro e W1 ⟨rfl, hxn⟩
  refine hK.out _ _ (hxn.at hTd.out (fun h => h)) ?_
  have hTe := hid (hxn.at hTd.out (fun h => h))
  have hxe := hid (hxd.out.trans hxn)
  clear hK K hTd hxd hxn
  try simp only [Act.put, sA, sZ, sS]
  refine wpS_c (by rfl) (fun K hK => ?_)
  go_simp
  refine (listInts_any (.slice ao n cap) aft h4.out W1 (hG.out.ext hxe.out) ((h.out.ext hxe.out).mono (fun k hk => Nat.lt_of_lt_of_le hk hxe.out.size)) (by rw [<- hn.out]; exact h5) (by have := hle.out; rw [<- hn.out] at this; omega)).mono ?_; rintro e W2 ⟨rfl, hxn⟩
  refine hK.out _ _ (hxn.at hTe.out (fun h => h)) ?_
  have hTd := hid (hxn.at hTe.out (fun h => h))
  have hxd := hid (hxe.out.trans hxn)
  clear hK K hTe hxe hxn
  try simp only [Act.put, sA, sZ, sS]
  refine wpS_c (by rfl) (fun K hK => ?_)
  go_simp
  refine (itoa_any app h2.out W2 (hG.out.ext hxd.out)).mono ?_; rintro e W3 ⟨rfl, hxn⟩
  refine hK.out _ _ (hxn.at hTd.out (fun h => h)) ?_
  have hTe := hid (hxn.at hTd.out (fun h => h))
  have hxe := hid (hxd.out.trans hxn)
  clear hK K hTd hxd hxn
  try simp only [Act.put, sA, sZ, sS]
  refine wpS_c (by rfl) (fun K hK => ?_)
  go_simp
  refine (itoa_any den h3.out W3 (hG.out.ext hxe.out)).mono ?_; rintro e W4 ⟨rfl, hxn⟩
  refine hK.out _ _ (hxn.at hTe.out (fun h => h)) ?_
  have hTd := hid (hxn.at hTe.out (fun h => h))
  have hxd := hid (hxe.out.trans hxn)
  clear hK K hTe hxe hxn
  try simp only [Act.put, sA, sZ, sS]
  refine wpS_c (by rfl) (fun K hK => ?_)
  go_simp
  have hxA := Mod.alloc (Mod.refl (fun _ => False) W4) (.cells #[.string ⟨(itoa til).toArray⟩, .string ⟨(listW (aft.map itoa)).toArray⟩, .string ⟨(itoa app).toArray⟩, .string ⟨(itoa den).toArray⟩] 9)
  have hA := heap_alloc_new W4 (.cells #[.string ⟨(itoa til).toArray⟩, .string ⟨(listW (aft.map itoa)).toArray⟩, .string ⟨(itoa app).toArray⟩, .string ⟨(itoa den).toArray⟩] 9)
  refine hK.out _ _ (hxA.at hTd.out (fun h => h)) ?_
  have hxe := hid (hxd.out.trans hxA)
  clear hK K hxd hxA hTd
  generalize W4.heap.size = Z at hA ⊢
  generalize (W4.alloc _) = W5 at hA hxe ⊢
  have hrow : StrsAt (fun _ => True) W5 (.slice (some ⟨Z, 0, none⟩) 4 4) [itoa til, listW (aft.map itoa), itoa app, itoa den] := ⟨some ⟨Z, 0, none⟩, 4, rfl, RowIs.block hA, fun _ _ _ _ => trivial, by simp, ⟨by simp, by decide⟩, fun e => nomatch e⟩
  have hjl : (join 47 [itoa til, listW (aft.map itoa), itoa app, itoa den]).length <= 1000000 := by
   have l1 := itoa_len til
   have l2 := itoa_len app
   have l3 := itoa_len den
   have l4 := listW_le (aft.map itoa)
   have l5 := hle.out
   rw [<- hn.out] at l5
   simp only [join, List.length_append, List.length_cons]
   omega
  have hjn := hid (join_any _ _ 47 W5 hrow (by omega))
  clear hA hrow hjl
  try simp only [Act.put, sA, sZ, sS]
  repeat (refine qT ?_)
  refine wpS_nil ?_
  go_wp2_with fail
  refine hjn.out.mono ?_; rintro e W6 ⟨rfl, hx6⟩
  have hx6 := hid (hxe.out.trans hx6)
  go_wp2_with fail
  go_ret
  exact ⟨by rw [htz.out]; rfl, hx6.out⟩
 have d2 : ((n : Int) == 0) = true := by rw [c2]; rfl
 have e2 := hid (hn0.out.2 c2)
 replace c2 := hid c2
 by_cases c3 : app = 0
 rotate_left
 ·have d3 : (app == 0) = false := by rw [beq_eq_false_iff_ne]; exact c3
  replace htz := hid (show tz = join 47 [itoa til, listW (aft.map itoa), itoa app, itoa den] by rw [htz, if_neg (by rintro ⟨e1, e2, e3, e4⟩; exact c3 e3)])
  go_enter Tryz.func116, Tryz.ntmps116
  go_upto_region 1 with fail
  generalize (w.alloc _) = W at hx0 hT ⊢
  generalize w.heap.size = T at hT ⊢
  have f0 : W.cell? ⟨T, 0, none⟩ = some (.int .i64 til) := cell_of' hT.out 0
  have f1 : W.cell? ⟨T, 1, none⟩ = some (.slice ao n cap) := cell_of' hT.out 1
  have f2 : W.cell? ⟨T, 2, none⟩ = some (.int .i64 app) := cell_of' hT.out 2
  have f3 : W.cell? ⟨T, 3, none⟩ = some (.int .i64 den) := cell_of' hT.out 3
  go_upto_region 3 with fail
  clear f0 f1 f2 f3
  have hTd := hid ((Mod.drew0 (fun _ => False) W).at hT.out (fun h => h))
  have hxd := hid (hx0.out.drew)
  clear hT hx0
  refine wp_region_sched (fun w' => w'.heap[T]? = some (.cells #[.int .i64 til, .slice ao n cap, .int .i64 app, .int .i64 den] 26 (0, 0))) [(0, true), (1, true), (3, true), (4, true), (6, true), (7, true), (9, true), (10, true), (2, false), (5, false), (8, false), (11, false), (12, false), (13, true)] (by as_aux_lemma => kernel_rfl) (by as_aux_lemma => kernel_rfl) (by as_aux_lemma => kernel_rfl) (by decide) hTd.out ?_
  generalize W.drew = W0 at hTd hxd ⊢
  simp only [schedOps, List.map_cons, List.map_nil, List.getD_cons_zero, List.getD_cons_succ]
  repeat (refine wpS_q (by rfl) ?_ (fun w' hC => ?_) ?_; rotate_left; (have q0 : w'.cell? ⟨T, 0, none⟩ = some (.int .i64 til) := cell_of' hC 0; have q1 : w'.cell? ⟨T, 1, none⟩ = some (.slice ao n cap) := cell_of' hC 1; have q2 : w'.cell? ⟨T, 2, none⟩ = some (.int .i64 app) := cell_of' hC 2; have q3 : w'.cell? ⟨T, 3, none⟩ = some (.int .i64 den) := cell_of' hC 3; go_simp; try with_reducible rfl); try simp only [Act.put, sA, sZ, sS])
  refine wpS_c (by rfl) (fun K hK => ?_)
  go_simp
  refine (itoa_any til h1.out W0 (hG.out.ext hxd.out)).mono ?_; rintro e W1 ⟨rfl, hxn⟩
  refine hK.out _ _ (hxn.at hTd.out (fun h => h)) ?_
  have hTe := hid (hxn.at hTd.out (fun h => h))
  have hxe := hid (hxd.out.trans hxn)
  clear hK K hTd hxd hxn
  try simp only [Act.put, sA, sZ, sS]
  refine wpS_c (by rfl) (fun K hK => ?_)
  go_simp
  refine (listInts_any (.slice ao n cap) aft h4.out W1 (hG.out.ext hxe.out) ((h.out.ext hxe.out).mono (fun k hk => Nat.lt_of_lt_of_le hk hxe.out.size)) (by rw [<- hn.out]; exact h5) (by have := hle.out; rw [<- hn.out] at this; omega)).mono ?_; rintro e W2 ⟨rfl, hxn⟩
  refine hK.out _ _ (hxn.at hTe.out (fun h => h)) ?_
  have hTd := hid (hxn.at hTe.out (fun h => h))
  have hxd := hid (hxe.out.trans hxn)
  clear hK K hTe hxe hxn
  try simp only [Act.put, sA, sZ, sS]
  refine wpS_c (by rfl) (fun K hK => ?_)
  go_simp
  refine (itoa_any app h2.out W2 (hG.out.ext hxd.out)).mono ?_; rintro e W3 ⟨rfl, hxn⟩
  refine hK.out _ _ (hxn.at hTd.out (fun h => h)) ?_
  have hTe := hid (hxn.at hTd.out (fun h => h))
  have hxe := hid (hxd.out.trans hxn)
  clear hK K hTd hxd hxn
  try simp only [Act.put, sA, sZ, sS]
  refine wpS_c (by rfl) (fun K hK => ?_)
  go_simp
  refine (itoa_any den h3.out W3 (hG.out.ext hxe.out)).mono ?_; rintro e W4 ⟨rfl, hxn⟩
  refine hK.out _ _ (hxn.at hTe.out (fun h => h)) ?_
  have hTd := hid (hxn.at hTe.out (fun h => h))
  have hxd := hid (hxe.out.trans hxn)
  clear hK K hTe hxe hxn
  try simp only [Act.put, sA, sZ, sS]
  refine wpS_c (by rfl) (fun K hK => ?_)
  go_simp
  have hxA := Mod.alloc (Mod.refl (fun _ => False) W4) (.cells #[.string ⟨(itoa til).toArray⟩, .string ⟨(listW (aft.map itoa)).toArray⟩, .string ⟨(itoa app).toArray⟩, .string ⟨(itoa den).toArray⟩] 9)
  have hA := heap_alloc_new W4 (.cells #[.string ⟨(itoa til).toArray⟩, .string ⟨(listW (aft.map itoa)).toArray⟩, .string ⟨(itoa app).toArray⟩, .string ⟨(itoa den).toArray⟩] 9)
  refine hK.out _ _ (hxA.at hTd.out (fun h => h)) ?_
  have hxe := hid (hxd.out.trans hxA)
  clear hK K hxd hxA hTd
  generalize W4.heap.size = Z at hA ⊢
  generalize (W4.alloc _) = W5 at hA hxe ⊢
  have hrow : StrsAt (fun _ => True) W5 (.slice (some ⟨Z, 0, none⟩) 4 4) [itoa til, listW (aft.map itoa), itoa app, itoa den] := ⟨some ⟨Z, 0, none⟩, 4, rfl, RowIs.block hA, fun _ _ _ _ => trivial, by simp, ⟨by simp, by decide⟩, fun e => nomatch e⟩
  have hjl : (join 47 [itoa til, listW (aft.map itoa), itoa app, itoa den]).length <= 1000000 := by
   have l1 := itoa_len til
   have l2 := itoa_len app
   have l3 := itoa_len den
   have l4 := listW_le (aft.map itoa)
   have l5 := hle.out
   rw [<- hn.out] at l5
   simp only [join, List.length_append, List.length_cons]
   omega
  have hjn := hid (join_any _ _ 47 W5 hrow (by omega))
  clear hA hrow hjl
  try simp only [Act.put, sA, sZ, sS]
  repeat (refine qT ?_)
  refine wpS_nil ?_
  go_wp2_with fail
  refine hjn.out.mono ?_; rintro e W6 ⟨rfl, hx6⟩
  have hx6 := hid (hxe.out.trans hx6)
  go_wp2_with fail
  go_ret
  exact ⟨by rw [htz.out]; rfl, hx6.out⟩
 have d3 : (app == 0) = true := by rw [c3]; rfl
 replace c3 := hid c3
 by_cases c4 : den = 0
 rotate_left
 ·have d4 : (den == 0) = false := by rw [beq_eq_false_iff_ne]; exact c4
  replace htz := hid (show tz = join 47 [itoa til, listW (aft.map itoa), itoa app, itoa den] by rw [htz, if_neg (by rintro ⟨e1, e2, e3, e4⟩; exact c4 e4)])
  go_enter Tryz.func116, Tryz.ntmps116
  go_upto_region 1 with fail
  generalize (w.alloc _) = W at hx0 hT ⊢
  generalize w.heap.size = T at hT ⊢
  have f0 : W.cell? ⟨T, 0, none⟩ = some (.int .i64 til) := cell_of' hT.out 0
  have f1 : W.cell? ⟨T, 1, none⟩ = some (.slice ao n cap) := cell_of' hT.out 1
  have f2 : W.cell? ⟨T, 2, none⟩ = some (.int .i64 app) := cell_of' hT.out 2
  have f3 : W.cell? ⟨T, 3, none⟩ = some (.int .i64 den) := cell_of' hT.out 3
  go_upto_region 3 with fail
  clear f0 f1 f2 f3
  have hTd := hid ((Mod.drew0 (fun _ => False) W).at hT.out (fun h => h))
  have hxd := hid (hx0.out.drew)
  clear hT hx0
  refine wp_region_sched (fun w' => w'.heap[T]? = some (.cells #[.int .i64 til, .slice ao n cap, .int .i64 app, .int .i64 den] 26 (0, 0))) [(0, true), (1, true), (3, true), (4, true), (6, true), (7, true), (9, true), (10, true), (2, false), (5, false), (8, false), (11, false), (12, false), (13, true)] (by as_aux_lemma => kernel_rfl) (by as_aux_lemma => kernel_rfl) (by as_aux_lemma => kernel_rfl) (by decide) hTd.out ?_
  generalize W.drew = W0 at hTd hxd ⊢
  simp only [schedOps, List.map_cons, List.map_nil, List.getD_cons_zero, List.getD_cons_succ]
  repeat (refine wpS_q (by rfl) ?_ (fun w' hC => ?_) ?_; rotate_left; (have q0 : w'.cell? ⟨T, 0, none⟩ = some (.int .i64 til) := cell_of' hC 0; have q1 : w'.cell? ⟨T, 1, none⟩ = some (.slice ao n cap) := cell_of' hC 1; have q2 : w'.cell? ⟨T, 2, none⟩ = some (.int .i64 app) := cell_of' hC 2; have q3 : w'.cell? ⟨T, 3, none⟩ = some (.int .i64 den) := cell_of' hC 3; go_simp; try with_reducible rfl); try simp only [Act.put, sA, sZ, sS])
  refine wpS_c (by rfl) (fun K hK => ?_)
  go_simp
  refine (itoa_any til h1.out W0 (hG.out.ext hxd.out)).mono ?_; rintro e W1 ⟨rfl, hxn⟩
  refine hK.out _ _ (hxn.at hTd.out (fun h => h)) ?_
  have hTe := hid (hxn.at hTd.out (fun h => h))
  have hxe := hid (hxd.out.trans hxn)
  clear hK K hTd hxd hxn
  try simp only [Act.put, sA, sZ, sS]
  refine wpS_c (by rfl) (fun K hK => ?_)
  go_simp
  refine (listInts_any (.slice ao n cap) aft h4.out W1 (hG.out.ext hxe.out) ((h.out.ext hxe.out).mono (fun k hk => Nat.lt_of_lt_of_le hk hxe.out.size)) (by rw [<- hn.out]; exact h5) (by have := hle.out; rw [<- hn.out] at this; omega)).mono ?_; rintro e W2 ⟨rfl, hxn⟩
  refine hK.out _ _ (hxn.at hTe.out (fun h => h)) ?_
  have hTd := hid (hxn.at hTe.out (fun h => h))
  have hxd := hid (hxe.out.trans hxn)
  clear hK K hTe hxe hxn
  try simp only [Act.put, sA, sZ, sS]
  refine wpS_c (by rfl) (fun K hK => ?_)
  go_simp
  refine (itoa_any app h2.out W2 (hG.out.ext hxd.out)).mono ?_; rintro e W3 ⟨rfl, hxn⟩
  refine hK.out _ _ (hxn.at hTd.out (fun h => h)) ?_
  have hTe := hid (hxn.at hTd.out (fun h => h))
  have hxe := hid (hxd.out.trans hxn)
  clear hK K hTd hxd hxn
  try simp only [Act.put, sA, sZ, sS]
  refine wpS_c (by rfl) (fun K hK => ?_)
  go_simp
  refine (itoa_any den h3.out W3 (hG.out.ext hxe.out)).mono ?_; rintro e W4 ⟨rfl, hxn⟩
  refine hK.out _ _ (hxn.at hTe.out (fun h => h)) ?_
  have hTd := hid (hxn.at hTe.out (fun h => h))
  have hxd := hid (hxe.out.trans hxn)
  clear hK K hTe hxe hxn
  try simp only [Act.put, sA, sZ, sS]
  refine wpS_c (by rfl) (fun K hK => ?_)
  go_simp
  have hxA := Mod.alloc (Mod.refl (fun _ => False) W4) (.cells #[.string ⟨(itoa til).toArray⟩, .string ⟨(listW (aft.map itoa)).toArray⟩, .string ⟨(itoa app).toArray⟩, .string ⟨(itoa den).toArray⟩] 9)
  have hA := heap_alloc_new W4 (.cells #[.string ⟨(itoa til).toArray⟩, .string ⟨(listW (aft.map itoa)).toArray⟩, .string ⟨(itoa app).toArray⟩, .string ⟨(itoa den).toArray⟩] 9)
  refine hK.out _ _ (hxA.at hTd.out (fun h => h)) ?_
  have hxe := hid (hxd.out.trans hxA)
  clear hK K hxd hxA hTd
  generalize W4.heap.size = Z at hA ⊢
  generalize (W4.alloc _) = W5 at hA hxe ⊢
  have hrow : StrsAt (fun _ => True) W5 (.slice (some ⟨Z, 0, none⟩) 4 4) [itoa til, listW (aft.map itoa), itoa app, itoa den] := ⟨some ⟨Z, 0, none⟩, 4, rfl, RowIs.block hA, fun _ _ _ _ => trivial, by simp, ⟨by simp, by decide⟩, fun e => nomatch e⟩
  have hjl : (join 47 [itoa til, listW (aft.map itoa), itoa app, itoa den]).length <= 1000000 := by
   have l1 := itoa_len til
   have l2 := itoa_len app
   have l3 := itoa_len den
   have l4 := listW_le (aft.map itoa)
   have l5 := hle.out
   rw [<- hn.out] at l5
   simp only [join, List.length_append, List.length_cons]
   omega
  have hjn := hid (join_any _ _ 47 W5 hrow (by omega))
  clear hA hrow hjl
  try simp only [Act.put, sA, sZ, sS]
  repeat (refine qT ?_)
  refine wpS_nil ?_
  go_wp2_with fail
  refine hjn.out.mono ?_; rintro e W6 ⟨rfl, hx6⟩
  have hx6 := hid (hxe.out.trans hx6)
  go_wp2_with fail
  go_ret
  exact ⟨by rw [htz.out]; rfl, hx6.out⟩
 replace htz := hid (show tz = [42] by rw [htz, if_pos ⟨c1.out, e2.out, c3.out, c4⟩])
 have d4 : (den == 0) = true := by rw [c4]; rfl
 replace c4 := hid c4
 go_enter Tryz.func116, Tryz.ntmps116
 go_upto_region 1 with fail
 generalize (w.alloc _) = W at hx0 hT ⊢
 generalize w.heap.size = T at hT ⊢
 have f0 : W.cell? ⟨T, 0, none⟩ = some (.int .i64 til) := cell_of' hT.out 0
 have f1 : W.cell? ⟨T, 1, none⟩ = some (.slice ao n cap) := cell_of' hT.out 1
 have f2 : W.cell? ⟨T, 2, none⟩ = some (.int .i64 app) := cell_of' hT.out 2
 have f3 : W.cell? ⟨T, 3, none⟩ = some (.int .i64 den) := cell_of' hT.out 3
 go_wp2_with fail
 go_ret
 exact ⟨by rw [htz.out]; rfl, hx0.out⟩
theorem hexDig (k : Nat) (hk : k < 16) : (⟨#[48, 49, 50, 51, 52, 53, 54, 55, 56, 57, 97, 98, 99, 100, 101, 102]⟩ : ByteArray)[k]'(by show k < 16; exact hk) = hexD k := by
 have : ∀ k : Fin 16, (⟨#[48, 49, 50, 51, 52, 53, 54, 55, 56, 57, 97, 98, 99, 100, 101, 102]⟩ : ByteArray)[k.val]'(by show k.val < 16; exact k.isLt) = hexD k.val := by decide
 exact this ⟨k, hk⟩
def hexB2 (c : UInt8) : Bs := [hexD (c.toNat / 16), hexD (c.toNat % 16)]
theorem hexWord_any (t : Bs) (w : World) (hlen : t.length <= 1000000) :
  Calls Tryz.prog 127 #[.string ⟨t.toArray⟩] w fun e w' => e = .returned (.string ⟨(hexW t).toArray⟩) /\ Ext w w' := by
 obtain ⟨tz, htz⟩ : ∃ tz, tz = hexW t := ⟨_, rfl⟩
 rw [<- htz]
 obtain ⟨s, hs⟩ : ∃ s : ByteArray, s = ⟨t.toArray⟩ := ⟨_, rfl⟩
 have hst : s.data.toList = t := by rw [hs]
 have hsl : s.size <= 1000000 := by rw [hs]; exact hlen
 have he : s.toList.isEmpty = t.isEmpty := by rw [hs]; simp
 rw [<- hs]
 cases hb : t.isEmpty with
 | true =>
  replace htz := hid (show tz = [42] by rw [htz, hexW, if_pos hb])
  rw [hb] at he
  clear hst hb
  replace hs := hid hs
  go_enter Tryz.func127, Tryz.ntmps127
  go_wp2_with fail
  go_ret
  exact ⟨by rw [htz.out]; rfl, Mod.refl _ _⟩
 | false =>
  replace htz : tz = s.data.toList.flatMap hexB2 := by rw [htz, hexW, if_neg (by rw [hb]; decide), hst]; rfl
  rw [hb] at he
  clear hst hb
  replace hs := hid hs
  replace htz := hid htz
  have hb0 := Bld.fresh w
  have hxb := Mod.alloc (Mod.refl (fun _ => False) w) (.cells #[.pointer none, .slice none 0 0] bldT)
  go_enter Tryz.func127, Tryz.ntmps127
  go_wp2_with fail
  generalize (w.alloc _) = w1 at hb0 hxb ⊢
  obtain ⟨B, hB⟩ : ∃ B, B = w.heap.size := ⟨_, rfl⟩
  rw [<- hB] at hb0 ⊢
  replace hb0 := hid hb0
  replace hxb := hid hxb
  replace hB := hid hB
  go_loopg [9] s.size (fun g i wr => ∃ (j : Nat) (ty : Bs), j + g = s.size /\ i = .int .i64 j /\ Bld B B ty wr /\ KeepB B B w1 wr /\ tz = ty ++ (s.data.toList.drop j).flatMap hexB2 /\ ty.length = 2 * j)
  case atStart => exact ⟨0, [], by omega, rfl, hb0.out, KeepB.refl _ _ _, htz.out, by simp⟩
  case round =>
   clear htz hb0
   obtain ⟨j, ty, hj, rfl, hBr, hK, ht, hlen⟩ := hrel
   replace hj := hid hj
   by_cases hlt : j < s.size
   ·have hd : decide ((j : Int) < (s.size : Int)) = true := decide_eq_true (by omega)
    have hdi : (j : Int) < (s.size : Int) := by omega
    rw [drop_at s hlt] at ht
    have ht2 : tz = ((ty ++ [hexD (s[j].toNat / 16)]) ++ [hexD (s[j].toNat % 16)]) ++ (s.data.toList.drop (j + 1)).flatMap hexB2 := by rw [ht]; simp [hexB2]
    clear ht
    have hc := s[j].toNat_lt
    have e1 := hexDig (s[j].toNat / 16) (by omega)
    have e2 := hexDig (s[j].toNat % 16) (by omega)
    have e3 : bits .and .u8 (s[j].toNat : Int) 15 = ((s[j].toNat % 16 : Nat) : Int) := by rw [u8_and15 _ (by omega) (by omega)]; omega
    replace ht2 := hid ht2
    replace hlen := hid hlen
    go_wp2_with fail
    refine (putByte_any B B ty _ _ hBr (by have := hlen.out; omega)).mono ?_; rintro e w2 ⟨rfl, hB2, hK2⟩
    have hK2 := hid (hK.trans hK2)
    clear hBr hK
    replace hB2 := hid hB2
    go_wp2_with fail
    refine (putByte_any B B _ _ _ hB2.out (by have := hlen.out; simp; omega)).mono ?_; rintro e w3 ⟨rfl, hB3, hK3⟩
    have hK3 := hid (hK2.out.trans hK3)
    clear hB2 hK2
    replace hB3 := hid hB3
    go_wp2_with fail
    go_roundg (gk - 1)
    case measure => have := hj.out; omega
    case rel => exact ⟨j + 1, _, by have := hj.out; omega, by go_num, hB3.out, hK3.out, ht2.out, by have := hlen.out; simp; omega⟩
   ·obtain rfl : j = s.size := by have := hj.out; omega
    have hdi : ¬ (s.size : Int) < (s.size : Int) := by omega
    have hd : decide ((s.size : Int) < (s.size : Int)) = false := decide_eq_false hdi
    rw [List.drop_eq_nil_of_le (Nat.le_of_eq (size_of s).symm)] at ht
    simp only [List.flatMap_nil, List.append_nil] at ht
    have hm := hid ((hxb.out.mono (T := fun k => B <= k) (fun _ h => h.elim)).trans hK.1)
    have hst := hid (bstr_any B B ty wr hBr)
    replace ht := hid ht
    replace hlen := hid hlen
    clear hBr hK
    go_wp2_with fail
    refine hst.out.mono ?_; rintro e w4 ⟨rfl, hm4⟩
    replace hm4 := hid hm4
    go_wp2_with fail
    go_ret
    exact ⟨by rw [ht.out]; rfl, mod_ext (by rw [hB.out]; exact Nat.le_refl _) (hm.out.trans hm4.out)⟩
open Go.RowKit Cdk Scr
def acA (a1 : Option Addr) (n1 c1 : Nat) (a2 : Option Addr) (n2 c2 : Nat) (a3 : Option Addr) (n3 c3 : Nat) (a4 : Option Addr) (n4 c4 : Nat) (a5 : Option Addr) (n5 c5 : Nat) (a : Ac) : Array Value :=
 #[.int .i64 a.kd, .int .i64 a.fc.n, .int .i64 a.fc.tm, .int .i64 a.fc.kd, .int .i64 a.fc.st, .string ⟨a.fc.lg.toArray⟩, .int .i64 a.fc.rv, .int .i64 a.fc.bs, .string ⟨a.fc.ti.toArray⟩, .string ⟨a.fc.au.toArray⟩, .slice a1 n1 c1, .slice a2 n2 c2, .int .i64 a.fc.lb.til, .slice a3 n3 c3, .int .i64 a.fc.lb.app, .int .i64 a.fc.lb.den, .int .i64 a.fc.ed, .int .i64 a.fc.bk, .int .i64 a.fc.se, .string ⟨a.fc.tx.toArray⟩, .string ⟨a.fc.nm.toArray⟩, .int .i64 a.fc.pa, .int .i64 a.fc.cl, .int .i64 a.fc.un,
  .int .i64 a.n, .int .i64 a.cl, .string ⟨a.tx.toArray⟩, .slice a4 n4 c4, .slice a5 n5 c5, .int .i64 a.ms.kd, .int .i64 a.ms.pa, .int .i64 a.ms.sq, .int .i64 a.ms.st, .int .i64 a.ms.ba, .int .i64 a.ms.ve, .string ⟨a.ms.da.toArray⟩]
theorem acA_eq (a1 : Option Addr) (n1 c1 : Nat) (a2 : Option Addr) (n2 c2 : Nat) (a3 : Option Addr) (n3 c3 : Nat) (a4 : Option Addr) (n4 c4 : Nat) (a5 : Option Addr) (n5 c5 : Nat) (a : Ac) : (acC (⟨⟨.slice a1 n1 c1, .slice a2 n2 c2, .slice a3 n3 c3⟩, .slice a4 n4 c4, .slice a5 n5 c5⟩, a)).toArray = acA a1 n1 c1 a2 n2 c2 a3 n3 c3 a4 n4 c4 a5 n5 c5 a := rfl
theorem msEq_run (m1 m2 : Ms) (w : World) : (Op.equalIn 10000 30 (.agg (msC m1).toArray) (.agg (msC m2).toArray)).run Tryz.prog w = .ok (decide (m1 = m2)) w := by
 obtain ⟨a1, a2, a3, a4, a5, a6, a7⟩ := m1
 obtain ⟨b1, b2, b3, b4, b5, b6, b7⟩ := m2
 have u3 := Tryz.underlying3
 have u9 := Tryz.underlying9
 have i3 := Tryz.isAgg3
 have i9 := Tryz.isAgg9
 have z3 := Tryz.sizeOf3
 have z9 := Tryz.sizeOf9
 have hS : Tryz.prog.underlying 30 = some (.struct (Tryz.prog.fieldsOf 30)) := by kernel_rfl
 have hp : Tryz.prog.stoodInHeld 30 = false := by kernel_rfl
 unfold msC strV
 simp only
 rw [show (10000 : Nat) = 9999 + 1 from rfl, run_equalIn_agg w 9999 30 _ _ hS hp]
 simp only [Program.fieldsOf, Tryz.underlying30]
 go_simp
 repeat' split
 all_goals simp [*]
theorem actSame_any {F : Nat -> Prop} (a11 : Option Addr) (n11 c11 : Nat) (a12 : Option Addr) (n12 c12 : Nat) (a13 : Option Addr) (n13 c13 : Nat) (a14 : Option Addr) (n14 c14 : Nat) (a15 : Option Addr) (n15 c15 : Nat) (a : Ac) (a21 : Option Addr) (n21 c21 : Nat) (a22 : Option Addr) (n22 c22 : Nat) (a23 : Option Addr) (n23 c23 : Nat) (a24 : Option Addr) (n24 c24 : Nat) (a25 : Option Addr) (n25 c25 : Nat) (b : Ac) (w : World) (h1 : AcAt F w ⟨⟨.slice a11 n11 c11, .slice a12 n12 c12, .slice a13 n13 c13⟩, .slice a14 n14 c14, .slice a15 n15 c15⟩ a) (h2 : AcAt F w ⟨⟨.slice a21 n21 c21, .slice a22 n22 c22, .slice a23 n23 c23⟩, .slice a24 n24 c24, .slice a25 n25 c25⟩ b) :
  Calls Tryz.prog 16 #[.agg (acA a11 n11 c11 a12 n12 c12 a13 n13 c13 a14 n14 c14 a15 n15 c15 a), .agg (acA a21 n21 c21 a22 n22 c22 a23 n23 c23 a24 n24 c24 a25 n25 c25 b)] w fun e w' => e = .returned (.bool (decide (a = b))) /\ Ext w w' := by
 obtain ⟨r, hr⟩ : ∃ r, r = decide (a = b) := ⟨_, rfl⟩
 rw [<- hr]
 have H1 := hid (fun W (hX : Ext w W) => intsEq_any (F := F) (.slice a14 n14 c14) (.slice a24 n24 c24) a.fa b.fa W (h1.fa.ext hX) (h2.fa.ext hX))
 have H2 := hid (fun W (hX : Ext w W) => intsEq_any (F := F) (.slice a15 n15 c15) (.slice a25 n25 c25) a.ke b.ke W (h1.ke.ext hX) (h2.ke.ext hX))
 have H3 := hid (fun W (hX : Ext w W) => factSame_any (F := F) a11 n11 c11 a12 n12 c12 a13 n13 c13 a.fc a21 n21 c21 a22 n22 c22 a23 n23 c23 b.fc W (h1.fc.ext hX) (h2.fc.ext hX))
 clear h1 h2
 obtain ⟨k1, f1, n1, cl1, x1, fa1, ke1, m1⟩ := a
 obtain ⟨m1kd, m1pa, m1sq, m1st, m1ba, m1ve, m1da⟩ := m1
 obtain ⟨k2, f2, n2, cl2, x2, fa2, ke2, m2⟩ := b
 obtain ⟨m2kd, m2pa, m2sq, m2st, m2ba, m2ve, m2da⟩ := m2
 replace hr : r = (decide (k1 = k2) && (decide (n1 = n2) && (decide (cl1 = cl2) && (decide (x1 = x2) && (decide ((⟨m1kd, m1pa, m1sq, m1st, m1ba, m1ve, m1da⟩ : Ms) = ⟨m2kd, m2pa, m2sq, m2st, m2ba, m2ve, m2da⟩) && (decide (fa1 = fa2) && (decide (ke1 = ke2) && (decide (f1 = f2))))))))) := by
  rw [hr, Bool.eq_iff_iff]
  simp only [Ac.mk.injEq, decide_eq_true_eq, Bool.and_eq_true]
  constructor
  ·rintro ⟨h1, h2, h3, h4, h5, h6, h7, h8⟩; exact ⟨h1, h3, h4, h5, h8, h6, h7, h2⟩
  ·rintro ⟨h1, h3, h4, h5, h8, h6, h7, h2⟩; exact ⟨h1, h2, h3, h4, h5, h6, h7, h8⟩
 simp only at H1 H2 H3
 generalize decide (fa1 = fa2) = b_fa at hr H1
 generalize decide (ke1 = ke2) = b_ke at hr H2
 generalize decide (f1 = f2) = b_f at hr H3
 have hms := fun W => msEq_run ⟨m1kd, m1pa, m1sq, m1st, m1ba, m1ve, m1da⟩ ⟨m2kd, m2pa, m2sq, m2st, m2ba, m2ve, m2da⟩ W
 unfold msC strV at hms
 simp only at hms
 generalize decide ((⟨m1kd, m1pa, m1sq, m1st, m1ba, m1ve, m1da⟩ : Ms) = ⟨m2kd, m2pa, m2sq, m2st, m2ba, m2ve, m2da⟩) = b_m at hr hms
 have e_k := int_bne k1 k2
 generalize decide (k1 = k2) = b_k at hr e_k
 have e_n := int_bne n1 n2
 generalize decide (n1 = n2) = b_n at hr e_n
 have e_cl := int_bne cl1 cl2
 generalize decide (cl1 = cl2) = b_cl at hr e_cl
 have e_x : (x1 != x2) = !decide (x1 = x2) := by rw [Bool.eq_iff_iff, bne_iff_ne]; simp
 have g_x := bs_beq x1 x2
 generalize decide (x1 = x2) = b_x at hr e_x g_x
 replace hr := hid hr
 obtain ⟨hx, hA, hB, -⟩ := two_boxes w #[.int .i64 k1, .int .i64 f1.n, .int .i64 f1.tm, .int .i64 f1.kd, .int .i64 f1.st, .string ⟨f1.lg.toArray⟩, .int .i64 f1.rv, .int .i64 f1.bs, .string ⟨f1.ti.toArray⟩, .string ⟨f1.au.toArray⟩, .slice a11 n11 c11, .slice a12 n12 c12, .int .i64 f1.lb.til, .slice a13 n13 c13, .int .i64 f1.lb.app, .int .i64 f1.lb.den, .int .i64 f1.ed, .int .i64 f1.bk, .int .i64 f1.se, .string ⟨f1.tx.toArray⟩, .string ⟨f1.nm.toArray⟩, .int .i64 f1.pa, .int .i64 f1.cl, .int .i64 f1.un, .int .i64 n1, .int .i64 cl1, .string ⟨x1.toArray⟩, .slice a14 n14 c14, .slice a15 n15 c15, .int .i64 m1kd, .int .i64 m1pa, .int .i64 m1sq, .int .i64 m1st, .int .i64 m1ba, .int .i64 m1ve, .string ⟨m1da.toArray⟩] #[.int .i64 k2, .int .i64 f2.n, .int .i64 f2.tm, .int .i64 f2.kd, .int .i64 f2.st, .string ⟨f2.lg.toArray⟩, .int .i64 f2.rv, .int .i64 f2.bs, .string ⟨f2.ti.toArray⟩, .string ⟨f2.au.toArray⟩, .slice a21 n21 c21, .slice a22 n22 c22, .int .i64 f2.lb.til, .slice a23 n23 c23, .int .i64 f2.lb.app, .int .i64 f2.lb.den, .int .i64 f2.ed, .int .i64 f2.bk, .int .i64 f2.se, .string ⟨f2.tx.toArray⟩, .string ⟨f2.nm.toArray⟩, .int .i64 f2.pa, .int .i64 f2.cl, .int .i64 f2.un, .int .i64 n2, .int .i64 cl2, .string ⟨x2.toArray⟩, .slice a24 n24 c24, .slice a25 n25 c25, .int .i64 m2kd, .int .i64 m2pa, .int .i64 m2sq, .int .i64 m2st, .int .i64 m2ba, .int .i64 m2ve, .string ⟨m2da.toArray⟩] 32 32
 replace hx := hid hx
 unfold acA
 simp only
 go_enter Tryz.func16, Tryz.ntmps16
 go_upto_region 1 with (fail)
 generalize ((w.alloc (.cells #[.int .i64 k1, .int .i64 f1.n, .int .i64 f1.tm, .int .i64 f1.kd, .int .i64 f1.st, .string ⟨f1.lg.toArray⟩, .int .i64 f1.rv, .int .i64 f1.bs, .string ⟨f1.ti.toArray⟩, .string ⟨f1.au.toArray⟩, .slice a11 n11 c11, .slice a12 n12 c12, .int .i64 f1.lb.til, .slice a13 n13 c13, .int .i64 f1.lb.app, .int .i64 f1.lb.den, .int .i64 f1.ed, .int .i64 f1.bk, .int .i64 f1.se, .string ⟨f1.tx.toArray⟩, .string ⟨f1.nm.toArray⟩, .int .i64 f1.pa, .int .i64 f1.cl, .int .i64 f1.un, .int .i64 n1, .int .i64 cl1, .string ⟨x1.toArray⟩, .slice a14 n14 c14, .slice a15 n15 c15, .int .i64 m1kd, .int .i64 m1pa, .int .i64 m1sq, .int .i64 m1st, .int .i64 m1ba, .int .i64 m1ve, .string ⟨m1da.toArray⟩] 32)).alloc (.cells #[.int .i64 k2, .int .i64 f2.n, .int .i64 f2.tm, .int .i64 f2.kd, .int .i64 f2.st, .string ⟨f2.lg.toArray⟩, .int .i64 f2.rv, .int .i64 f2.bs, .string ⟨f2.ti.toArray⟩, .string ⟨f2.au.toArray⟩, .slice a21 n21 c21, .slice a22 n22 c22, .int .i64 f2.lb.til, .slice a23 n23 c23, .int .i64 f2.lb.app, .int .i64 f2.lb.den, .int .i64 f2.ed, .int .i64 f2.bk, .int .i64 f2.se, .string ⟨f2.tx.toArray⟩, .string ⟨f2.nm.toArray⟩, .int .i64 f2.pa, .int .i64 f2.cl, .int .i64 f2.un, .int .i64 n2, .int .i64 cl2, .string ⟨x2.toArray⟩, .slice a24 n24 c24, .slice a25 n25 c25, .int .i64 m2kd, .int .i64 m2pa, .int .i64 m2sq, .int .i64 m2st, .int .i64 m2ba, .int .i64 m2ve, .string ⟨m2da.toArray⟩] 32)) = W at hx hA hB ⊢
 generalize w.heap.size = R at hA hB ⊢
 have p_0 : W.cell? ⟨R, 0, none⟩ = some (.int .i64 k1) := cell_of' hA 0
 have q_0 : W.cell? ⟨R + 1, 0, none⟩ = some (.int .i64 k2) := cell_of' hB 0
 have p_24 : W.cell? ⟨R, 24, none⟩ = some (.int .i64 n1) := cell_of' hA 24
 have q_24 : W.cell? ⟨R + 1, 24, none⟩ = some (.int .i64 n2) := cell_of' hB 24
 have p_25 : W.cell? ⟨R, 25, none⟩ = some (.int .i64 cl1) := cell_of' hA 25
 have q_25 : W.cell? ⟨R + 1, 25, none⟩ = some (.int .i64 cl2) := cell_of' hB 25
 have p_26 : W.cell? ⟨R, 26, none⟩ = some (.string ⟨x1.toArray⟩) := cell_of' hA 26
 have q_26 : W.cell? ⟨R + 1, 26, none⟩ = some (.string ⟨x2.toArray⟩) := cell_of' hB 26
 have p_29 : W.cell? ⟨R, 29, none⟩ = some (.int .i64 m1kd) := cell_of' hA 29
 have q_29 : W.cell? ⟨R + 1, 29, none⟩ = some (.int .i64 m2kd) := cell_of' hB 29
 have p_30 : W.cell? ⟨R, 30, none⟩ = some (.int .i64 m1pa) := cell_of' hA 30
 have q_30 : W.cell? ⟨R + 1, 30, none⟩ = some (.int .i64 m2pa) := cell_of' hB 30
 have p_31 : W.cell? ⟨R, 31, none⟩ = some (.int .i64 m1sq) := cell_of' hA 31
 have q_31 : W.cell? ⟨R + 1, 31, none⟩ = some (.int .i64 m2sq) := cell_of' hB 31
 have p_32 : W.cell? ⟨R, 32, none⟩ = some (.int .i64 m1st) := cell_of' hA 32
 have q_32 : W.cell? ⟨R + 1, 32, none⟩ = some (.int .i64 m2st) := cell_of' hB 32
 have p_33 : W.cell? ⟨R, 33, none⟩ = some (.int .i64 m1ba) := cell_of' hA 33
 have q_33 : W.cell? ⟨R + 1, 33, none⟩ = some (.int .i64 m2ba) := cell_of' hB 33
 have p_34 : W.cell? ⟨R, 34, none⟩ = some (.int .i64 m1ve) := cell_of' hA 34
 have q_34 : W.cell? ⟨R + 1, 34, none⟩ = some (.int .i64 m2ve) := cell_of' hB 34
 have p_35 : W.cell? ⟨R, 35, none⟩ = some (.string ⟨m1da.toArray⟩) := cell_of' hA 35
 have q_35 : W.cell? ⟨R + 1, 35, none⟩ = some (.string ⟨m2da.toArray⟩) := cell_of' hB 35
 have p_27 : W.cell? ⟨R, 27, none⟩ = some (.slice a14 n14 c14) := cell_of' hA 27
 have q_27 : W.cell? ⟨R + 1, 27, none⟩ = some (.slice a24 n24 c24) := cell_of' hB 27
 replace hA := hid hA
 replace hB := hid hB
 cases b_k with
 | false =>
  go_wp2_with fail
  go_ret
  exact ⟨by rw [hr.out]; simp, hx.out⟩
 | true =>
 cases b_n with
 | false =>
  go_wp2_with fail
  go_ret
  exact ⟨by rw [hr.out]; simp, hx.out⟩
 | true =>
 cases b_cl with
 | false =>
  go_wp2_with fail
  go_ret
  exact ⟨by rw [hr.out]; simp, hx.out⟩
 | true =>
 cases b_x with
 | false =>
  go_wp2_with fail
  go_ret
  exact ⟨by rw [hr.out]; simp, hx.out⟩
 | true =>
 cases b_m with
 | false =>
  go_wp2_with fail
  go_ret
  exact ⟨by rw [hr.out]; simp, hx.out⟩
 | true =>
 go_upto_region 3 with (fail)
 refine wp_region_strip ?_
 simp only [List.map_cons, List.map_nil, strip_mk]
 go_wp2_with fail
 refine (H1.out _ hx.out).mono ?_; rintro e W2 ⟨rfl, hxn⟩
 replace hA := hid (hxn.at hA.out (fun h => h))
 replace hB := hid (hxn.at hB.out (fun h => h))
 replace hx := hid (hx.out.trans hxn)
 clear hxn p_0 q_0 p_24 q_24 p_25 q_25 p_26 q_26 p_29 q_29 p_30 q_30 p_31 q_31 p_32 q_32 p_33 q_33 p_34 q_34 p_35 q_35 p_27 q_27
 have p_28 : W2.cell? ⟨R, 28, none⟩ = some (.slice a15 n15 c15) := cell_of' hA.out 28
 have q_28 : W2.cell? ⟨R + 1, 28, none⟩ = some (.slice a25 n25 c25) := cell_of' hB.out 28
 cases b_fa with
 | false =>
  go_wp2_with fail
  go_ret
  exact ⟨by rw [hr.out]; simp, hx.out⟩
 | true =>
 go_wp2_with fail
 refine (H2.out _ hx.out).mono ?_; rintro e W3 ⟨rfl, hxn⟩
 replace hA := hid (hxn.at hA.out (fun h => h))
 replace hB := hid (hxn.at hB.out (fun h => h))
 replace hx := hid (hx.out.trans hxn)
 clear hxn p_28 q_28
 cases b_ke with
 | false =>
  go_wp2_with fail
  go_ret
  exact ⟨by rw [hr.out]; simp, hx.out⟩
 | true =>
 unfold fcA at H3
 go_wp2_with (first | (refine wpList_loadG (by rfl) 28 _ rfl R 1 [.int .i64 k1] [.int .i64 f1.n, .int .i64 f1.tm, .int .i64 f1.kd, .int .i64 f1.st, .string ⟨f1.lg.toArray⟩, .int .i64 f1.rv, .int .i64 f1.bs, .string ⟨f1.ti.toArray⟩, .string ⟨f1.au.toArray⟩, .slice a11 n11 c11, .slice a12 n12 c12, .int .i64 f1.lb.til, .slice a13 n13 c13, .int .i64 f1.lb.app, .int .i64 f1.lb.den, .int .i64 f1.ed, .int .i64 f1.bk, .int .i64 f1.se, .string ⟨f1.tx.toArray⟩, .string ⟨f1.nm.toArray⟩, .int .i64 f1.pa, .int .i64 f1.cl, .int .i64 f1.un] [.int .i64 n1, .int .i64 cl1, .string ⟨x1.toArray⟩, .slice a14 n14 c14, .slice a15 n15 c15, .int .i64 m1kd, .int .i64 m1pa, .int .i64 m1sq, .int .i64 m1st, .int .i64 m1ba, .int .i64 m1ve, .string ⟨m1da.toArray⟩] _ _ _ rfl rfl hA.out Tryz.underlying28 rfl (by kernel_rfl) ?_) | (refine wpList_loadG (by rfl) 28 _ rfl (R + 1) 1 [.int .i64 k2] [.int .i64 f2.n, .int .i64 f2.tm, .int .i64 f2.kd, .int .i64 f2.st, .string ⟨f2.lg.toArray⟩, .int .i64 f2.rv, .int .i64 f2.bs, .string ⟨f2.ti.toArray⟩, .string ⟨f2.au.toArray⟩, .slice a21 n21 c21, .slice a22 n22 c22, .int .i64 f2.lb.til, .slice a23 n23 c23, .int .i64 f2.lb.app, .int .i64 f2.lb.den, .int .i64 f2.ed, .int .i64 f2.bk, .int .i64 f2.se, .string ⟨f2.tx.toArray⟩, .string ⟨f2.nm.toArray⟩, .int .i64 f2.pa, .int .i64 f2.cl, .int .i64 f2.un] [.int .i64 n2, .int .i64 cl2, .string ⟨x2.toArray⟩, .slice a24 n24 c24, .slice a25 n25 c25, .int .i64 m2kd, .int .i64 m2pa, .int .i64 m2sq, .int .i64 m2st, .int .i64 m2ba, .int .i64 m2ve, .string ⟨m2da.toArray⟩] _ _ _ rfl rfl hB.out Tryz.underlying28 rfl (by kernel_rfl) ?_))
 refine (H3.out _ hx.out).mono ?_; rintro e W4 ⟨rfl, hxn⟩
 replace hx := hid (hx.out.trans hxn)
 clear hxn hA hB
 go_wp2_with fail
 go_ret
 exact ⟨by rw [hr.out]; simp, hx.out⟩
theorem lW {ops : Array Oper} {C : World -> Prop} {Q : Exit -> Act -> World -> Prop} {o : Oper} {r : List (Oper × Bool)} {a : Act} {w : World} {x : Operand} {cs : Array Value} {t : TypeId} {fr : Nat × Nat} {d : TypeDesc} (ty : TypeId) (b : Nat) (hS : ∀ w, C w -> w.heap[b]? = some (.cells cs t fr)) (h : wpS Tryz.prog ops C Q r (a.put o.dst (.agg cs)) w)
  (hw : Region.wanted o (yielded ops a.tmps) = true := by rfl) (ho : o.op = .load ty x := by rfl) (hx : a.eval x = .pointer (some ⟨b, 0, none⟩) := by rfl) (hu : Tryz.prog.underlying ty = some d := by first | exact Tryz.underlying28 | exact Tryz.underlying32) (hd : d.isRow = true := by rfl) (hi : (Tryz.prog.info? ty).map (·.size) = some cs.size := by kernel_rfl) : wpS Tryz.prog ops C Q ((o, true) :: r) a w :=
 wpS_loadW hw ty x ho b cs t fr d hx hS hu hd hi h
theorem lL {ops : Array Oper} {C : World -> Prop} {Q : Exit -> Act -> World -> Prop} {o : Oper} {r : List (Oper × Bool)} {a : Act} {w : World} {x : Operand} {t : TypeId} {fr : Nat × Nat} {d : TypeDesc} {x0 x1 x2 x3 x4 x5 x6 x7 x8 x9 x10 x11 x12 x13 x14 x15 x16 x17 x18 x19 x20 x21 x22 : Value} (ty : TypeId) (b : Nat)
  (hS : ∀ w, C w -> w.heap[b]? = some (.cells #[x0, x1, x2, x3, x4, x5, x6, x7, x8, x9, x10, x11, x12, x13, x14, x15, x16, x17, x18, x19, x20, x21, x22] t fr)) (h : wpS Tryz.prog ops C Q r (a.put o.dst (.agg #[x11, x12, x13, x14])) w)
  (hw : Region.wanted o (yielded ops a.tmps) = true := by rfl) (ho : o.op = .load ty x := by rfl) (hx : a.eval x = .pointer (some ⟨b, 11, none⟩) := by rfl) (hu : Tryz.prog.underlying ty = some d := by exact Tryz.underlying26) (hd : d.isRow = true := by rfl) (hi : (Tryz.prog.info? ty).map (·.size) = some 4 := by kernel_rfl) : wpS Tryz.prog ops C Q ((o, true) :: r) a w :=
 wpS_loadL hw ty x ho b t fr d hx hS hu hd hi h
theorem ret_cell_tmp {P : Program} {fn : Func} {p u : Tmp} {ty : TypeId} (h : fn.results = #[.cell p ty, .tmp u]) (tmps : Array Value) (w : World) (g : Nat) (t : TypeId) (cs : Array Value) (fr : Nat × Nat) (d : TypeDesc)
  (hp : tmps.getD p undef = .pointer (some ⟨g, 0, none⟩)) (hg : w.heap[g]? = some (.cells cs t fr))
  (hu : P.underlying ty = some d) (hd : (match d with | .struct _ | .array _ _ => true | _ => false) = true) (hi : (P.info? ty).map (·.size) = some cs.size) :
  (results fn tmps).run P w = .ok (.tuple #[.agg cs, tmps.getD u undef]) w := by
 rw [results_cell_tmp h, hp]
 simp [asAddr, run_loadVar_row w g t ty cs fr d hg hu hd hi, Result.andThen]
theorem fused_k6 (a1 : Option Addr) (n1 c1 : Nat) (a2 : Option Addr) (n2 c2 : Nat) (a3 : Option Addr) (n3 c3 : Nat) (n tm st rv bs til app den ed bk se pa cl un : Int) (lg ti au tx nm : Bs) (w : World) :
  Calls Tryz.prog 54 #[.agg (y0 n tm 6 st lg rv bs ti au a1 n1 c1 a2 n2 c2 til a3 n3 c3 app den ed bk se tx nm pa cl un)] w fun e w' => e = .returned (.tuple #[.agg #[.int .i64 n, .int .i64 tm, .int .i64 6, .int .i64 st, .string ⟨#[]⟩, .int .i64 0, .int .i64 0, .string ⟨#[]⟩, .string ⟨#[]⟩, .slice none 0 0, .slice none 0 0, .int .i64 0, .slice none 0 0, .int .i64 0, .int .i64 0, .int .i64 0, .int .i64 0, .int .i64 0, .string ⟨#[]⟩, .string ⟨#[]⟩, .int .i64 0, .int .i64 0, .int .i64 0], .bool (rng st 1 64)]) /\ Ext w w' := by
 obtain ⟨ok, hok⟩ : ∃ ok, ok = (rng st 1 64) := ⟨_, rfl⟩
 rw [<- hok]
 have k1 := hid (fun W => fwithin_any st 1 64 W)
 have k2 := hid (fun W => fwithin_any pa 1 8 W)
 have k3 := hid (fun W => fwithin_any un 0 1000000000 W)
 generalize rng st 1 64 = b1 at k1 hok
 generalize rng pa 1 8 = b2 at k2 hok
 generalize rng un 0 1000000000 = b3 at k3 hok
 replace hok := hid hok
 have h3 := hid (three_boxes w (y0 n tm 6 st lg rv bs ti au a1 n1 c1 a2 n2 c2 til a3 n3 c3 app den ed bk se tx nm pa cl un) zF9 zF9 28 28 28)
 go_enter Tryz.func54, Tryz.ntmps54
 go_wp2_with (refine wpList_storeW rfl 28 _ _ rfl (w.heap.size + 1 + 1) _ _ 28 rfl rfl h3.out.2.2.2 rfl (by kernel_rfl) rfl (fun W H1 => ?_); have q_st : W.cell? ⟨w.heap.size, 3, none⟩ = some (.int .i64 st) := cell_of' (H1.out.2.at h3.out.2.1 (by omega)) 3)
 obtain ⟨hm0, hA0, hV0, -⟩ := h3.out
 clear h3
 have hA := hid (H1.out.2.at hA0 (by omega))
 have hV := hid (H1.out.2.at hV0 (by omega))
 have hU := hid H1.out.1
 have hm := hid ((hm0.mono (T := fun k => w.heap.size <= k) (fun _ h => h.elim)).then H1.out.2 (fun k _ e => by omega))
 clear H1 hA0 hV0 hm0
 have hfin : Hid (∀ w', Mod (fun k => w.heap.size <= k) w w' -> Ext w w') := hid (fun w' h => h.mono' (fun k hk e => by omega))
 generalize w.heap.size = R at hA hV hU hm hfin ⊢
 refine (k1.out _).mono ?_; rintro e w' ⟨rfl, rfl⟩
 have q_pa : W.cell? ⟨R, 20, none⟩ = some (.int .i64 pa) := cell_of' hA.out 20
 have q_un : W.cell? ⟨R, 22, none⟩ = some (.int .i64 un) := cell_of' hA.out 22
 have q_kd : W.cell? ⟨R, 2, none⟩ = some (.int .i64 6) := cell_of' hA.out 2
 go_wp2_with fail
 refine (k2.out _).mono ?_; rintro e w' ⟨rfl, rfl⟩
 cases b2
 case' false => clear k1 k2 k3 q_st q_pa q_un
 case' true =>
  go_wp2_with fail
  refine (k3.out _).mono ?_; rintro e w' ⟨rfl, rfl⟩
  clear k1 k2 k3 q_st q_pa q_un
 all_goals
  go_wp2_with (first | (refine wpList_loadA rfl 28 _ rfl _ 0 [] [.int .i64 n, .int .i64 tm, .int .i64 6, .int .i64 st, .string ⟨#[]⟩, .int .i64 0, .int .i64 0, .string ⟨#[]⟩, .string ⟨#[]⟩, .slice none 0 0, .slice none 0 0, .int .i64 0, .slice none 0 0, .int .i64 0, .int .i64 0, .int .i64 0, .int .i64 0, .int .i64 0, .string ⟨#[]⟩, .string ⟨#[]⟩, .int .i64 0, .int .i64 0, .int .i64 0] [] _ _ _ rfl rfl hU.out Tryz.underlying28 rfl (by kernel_rfl) ?_) | (refine wpList_storeA rfl 28 _ _ rfl (R + 1) 0 [] (y1) [] _ 28 rfl rfl rfl hV.out rfl (by kernel_rfl) rfl (fun WF HF => ?_)))
  refine bodyPost_ret (ret_cell_tmp rfl _ _ (R + 1) _ _ _ _ rfl HF.out.1 Tryz.underlying28 rfl (by kernel_rfl)) rfl ?_
  exact ⟨by rw [hok.out]; simp [*] , hfin.out _ (hm.out.then HF.out.2 (fun k _ e => by omega))⟩
theorem fused_k10 (a1 : Option Addr) (n1 c1 : Nat) (a2 : Option Addr) (n2 c2 : Nat) (a3 : Option Addr) (n3 c3 : Nat) (n tm st rv bs til app den ed bk se pa cl un : Int) (lg ti au tx nm : Bs) (w : World) :
  Calls Tryz.prog 54 #[.agg (y0 n tm 10 st lg rv bs ti au a1 n1 c1 a2 n2 c2 til a3 n3 c3 app den ed bk se tx nm pa cl un)] w fun e w' => e = .returned (.tuple #[.agg #[.int .i64 n, .int .i64 tm, .int .i64 10, .int .i64 st, .string ⟨#[]⟩, .int .i64 0, .int .i64 0, .string ⟨#[]⟩, .string ⟨#[]⟩, .slice none 0 0, .slice none 0 0, .int .i64 0, .slice none 0 0, .int .i64 0, .int .i64 0, .int .i64 0, .int .i64 0, .int .i64 0, .string ⟨#[]⟩, .string ⟨#[]⟩, .int .i64 0, .int .i64 0, .int .i64 0], .bool (rng st 1 64)]) /\ Ext w w' := by
 obtain ⟨ok, hok⟩ : ∃ ok, ok = (rng st 1 64) := ⟨_, rfl⟩
 rw [<- hok]
 have k1 := hid (fun W => fwithin_any st 1 64 W)
 have k2 := hid (fun W => fwithin_any pa 1 8 W)
 have k3 := hid (fun W => fwithin_any un 0 1000000000 W)
 generalize rng st 1 64 = b1 at k1 hok
 generalize rng pa 1 8 = b2 at k2 hok
 generalize rng un 0 1000000000 = b3 at k3 hok
 replace hok := hid hok
 have h3 := hid (three_boxes w (y0 n tm 10 st lg rv bs ti au a1 n1 c1 a2 n2 c2 til a3 n3 c3 app den ed bk se tx nm pa cl un) zF9 zF9 28 28 28)
 go_enter Tryz.func54, Tryz.ntmps54
 go_wp2_with (refine wpList_storeW rfl 28 _ _ rfl (w.heap.size + 1 + 1) _ _ 28 rfl rfl h3.out.2.2.2 rfl (by kernel_rfl) rfl (fun W H1 => ?_); have q_st : W.cell? ⟨w.heap.size, 3, none⟩ = some (.int .i64 st) := cell_of' (H1.out.2.at h3.out.2.1 (by omega)) 3)
 obtain ⟨hm0, hA0, hV0, -⟩ := h3.out
 clear h3
 have hA := hid (H1.out.2.at hA0 (by omega))
 have hV := hid (H1.out.2.at hV0 (by omega))
 have hU := hid H1.out.1
 have hm := hid ((hm0.mono (T := fun k => w.heap.size <= k) (fun _ h => h.elim)).then H1.out.2 (fun k _ e => by omega))
 clear H1 hA0 hV0 hm0
 have hfin : Hid (∀ w', Mod (fun k => w.heap.size <= k) w w' -> Ext w w') := hid (fun w' h => h.mono' (fun k hk e => by omega))
 generalize w.heap.size = R at hA hV hU hm hfin ⊢
 refine (k1.out _).mono ?_; rintro e w' ⟨rfl, rfl⟩
 have q_pa : W.cell? ⟨R, 20, none⟩ = some (.int .i64 pa) := cell_of' hA.out 20
 have q_un : W.cell? ⟨R, 22, none⟩ = some (.int .i64 un) := cell_of' hA.out 22
 have q_kd : W.cell? ⟨R, 2, none⟩ = some (.int .i64 10) := cell_of' hA.out 2
 go_wp2_with fail
 refine (k2.out _).mono ?_; rintro e w' ⟨rfl, rfl⟩
 cases b2
 case' false => clear k1 k2 k3 q_st q_pa q_un
 case' true =>
  go_wp2_with fail
  refine (k3.out _).mono ?_; rintro e w' ⟨rfl, rfl⟩
  clear k1 k2 k3 q_st q_pa q_un
 all_goals
  go_wp2_with (first | (refine wpList_loadA rfl 28 _ rfl _ 0 [] [.int .i64 n, .int .i64 tm, .int .i64 10, .int .i64 st, .string ⟨#[]⟩, .int .i64 0, .int .i64 0, .string ⟨#[]⟩, .string ⟨#[]⟩, .slice none 0 0, .slice none 0 0, .int .i64 0, .slice none 0 0, .int .i64 0, .int .i64 0, .int .i64 0, .int .i64 0, .int .i64 0, .string ⟨#[]⟩, .string ⟨#[]⟩, .int .i64 0, .int .i64 0, .int .i64 0] [] _ _ _ rfl rfl hU.out Tryz.underlying28 rfl (by kernel_rfl) ?_) | (refine wpList_storeA rfl 28 _ _ rfl (R + 1) 0 [] (y1) [] _ 28 rfl rfl rfl hV.out rfl (by kernel_rfl) rfl (fun WF HF => ?_)))
  refine bodyPost_ret (ret_cell_tmp rfl _ _ (R + 1) _ _ _ _ rfl HF.out.1 Tryz.underlying28 rfl (by kernel_rfl)) rfl ?_
  exact ⟨by rw [hok.out]; simp [*] , hfin.out _ (hm.out.then HF.out.2 (fun k _ e => by omega))⟩
structure FR where
 kd : Int
 fk : Int
 wd : Bs
 wr : Value
 rd : Value
def frC (r : FR) : List Value := [.int .i64 r.kd, .int .i64 r.fk, .string ⟨r.wd.toArray⟩, r.wr, r.rd]
theorem frC_len (r : FR) : (frC r).length = 5 := rfl
def clV (f : Nat) : Value := .func (.func f) #[] #[]
def wrF : Nat -> Nat
 | 0 => 111
 | 1 => 113
 | 2 => 115
 | 3 => 119
 | 4 => 122
 | 5 => 124
 | 6 => 126
 | 7 => 130
 | 8 => 132
 | 9 => 134
 | 10 => 134
 | 11 => 134
 | 12 => 136
 | 13 => 140
 | 14 => 142
 | 15 => 144
 | 16 => 146
 | 17 => 148
 | _ => 0
def rdF : Nat -> Nat
 | 0 => 112
 | 1 => 114
 | 2 => 117
 | 3 => 120
 | 4 => 123
 | 5 => 125
 | 6 => 128
 | 7 => 131
 | 8 => 133
 | 9 => 135
 | 10 => 135
 | 11 => 135
 | 12 => 138
 | 13 => 141
 | 14 => 143
 | 15 => 145
 | 16 => 147
 | 17 => 150
 | _ => 0
def fmKd (j : Nat) : Int := (forms.getD j ⟨0, 0, []⟩).kd
def fmFk (j : Nat) : Int := (forms.getD j ⟨0, 0, []⟩).fk
def fmWd (j : Nat) : Bs := (forms.getD j ⟨0, 0, []⟩).wd
def FmAt (F : Nat -> Prop) (w : World) (j : Nat) (r : FR) : Prop :=
 r.kd = fmKd j /\ r.fk = fmFk j /\ r.wd = fmWd j ∧
  (if j < 6 then ∃ b : Nat, F b /\ F (b + 1) /\ r.wr = .func (.func 106) #[] #[.pointer (some ⟨b, 0, none⟩)] /\ r.rd = .func (.func 108) #[] #[.pointer (some ⟨b + 1, 0, none⟩)] ∧
    w.heap[b]? = some (.cells #[clV (wrF j)] 98 (0, 0)) /\ w.heap[b + 1]? = some (.cells #[clV (rdF j)] 122 (0, 0))
   else r.wr = clV (wrF j) /\ r.rd = clV (rdF j))
theorem FmAt.mod {F S : Nat -> Prop} {w w' : World} {j : Nat} {r : FR} (h : FmAt F w j r) (hm : Mod S w w') (hS : ∀ k, F k -> ¬ S k) : FmAt F w' j r := by
 obtain ⟨h1, h2, h3, h4⟩ := h
 refine ⟨h1, h2, h3, ?_⟩
 split at h4
 ·rename_i hj
  rw [if_pos hj]
  obtain ⟨b, f1, f2, e1, e2, k1, k2⟩ := h4
  exact ⟨b, f1, f2, e1, e2, hm.at k1 (hS _ f1), hm.at k2 (hS _ f2)⟩
 ·rename_i hj
  rw [if_neg hj]
  exact h4
theorem FmAt.ext {F : Nat -> Prop} {w w' : World} {j : Nat} {r : FR} (h : FmAt F w j r) (hm : Ext w w') : FmAt F w' j r := h.mod hm (fun _ _ h => h)
theorem FmAt.mono {F F' : Nat -> Prop} {w : World} {j : Nat} {r : FR} (h : FmAt F w j r) (hF : ∀ k, F k -> F' k) : FmAt F' w j r := by
 obtain ⟨h1, h2, h3, h4⟩ := h
 refine ⟨h1, h2, h3, ?_⟩
 split at h4
 ·rename_i hj
  rw [if_pos hj]
  obtain ⟨b, f1, f2, h⟩ := h4
  exact ⟨b, hF _ f1, hF _ f2, h⟩
 ·rename_i hj
  rw [if_neg hj]
  exact h4
def FmsP (w : World) (i n : Nat) (e : Ending) (w' : World) : Prop := ∃ (k : Nat) (rows : List FR), w.heap.size <= k /\ rows.length = n /\ e = .returned (.slice (some ⟨k, 0, none⟩) n n) /\ w'.heap[k]? = some (.cells (rows.flatMap frC).toArray 95 (0, 0)) ∧
 (∀ j (hj : j < rows.length), FmAt (fun k => w.heap.size <= k) w' (i + j) rows[j]) /\ Ext w w'
theorem story_any (kd : Int) (wd : Bs) (f g : Nat) (w : World) : Calls Tryz.prog 105 #[.int .i64 kd, .string ⟨wd.toArray⟩, .func (.func f) #[] #[], .func (.func g) #[] #[]] w fun e w' =>
  e = .returned (.agg #[.int .i64 1, .int .i64 kd, .string ⟨wd.toArray⟩, .func (.func 106) #[] #[.pointer (some ⟨w.heap.size, 0, none⟩)], .func (.func 108) #[] #[.pointer (some ⟨w.heap.size + 1, 0, none⟩)]]) ∧
   w'.heap[w.heap.size]? = some (.cells #[clV f] 98 (0, 0)) /\ w'.heap[w.heap.size + 1]? = some (.cells #[clV g] 122 (0, 0)) /\ Ext w w' /\ w.heap.size + 2 <= w'.heap.size := by
 go_enter Tryz.func105, Tryz.ntmps105
 go_wp2_with fail
 have h0 := heap_alloc_new w (.cells #[.func (.func f) #[] #[]] 98)
 have hx := Mod.alloc (Mod.refl (fun _ => False) w) (.cells #[.func (.func f) #[] #[]] 98)
 have hs1 : (w.alloc (.cells #[.func (.func f) #[] #[]] 98)).heap.size = w.heap.size + 1 := World.size_alloc _ _
 generalize (w.alloc (.cells #[.func (.func f) #[] #[]] 98)) = w1 at h0 hx hs1 ⊢
 have h1 := heap_alloc_new w1 (.cells #[.func (.func g) #[] #[]] 122)
 have hx1 := Mod.alloc (Mod.refl (fun _ => False) w1) (.cells #[.func (.func g) #[] #[]] 122)
 have hs2 : (w1.alloc (.cells #[.func (.func g) #[] #[]] 122)).heap.size = w.heap.size + 2 := by rw [World.size_alloc, hs1]
 rw [hs1] at h1
 generalize (w1.alloc (.cells #[.func (.func g) #[] #[]] 122)) = w2 at h1 hx1 hs2 ⊢
 have h2 := heap_alloc_new w2 (.cells #[.int .i64 1, .int .i64 kd, .string ⟨wd.toArray⟩, .func (.func 106) #[] #[.pointer (some ⟨w.heap.size, 0, none⟩)], .func (.func 108) #[] #[.pointer (some ⟨w.heap.size + 1, 0, none⟩)]] 95)
 have hx2 := Mod.alloc (Mod.refl (fun _ => False) w2) (.cells #[.int .i64 1, .int .i64 kd, .string ⟨wd.toArray⟩, .func (.func 106) #[] #[.pointer (some ⟨w.heap.size, 0, none⟩)], .func (.func 108) #[] #[.pointer (some ⟨w.heap.size + 1, 0, none⟩)]] 95)
 rw [hs2] at h2
 refine bodyPost_ret (results_cell_row rfl _ _ (w.heap.size + 2) _ _ _ _ rfl h2 Tryz.underlying95 rfl (by kernel_rfl)) rfl ⟨rfl, hx2.at (hx1.at h0 (fun h => h)) (fun h => h), hx2.at h1 (fun h => h), (hx.trans hx1).trans hx2, ?_⟩
 have := hx2.size
 omega
theorem otherFacts_any (w : World) : Calls Tryz.prog 68 #[] w (FmsP w 6 3) := by
 obtain ⟨rows, hrows⟩ : ∃ rows : List FR, rows = [⟨1, 7, [116, 101, 109, 112, 108, 97, 116, 101], clV 126, clV 128⟩, ⟨1, 8, [112, 97, 114, 116, 110, 101, 114], clV 130, clV 131⟩, ⟨1, 9, [108, 101, 97, 115, 101], clV 132, clV 133⟩] := ⟨_, rfl⟩
 have hfm : ∀ W j (hj : j < rows.length), FmAt (fun k => w.heap.size <= k) W (6 + j) rows[j] := by
  intro W j hj
  subst hrows
  have hj' : j < 3 := hj
  have : j = 0 \/ j = 1 \/ j = 2 := by omega
  rcases this with rfl | rfl | rfl
  ·exact ⟨rfl, rfl, rfl, by rw [if_neg (by decide)]; exact ⟨rfl, rfl⟩⟩
  ·exact ⟨rfl, rfl, rfl, by rw [if_neg (by decide)]; exact ⟨rfl, rfl⟩⟩
  ·exact ⟨rfl, rfl, rfl, by rw [if_neg (by decide)]; exact ⟨rfl, rfl⟩⟩
 have hl : rows.length = 3 := by rw [hrows]; rfl
 have hx := Mod.alloc (Mod.refl (fun _ => False) w) (.cells (rows.flatMap frC).toArray 95)
 have hk := heap_alloc_new w (.cells (rows.flatMap frC).toArray 95)
 replace hl := hid hl
 replace hfm := hid hfm
 have hx := hid hx
 have hk := hid hk
 replace hrows := hid hrows
 go_enter Tryz.func68, Tryz.ntmps68
 go_wp2_with fail
 go_ret
 refine ⟨w.heap.size, rows, Nat.le_refl _, hl.out, rfl, ?_, hfm.out _, ?_⟩
 ·have := hk.out
  rw [hrows.out] at this ⊢
  exact this
 ·have := hx.out
  rw [hrows.out] at this
  exact this
theorem plainForms_any (w : World) : Calls Tryz.prog 69 #[] w (FmsP w 9 6) := by
 obtain ⟨rows, hrows⟩ : ∃ rows : List FR, rows = [⟨2, 0, [116, 105, 99, 107], clV 134, clV 135⟩, ⟨3, 0, [99, 108, 111, 99, 107], clV 134, clV 135⟩, ⟨10, 0, [99, 117, 116], clV 134, clV 135⟩, ⟨4, 0, [102, 97, 116, 101, 115], clV 136, clV 138⟩, ⟨5, 0, [99, 114, 97, 115, 104], clV 140, clV 141⟩, ⟨9, 0, [99, 104, 101, 99, 107], clV 142, clV 143⟩] := ⟨_, rfl⟩
 have hfm : ∀ W j (hj : j < rows.length), FmAt (fun k => w.heap.size <= k) W (9 + j) rows[j] := by
  intro W j hj
  subst hrows
  have hj' : j < 6 := hj
  have : j = 0 \/ j = 1 \/ j = 2 \/ j = 3 \/ j = 4 \/ j = 5 := by omega
  rcases this with rfl | rfl | rfl | rfl | rfl | rfl
  ·exact ⟨rfl, rfl, rfl, by rw [if_neg (by decide)]; exact ⟨rfl, rfl⟩⟩
  ·exact ⟨rfl, rfl, rfl, by rw [if_neg (by decide)]; exact ⟨rfl, rfl⟩⟩
  ·exact ⟨rfl, rfl, rfl, by rw [if_neg (by decide)]; exact ⟨rfl, rfl⟩⟩
  ·exact ⟨rfl, rfl, rfl, by rw [if_neg (by decide)]; exact ⟨rfl, rfl⟩⟩
  ·exact ⟨rfl, rfl, rfl, by rw [if_neg (by decide)]; exact ⟨rfl, rfl⟩⟩
  ·exact ⟨rfl, rfl, rfl, by rw [if_neg (by decide)]; exact ⟨rfl, rfl⟩⟩
 have hl : rows.length = 6 := by rw [hrows]; rfl
 have hx := Mod.alloc (Mod.refl (fun _ => False) w) (.cells (rows.flatMap frC).toArray 95)
 have hk := heap_alloc_new w (.cells (rows.flatMap frC).toArray 95)
 replace hl := hid hl
 replace hfm := hid hfm
 have hx := hid hx
 have hk := hid hk
 replace hrows := hid hrows
 go_enter Tryz.func69, Tryz.ntmps69
 go_wp2_with fail
 go_ret
 refine ⟨w.heap.size, rows, Nat.le_refl _, hl.out, rfl, ?_, hfm.out _, ?_⟩
 ·have := hk.out
  rw [hrows.out] at this ⊢
  exact this
 ·have := hx.out
  rw [hrows.out] at this
  exact this
theorem readerForms_any (w : World) : Calls Tryz.prog 70 #[] w (FmsP w 15 3) := by
 obtain ⟨rows, hrows⟩ : ∃ rows : List FR, rows = [⟨6, 0, [103, 101, 116], clV 144, clV 145⟩, ⟨7, 0, [115, 101, 97, 114, 99, 104], clV 146, clV 147⟩, ⟨8, 0, [102, 111, 114, 103, 101], clV 148, clV 150⟩] := ⟨_, rfl⟩
 have hfm : ∀ W j (hj : j < rows.length), FmAt (fun k => w.heap.size <= k) W (15 + j) rows[j] := by
  intro W j hj
  subst hrows
  have hj' : j < 3 := hj
  have : j = 0 \/ j = 1 \/ j = 2 := by omega
  rcases this with rfl | rfl | rfl
  ·exact ⟨rfl, rfl, rfl, by rw [if_neg (by decide)]; exact ⟨rfl, rfl⟩⟩
  ·exact ⟨rfl, rfl, rfl, by rw [if_neg (by decide)]; exact ⟨rfl, rfl⟩⟩
  ·exact ⟨rfl, rfl, rfl, by rw [if_neg (by decide)]; exact ⟨rfl, rfl⟩⟩
 have hl : rows.length = 3 := by rw [hrows]; rfl
 have hx := Mod.alloc (Mod.refl (fun _ => False) w) (.cells (rows.flatMap frC).toArray 95)
 have hk := heap_alloc_new w (.cells (rows.flatMap frC).toArray 95)
 replace hl := hid hl
 replace hfm := hid hfm
 have hx := hid hx
 have hk := hid hk
 replace hrows := hid hrows
 go_enter Tryz.func70, Tryz.ntmps70
 go_wp2_with fail
 go_ret
 refine ⟨w.heap.size, rows, Nat.le_refl _, hl.out, rfl, ?_, hfm.out _, ?_⟩
 ·have := hk.out
  rw [hrows.out] at this ⊢
  exact this
 ·have := hx.out
  rw [hrows.out] at this
  exact this
theorem storyForms_any (w : World) : Calls Tryz.prog 67 #[] w (FmsP w 0 6) := by
 have hce := enters_of Tryz.func105 (by kernel_rfl) rfl
 go_enter Tryz.func67, Tryz.ntmps67
 go_wp2_with fail
 refine (story_any 1 [114, 101, 118, 105, 115, 101] 111 112 w).mono ?_; rintro e w1 ⟨rfl, p0, q0, x0, z0⟩
 obtain ⟨s0, hs0⟩ : ∃ s, s = w.heap.size := ⟨_, rfl⟩
 rw [<- hs0] at p0 q0 z0 ⊢
 have y0 := x0
 have b0 : w.heap.size <= s0 := by have := Nat.le_refl w.heap.size; omega
 replace hs0 := hid hs0
 replace z0 := hid z0
 replace x0 := hid x0
 replace p0 := hid p0
 replace q0 := hid q0
 go_wp2_with fail
 refine (story_any 2 [97, 112, 112, 114, 111, 118, 101] 113 114 w1).mono ?_; rintro e w2 ⟨rfl, p1, q1, x1, z1⟩
 obtain ⟨s1, hs1⟩ : ∃ s, s = w1.heap.size := ⟨_, rfl⟩
 rw [<- hs1] at p1 q1 z1 ⊢
 have y1 := y0.trans x1
 have b1 : w.heap.size <= s1 := by have := y0.size; omega
 replace p0 := x1.at p0 (fun h => h)
 replace q0 := x1.at q0 (fun h => h)
 replace hs1 := hid hs1
 replace z1 := hid z1
 replace x1 := hid x1
 replace p1 := hid p1
 replace q1 := hid q1
 go_wp2_with fail
 refine (story_any 3 [112, 117, 98, 108, 105, 115, 104] 115 117 w2).mono ?_; rintro e w3 ⟨rfl, p2, q2, x2, z2⟩
 obtain ⟨s2, hs2⟩ : ∃ s, s = w2.heap.size := ⟨_, rfl⟩
 rw [<- hs2] at p2 q2 z2 ⊢
 have y2 := y1.trans x2
 have b2 : w.heap.size <= s2 := by have := y1.size; omega
 replace p0 := x2.at p0 (fun h => h)
 replace q0 := x2.at q0 (fun h => h)
 replace p1 := x2.at p1 (fun h => h)
 replace q1 := x2.at q1 (fun h => h)
 replace hs2 := hid hs2
 replace z2 := hid z2
 replace x2 := hid x2
 replace p2 := hid p2
 replace q2 := hid q2
 go_wp2_with fail
 refine (story_any 4 [99, 111, 114, 114, 101, 99, 116] 119 120 w3).mono ?_; rintro e w4 ⟨rfl, p3, q3, x3, z3⟩
 obtain ⟨s3, hs3⟩ : ∃ s, s = w3.heap.size := ⟨_, rfl⟩
 rw [<- hs3] at p3 q3 z3 ⊢
 have y3 := y2.trans x3
 have b3 : w.heap.size <= s3 := by have := y2.size; omega
 replace p0 := x3.at p0 (fun h => h)
 replace q0 := x3.at q0 (fun h => h)
 replace p1 := x3.at p1 (fun h => h)
 replace q1 := x3.at q1 (fun h => h)
 replace p2 := x3.at p2 (fun h => h)
 replace q2 := x3.at q2 (fun h => h)
 replace hs3 := hid hs3
 replace z3 := hid z3
 replace x3 := hid x3
 replace p3 := hid p3
 replace q3 := hid q3
 go_wp2_with fail
 refine (story_any 5 [114, 101, 116, 114, 97, 99, 116] 122 123 w4).mono ?_; rintro e w5 ⟨rfl, p4, q4, x4, z4⟩
 obtain ⟨s4, hs4⟩ : ∃ s, s = w4.heap.size := ⟨_, rfl⟩
 rw [<- hs4] at p4 q4 z4 ⊢
 have y4 := y3.trans x4
 have b4 : w.heap.size <= s4 := by have := y3.size; omega
 replace p0 := x4.at p0 (fun h => h)
 replace q0 := x4.at q0 (fun h => h)
 replace p1 := x4.at p1 (fun h => h)
 replace q1 := x4.at q1 (fun h => h)
 replace p2 := x4.at p2 (fun h => h)
 replace q2 := x4.at q2 (fun h => h)
 replace p3 := x4.at p3 (fun h => h)
 replace q3 := x4.at q3 (fun h => h)
 replace hs4 := hid hs4
 replace z4 := hid z4
 replace x4 := hid x4
 replace p4 := hid p4
 replace q4 := hid q4
 go_wp2_with fail
 refine (story_any 6 [116, 97, 107, 101, 100, 111, 119, 110] 124 125 w5).mono ?_; rintro e w6 ⟨rfl, p5, q5, x5, z5⟩
 obtain ⟨s5, hs5⟩ : ∃ s, s = w5.heap.size := ⟨_, rfl⟩
 rw [<- hs5] at p5 q5 z5 ⊢
 have y5 := y4.trans x5
 have b5 : w.heap.size <= s5 := by have := y4.size; omega
 replace p0 := x5.at p0 (fun h => h)
 replace q0 := x5.at q0 (fun h => h)
 replace p1 := x5.at p1 (fun h => h)
 replace q1 := x5.at q1 (fun h => h)
 replace p2 := x5.at p2 (fun h => h)
 replace q2 := x5.at q2 (fun h => h)
 replace p3 := x5.at p3 (fun h => h)
 replace q3 := x5.at q3 (fun h => h)
 replace p4 := x5.at p4 (fun h => h)
 replace q4 := x5.at q4 (fun h => h)
 replace hs5 := hid hs5
 replace z5 := hid z5
 replace x5 := hid x5
 replace p5 := hid p5
 replace q5 := hid q5
 go_wp2_with fail
 go_ret
 have hxL := Mod.alloc (Mod.refl (fun _ => False) w6) (.cells (([⟨1, 1, [114, 101, 118, 105, 115, 101], .func (.func 106) #[] #[.pointer (some ⟨s0, 0, none⟩)], .func (.func 108) #[] #[.pointer (some ⟨s0 + 1, 0, none⟩)]⟩, ⟨1, 2, [97, 112, 112, 114, 111, 118, 101], .func (.func 106) #[] #[.pointer (some ⟨s1, 0, none⟩)], .func (.func 108) #[] #[.pointer (some ⟨s1 + 1, 0, none⟩)]⟩, ⟨1, 3, [112, 117, 98, 108, 105, 115, 104], .func (.func 106) #[] #[.pointer (some ⟨s2, 0, none⟩)], .func (.func 108) #[] #[.pointer (some ⟨s2 + 1, 0, none⟩)]⟩, ⟨1, 4, [99, 111, 114, 114, 101, 99, 116], .func (.func 106) #[] #[.pointer (some ⟨s3, 0, none⟩)], .func (.func 108) #[] #[.pointer (some ⟨s3 + 1, 0, none⟩)]⟩, ⟨1, 5, [114, 101, 116, 114, 97, 99, 116], .func (.func 106) #[] #[.pointer (some ⟨s4, 0, none⟩)], .func (.func 108) #[] #[.pointer (some ⟨s4 + 1, 0, none⟩)]⟩, ⟨1, 6, [116, 97, 107, 101, 100, 111, 119, 110], .func (.func 106) #[] #[.pointer (some ⟨s5, 0, none⟩)], .func (.func 108) #[] #[.pointer (some ⟨s5 + 1, 0, none⟩)]⟩] : List FR).flatMap frC).toArray 95)
 have hkL := heap_alloc_new w6 (.cells (([⟨1, 1, [114, 101, 118, 105, 115, 101], .func (.func 106) #[] #[.pointer (some ⟨s0, 0, none⟩)], .func (.func 108) #[] #[.pointer (some ⟨s0 + 1, 0, none⟩)]⟩, ⟨1, 2, [97, 112, 112, 114, 111, 118, 101], .func (.func 106) #[] #[.pointer (some ⟨s1, 0, none⟩)], .func (.func 108) #[] #[.pointer (some ⟨s1 + 1, 0, none⟩)]⟩, ⟨1, 3, [112, 117, 98, 108, 105, 115, 104], .func (.func 106) #[] #[.pointer (some ⟨s2, 0, none⟩)], .func (.func 108) #[] #[.pointer (some ⟨s2 + 1, 0, none⟩)]⟩, ⟨1, 4, [99, 111, 114, 114, 101, 99, 116], .func (.func 106) #[] #[.pointer (some ⟨s3, 0, none⟩)], .func (.func 108) #[] #[.pointer (some ⟨s3 + 1, 0, none⟩)]⟩, ⟨1, 5, [114, 101, 116, 114, 97, 99, 116], .func (.func 106) #[] #[.pointer (some ⟨s4, 0, none⟩)], .func (.func 108) #[] #[.pointer (some ⟨s4 + 1, 0, none⟩)]⟩, ⟨1, 6, [116, 97, 107, 101, 100, 111, 119, 110], .func (.func 106) #[] #[.pointer (some ⟨s5, 0, none⟩)], .func (.func 108) #[] #[.pointer (some ⟨s5 + 1, 0, none⟩)]⟩] : List FR).flatMap frC).toArray 95)
 refine ⟨w6.heap.size, [⟨1, 1, [114, 101, 118, 105, 115, 101], .func (.func 106) #[] #[.pointer (some ⟨s0, 0, none⟩)], .func (.func 108) #[] #[.pointer (some ⟨s0 + 1, 0, none⟩)]⟩, ⟨1, 2, [97, 112, 112, 114, 111, 118, 101], .func (.func 106) #[] #[.pointer (some ⟨s1, 0, none⟩)], .func (.func 108) #[] #[.pointer (some ⟨s1 + 1, 0, none⟩)]⟩, ⟨1, 3, [112, 117, 98, 108, 105, 115, 104], .func (.func 106) #[] #[.pointer (some ⟨s2, 0, none⟩)], .func (.func 108) #[] #[.pointer (some ⟨s2 + 1, 0, none⟩)]⟩, ⟨1, 4, [99, 111, 114, 114, 101, 99, 116], .func (.func 106) #[] #[.pointer (some ⟨s3, 0, none⟩)], .func (.func 108) #[] #[.pointer (some ⟨s3 + 1, 0, none⟩)]⟩, ⟨1, 5, [114, 101, 116, 114, 97, 99, 116], .func (.func 106) #[] #[.pointer (some ⟨s4, 0, none⟩)], .func (.func 108) #[] #[.pointer (some ⟨s4 + 1, 0, none⟩)]⟩, ⟨1, 6, [116, 97, 107, 101, 100, 111, 119, 110], .func (.func 106) #[] #[.pointer (some ⟨s5, 0, none⟩)], .func (.func 108) #[] #[.pointer (some ⟨s5 + 1, 0, none⟩)]⟩], y5.size, rfl, rfl, hkL, ?_, y5.trans hxL⟩
 intro j hj
 have hj' : j < 6 := hj
 have h6 : j = 0 \/ j = 1 \/ j = 2 \/ j = 3 \/ j = 4 \/ j = 5 := by omega
 rcases h6 with rfl | rfl | rfl | rfl | rfl | rfl
 ·exact ⟨rfl, rfl, rfl, by rw [if_pos (by decide)]; exact ⟨s0, b0, by omega, rfl, rfl, hxL.at p0 (fun h => h), hxL.at q0 (fun h => h)⟩⟩
 ·exact ⟨rfl, rfl, rfl, by rw [if_pos (by decide)]; exact ⟨s1, b1, by omega, rfl, rfl, hxL.at p1 (fun h => h), hxL.at q1 (fun h => h)⟩⟩
 ·exact ⟨rfl, rfl, rfl, by rw [if_pos (by decide)]; exact ⟨s2, b2, by omega, rfl, rfl, hxL.at p2 (fun h => h), hxL.at q2 (fun h => h)⟩⟩
 ·exact ⟨rfl, rfl, rfl, by rw [if_pos (by decide)]; exact ⟨s3, b3, by omega, rfl, rfl, hxL.at p3 (fun h => h), hxL.at q3 (fun h => h)⟩⟩
 ·exact ⟨rfl, rfl, rfl, by rw [if_pos (by decide)]; exact ⟨s4, b4, by omega, rfl, rfl, hxL.at p4 (fun h => h), hxL.at q4 (fun h => h)⟩⟩
 ·exact ⟨rfl, rfl, rfl, by rw [if_pos (by decide)]; exact ⟨s5, b5, by omega, rfl, rfl, hxL.at p5 (fun h => h), hxL.at q5 (fun h => h)⟩⟩
end Go.Proofs.YtpaefpnkemkikaaGreatDoor
