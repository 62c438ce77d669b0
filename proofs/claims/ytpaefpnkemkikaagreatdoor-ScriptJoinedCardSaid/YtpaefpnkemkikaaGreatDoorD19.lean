import Derived.Test.YtpaefpnkemkikaaGreatDoorD18
set_option maxRecDepth 100000
set_option maxHeartbeats 16000000
namespace Go.Proofs.YtpaefpnkemkikaaGreatDoor
open Go.Shelf Go.RowKit Cdk Scr
theorem rTemplate (R : Nat) (r0 : Rd) (w : World) (hG : Gl w) (hR : 10 <= R) (h : RdAt w R r0) (hl : r0.rest.length <= 1000000) :
  Calls Tryz.prog 128 #[.pointer (some ⟨R, 0, none⟩)] w (AcP w R (readF 6 r0)) := by
 have hRlt := h.lt
 obtain ⟨U, hU⟩ : ∃ U, U = w.heap.size := ⟨_, rfl⟩
 have hx0 := (Mod.refl (fun _ => False) w).alloc (.cells zA9 32)
 have hUc := heap_alloc_new w (.cells zA9 32)
 rw [<- hU] at hUc
 have hr0 := hid (h.ext hx0)
 have hG0 := hid (hG.ext hx0)
 have hm0 := hid (RdM.ofExt (R := R) hx0)
 have hU0 := hid hUc
 have hl0 := hid hl
 have hs0 : U < (w.alloc (.cells zA9 32)).heap.size := by rw [World.size_alloc, hU]; omega
 obtain ⟨M, hM⟩ : ∃ M, M = readF 6 r0 := ⟨_, rfl⟩
 rw [<- hM]
 unfold readF at hM
 simp only at hM
 replace hM := hid hM
 clear hUc hx0 h hl hG
 go_enter Tryz.func128, Tryz.ntmps128
 go_wp2_with fail
 rw [<- hU]
 have hwU : w.heap.size <= U := Nat.le_of_eq hU.symm
 have hRU : R < U := by omega
 generalize (w.alloc (.cells zA9 32)) = W0 at hr0 hG0 hm0 hU0 hs0 ⊢
 replace hU := hid hU
 have k0 := hid (word_any R r0 W0 hG0.out hr0.out hl0.out)
 refine k0.out.mono ?_; rintro e W1 ⟨rfl, hrn, hn⟩
 have hln := (fun r => (rWord_le r).2) r0
 generalize hq0 : rWord r0 = q0 at hrn hln  ⊢
 obtain ⟨x0, r1⟩ := q0
 simp only at hrn hln  ⊢
 have hr1 := hid hrn
 have hl1 : Hid (r1.rest.length <= 1000000) := hid (Nat.le_trans hln hl0.out)
 have hG1 := hid (hG0.out.rd hR hn)
 have hm1 := hid (hm0.out.trans hn)
 have hU1 := hid (hn.at hU0.out (by omega))
 have hs1 : U < W1.heap.size := by have := hn.size; omega
 replace hq0 := hid hq0
 clear hrn hln hn k0 hr0 hl0 hm0 hU0 hG0
 go_wp2_with fail
 have k1 := hid (hex_any R r1 W1 hG1.out hR hr1.out hl1.out)
 refine k1.out.mono ?_; rintro e W2 ⟨rfl, hrn, hn⟩
 have hln := rHex_le r1
 generalize hq1 : rHex r1 = q1 at hrn hln  ⊢
 obtain ⟨x1, r2⟩ := q1
 simp only at hrn hln  ⊢
 have hr2 := hid hrn
 have hl2 : Hid (r2.rest.length <= 1000000) := hid (Nat.le_trans hln hl1.out)
 have hG2 := hid (hG1.out.rd hR hn)
 have hm2 := hid (hm1.out.trans hn)
 have hU2 := hid (hn.at hU1.out (by omega))
 have hs2 : U < W2.heap.size := by have := hn.size; omega
 replace hq1 := hid hq1
 clear hrn hln hn k1 hr1 hl1 hm1 hU1 hG1
 go_wp2_with fail
 have hab := hid (show Calls Tryz.prog 110 #[.agg #[.int .i64 0, .int .i64 0, .int .i64 0, .int .i64 0, .string ⟨#[]⟩, .int .i64 0, .int .i64 0, .string ⟨#[]⟩, .string ⟨#[]⟩, .slice none 0 0, .slice none 0 0, .int .i64 0, .slice none 0 0, .int .i64 0, .int .i64 0, .int .i64 0, .int .i64 0, .int .i64 0, .string ⟨x1.toArray⟩, .string ⟨x0.toArray⟩, .int .i64 0, .int .i64 0, .int .i64 0]] W2 _ from about_any none 0 0 none 0 0 none 0 0 { Fc.zero with nm := x0, tx := x1 } W2)
 refine hab.out.mono ?_; rintro e WA ⟨rfl, hxa⟩
 replace hr2 := hid (hr2.out.ext hxa)
 replace hm2 := hid (hm2.out.then hxa (fun k _ h => h.elim))
 replace hU2 := hid (hxa.at hU2.out (fun h => h))
 replace hs2 : U < WA.heap.size := by have := hxa.size; omega
 obtain ⟨VB, hVB⟩ : ∃ VB, VB = acA none 0 0 none 0 0 none 0 0 none 0 0 none 0 0 (aboutF { Fc.zero with nm := x0, tx := x1 }) := ⟨_, rfl⟩
 rw [<- hVB]
 clear hab hxa
 have hVs : Hid (VB.size = 36) := hid (by rw [hVB]; rfl)
 have hV1 : Hid (VB.toList.all (·.oneCell') = true) := hid (by rw [hVB]; rfl)
 replace hVB := hid hVB
 go_wp2_with (refine wpList_storeW rfl 32 _ _ rfl U _ VB 32 rfl (by first | rfl | (rw [hVB.out]; rfl)) hU2.out (by rw [hVs.out]; rfl) (by rw [hVs.out]; kernel_rfl) hV1.out (fun WS HS => ?_))
 refine bodyPost_ret (results_cell_row rfl _ _ U _ _ _ _ rfl HS.out.1 Tryz.underlying32 rfl (by rw [hVs.out]; kernel_rfl)) rfl ?_
 have hMe : M = (aboutF { Fc.zero with nm := x0, tx := x1 }, r2) := by
  rw [hM.out]
  simp only [show rWord r0 = (x0, r1) from hq0.out, show rHex r1 = (x1, r2) from hq1.out]
 rw [hMe]
 have hsS := HS.out.2.size
 exact ⟨none, 0, 0, none, 0, 0, none, 0, 0, none, 0, 0, none, 0, 0, by rw [hVB.out], ⟨⟨RowAt.nil _ _ _, BksAt.nil _ _, RowAt.nil _ _ _⟩, RowAt.nil _ _ _, RowAt.nil _ _ _⟩, HS.out.2.at hr2.out (by omega), hm2.out.then HS.out.2 (fun k hk e => by omega)⟩
theorem rPartner (R : Nat) (r0 : Rd) (w : World) (hG : Gl w) (hR : 10 <= R) (h : RdAt w R r0) (hl : r0.rest.length <= 1000000) :
  Calls Tryz.prog 131 #[.pointer (some ⟨R, 0, none⟩)] w (AcP w R (readF 7 r0)) := by
 have hRlt := h.lt
 obtain ⟨U, hU⟩ : ∃ U, U = w.heap.size := ⟨_, rfl⟩
 have hx0 := (Mod.refl (fun _ => False) w).alloc (.cells zA9 32)
 have hUc := heap_alloc_new w (.cells zA9 32)
 rw [<- hU] at hUc
 have hr0 := hid (h.ext hx0)
 have hG0 := hid (hG.ext hx0)
 have hm0 := hid (RdM.ofExt (R := R) hx0)
 have hU0 := hid hUc
 have hl0 := hid hl
 have hs0 : U < (w.alloc (.cells zA9 32)).heap.size := by rw [World.size_alloc, hU]; omega
 obtain ⟨M, hM⟩ : ∃ M, M = readF 7 r0 := ⟨_, rfl⟩
 rw [<- hM]
 unfold readF at hM
 simp only at hM
 replace hM := hid hM
 clear hUc hx0 h hl hG
 go_enter Tryz.func131, Tryz.ntmps131
 go_wp2_with fail
 rw [<- hU]
 have hwU : w.heap.size <= U := Nat.le_of_eq hU.symm
 have hRU : R < U := by omega
 generalize (w.alloc (.cells zA9 32)) = W0 at hr0 hG0 hm0 hU0 hs0 ⊢
 replace hU := hid hU
 have k0 := hid (number_any R r0 W0 hG0.out hR hr0.out hl0.out)
 refine k0.out.mono ?_; rintro e W1 ⟨rfl, hrn, hn⟩
 have hln := rNum_le r0
 generalize hq0 : rNum r0 = q0 at hrn hln  ⊢
 obtain ⟨x0, r1⟩ := q0
 simp only at hrn hln  ⊢
 have hr1 := hid hrn
 have hl1 : Hid (r1.rest.length <= 1000000) := hid (Nat.le_trans hln hl0.out)
 have hG1 := hid (hG0.out.rd hR hn)
 have hm1 := hid (hm0.out.trans hn)
 have hU1 := hid (hn.at hU0.out (by omega))
 have hs1 : U < W1.heap.size := by have := hn.size; omega
 replace hq0 := hid hq0
 clear hrn hln hn k0 hr0 hl0 hm0 hU0 hG0
 go_wp2_with fail
 have k1 := hid (number_any R r1 W1 hG1.out hR hr1.out hl1.out)
 refine k1.out.mono ?_; rintro e W2 ⟨rfl, hrn, hn⟩
 have hln := rNum_le r1
 generalize hq1 : rNum r1 = q1 at hrn hln  ⊢
 obtain ⟨x1, r2⟩ := q1
 simp only at hrn hln  ⊢
 have hr2 := hid hrn
 have hl2 : Hid (r2.rest.length <= 1000000) := hid (Nat.le_trans hln hl1.out)
 have hG2 := hid (hG1.out.rd hR hn)
 have hm2 := hid (hm1.out.trans hn)
 have hU2 := hid (hn.at hU1.out (by omega))
 have hs2 : U < W2.heap.size := by have := hn.size; omega
 replace hq1 := hid hq1
 clear hrn hln hn k1 hr1 hl1 hm1 hU1 hG1
 go_wp2_with fail
 have k2 := hid (number_any R r2 W2 hG2.out hR hr2.out hl2.out)
 refine k2.out.mono ?_; rintro e W3 ⟨rfl, hrn, hn⟩
 have hln := rNum_le r2
 generalize hq2 : rNum r2 = q2 at hrn hln  ⊢
 obtain ⟨x2, r3⟩ := q2
 simp only at hrn hln  ⊢
 have hr3 := hid hrn
 have hl3 : Hid (r3.rest.length <= 1000000) := hid (Nat.le_trans hln hl2.out)
 have hG3 := hid (hG2.out.rd hR hn)
 have hm3 := hid (hm2.out.trans hn)
 have hU3 := hid (hn.at hU2.out (by omega))
 have hs3 : U < W3.heap.size := by have := hn.size; omega
 replace hq2 := hid hq2
 clear hrn hln hn k2 hr2 hl2 hm2 hU2 hG2
 go_wp2_with fail
 have hab := hid (show Calls Tryz.prog 110 #[.agg #[.int .i64 0, .int .i64 0, .int .i64 0, .int .i64 0, .string ⟨#[]⟩, .int .i64 0, .int .i64 0, .string ⟨#[]⟩, .string ⟨#[]⟩, .slice none 0 0, .slice none 0 0, .int .i64 0, .slice none 0 0, .int .i64 0, .int .i64 0, .int .i64 0, .int .i64 0, .int .i64 0, .string ⟨#[]⟩, .string ⟨#[]⟩, .int .i64 x0, .int .i64 x1, .int .i64 x2]] W3 _ from about_any none 0 0 none 0 0 none 0 0 { Fc.zero with pa := x0, cl := x1, un := x2 } W3)
 refine hab.out.mono ?_; rintro e WA ⟨rfl, hxa⟩
 replace hr3 := hid (hr3.out.ext hxa)
 replace hm3 := hid (hm3.out.then hxa (fun k _ h => h.elim))
 replace hU3 := hid (hxa.at hU3.out (fun h => h))
 replace hs3 : U < WA.heap.size := by have := hxa.size; omega
 obtain ⟨VB, hVB⟩ : ∃ VB, VB = acA none 0 0 none 0 0 none 0 0 none 0 0 none 0 0 (aboutF { Fc.zero with pa := x0, cl := x1, un := x2 }) := ⟨_, rfl⟩
 rw [<- hVB]
 clear hab hxa
 have hVs : Hid (VB.size = 36) := hid (by rw [hVB]; rfl)
 have hV1 : Hid (VB.toList.all (·.oneCell') = true) := hid (by rw [hVB]; rfl)
 replace hVB := hid hVB
 go_wp2_with (refine wpList_storeW rfl 32 _ _ rfl U _ VB 32 rfl (by first | rfl | (rw [hVB.out]; rfl)) hU3.out (by rw [hVs.out]; rfl) (by rw [hVs.out]; kernel_rfl) hV1.out (fun WS HS => ?_))
 refine bodyPost_ret (results_cell_row rfl _ _ U _ _ _ _ rfl HS.out.1 Tryz.underlying32 rfl (by rw [hVs.out]; kernel_rfl)) rfl ?_
 have hMe : M = (aboutF { Fc.zero with pa := x0, cl := x1, un := x2 }, r3) := by
  rw [hM.out]
  simp only [show rNum r0 = (x0, r1) from hq0.out, show rNum r1 = (x1, r2) from hq1.out, show rNum r2 = (x2, r3) from hq2.out]
 rw [hMe]
 have hsS := HS.out.2.size
 exact ⟨none, 0, 0, none, 0, 0, none, 0, 0, none, 0, 0, none, 0, 0, by rw [hVB.out], ⟨⟨RowAt.nil _ _ _, BksAt.nil _ _, RowAt.nil _ _ _⟩, RowAt.nil _ _ _, RowAt.nil _ _ _⟩, HS.out.2.at hr3.out (by omega), hm3.out.then HS.out.2 (fun k hk e => by omega)⟩
theorem rLease (R : Nat) (r0 : Rd) (w : World) (hG : Gl w) (hR : 10 <= R) (h : RdAt w R r0) (hl : r0.rest.length <= 1000000) :
  Calls Tryz.prog 133 #[.pointer (some ⟨R, 0, none⟩)] w (AcP w R (readF 8 r0)) := by
 have hRlt := h.lt
 obtain ⟨U, hU⟩ : ∃ U, U = w.heap.size := ⟨_, rfl⟩
 have hx0 := (Mod.refl (fun _ => False) w).alloc (.cells zA9 32)
 have hUc := heap_alloc_new w (.cells zA9 32)
 rw [<- hU] at hUc
 have hr0 := hid (h.ext hx0)
 have hG0 := hid (hG.ext hx0)
 have hm0 := hid (RdM.ofExt (R := R) hx0)
 have hU0 := hid hUc
 have hl0 := hid hl
 have hs0 : U < (w.alloc (.cells zA9 32)).heap.size := by rw [World.size_alloc, hU]; omega
 obtain ⟨M, hM⟩ : ∃ M, M = readF 8 r0 := ⟨_, rfl⟩
 rw [<- hM]
 unfold readF at hM
 simp only at hM
 replace hM := hid hM
 clear hUc hx0 h hl hG
 go_enter Tryz.func133, Tryz.ntmps133
 go_wp2_with fail
 rw [<- hU]
 have hwU : w.heap.size <= U := Nat.le_of_eq hU.symm
 have hRU : R < U := by omega
 generalize (w.alloc (.cells zA9 32)) = W0 at hr0 hG0 hm0 hU0 hs0 ⊢
 replace hU := hid hU
 have k0 := hid (number_any R r0 W0 hG0.out hR hr0.out hl0.out)
 refine k0.out.mono ?_; rintro e W1 ⟨rfl, hrn, hn⟩
 have hln := rNum_le r0
 generalize hq0 : rNum r0 = q0 at hrn hln  ⊢
 obtain ⟨x0, r1⟩ := q0
 simp only at hrn hln  ⊢
 have hr1 := hid hrn
 have hl1 : Hid (r1.rest.length <= 1000000) := hid (Nat.le_trans hln hl0.out)
 have hG1 := hid (hG0.out.rd hR hn)
 have hm1 := hid (hm0.out.trans hn)
 have hU1 := hid (hn.at hU0.out (by omega))
 have hs1 : U < W1.heap.size := by have := hn.size; omega
 replace hq0 := hid hq0
 clear hrn hln hn k0 hr0 hl0 hm0 hU0 hG0
 go_wp2_with fail
 have k1 := hid (number_any R r1 W1 hG1.out hR hr1.out hl1.out)
 refine k1.out.mono ?_; rintro e W2 ⟨rfl, hrn, hn⟩
 have hln := rNum_le r1
 generalize hq1 : rNum r1 = q1 at hrn hln  ⊢
 obtain ⟨x1, r2⟩ := q1
 simp only at hrn hln  ⊢
 have hr2 := hid hrn
 have hl2 : Hid (r2.rest.length <= 1000000) := hid (Nat.le_trans hln hl1.out)
 have hG2 := hid (hG1.out.rd hR hn)
 have hm2 := hid (hm1.out.trans hn)
 have hU2 := hid (hn.at hU1.out (by omega))
 have hs2 : U < W2.heap.size := by have := hn.size; omega
 replace hq1 := hid hq1
 clear hrn hln hn k1 hr1 hl1 hm1 hU1 hG1
 go_wp2_with fail
 have hab := hid (show Calls Tryz.prog 110 #[.agg #[.int .i64 0, .int .i64 0, .int .i64 0, .int .i64 0, .string ⟨#[]⟩, .int .i64 0, .int .i64 0, .string ⟨#[]⟩, .string ⟨#[]⟩, .slice none 0 0, .slice none 0 0, .int .i64 0, .slice none 0 0, .int .i64 0, .int .i64 0, .int .i64 0, .int .i64 0, .int .i64 0, .string ⟨#[]⟩, .string ⟨#[]⟩, .int .i64 x0, .int .i64 0, .int .i64 x1]] W2 _ from about_any none 0 0 none 0 0 none 0 0 { Fc.zero with pa := x0, un := x1 } W2)
 refine hab.out.mono ?_; rintro e WA ⟨rfl, hxa⟩
 replace hr2 := hid (hr2.out.ext hxa)
 replace hm2 := hid (hm2.out.then hxa (fun k _ h => h.elim))
 replace hU2 := hid (hxa.at hU2.out (fun h => h))
 replace hs2 : U < WA.heap.size := by have := hxa.size; omega
 obtain ⟨VB, hVB⟩ : ∃ VB, VB = acA none 0 0 none 0 0 none 0 0 none 0 0 none 0 0 (aboutF { Fc.zero with pa := x0, un := x1 }) := ⟨_, rfl⟩
 rw [<- hVB]
 clear hab hxa
 have hVs : Hid (VB.size = 36) := hid (by rw [hVB]; rfl)
 have hV1 : Hid (VB.toList.all (·.oneCell') = true) := hid (by rw [hVB]; rfl)
 replace hVB := hid hVB
 go_wp2_with (refine wpList_storeW rfl 32 _ _ rfl U _ VB 32 rfl (by first | rfl | (rw [hVB.out]; rfl)) hU2.out (by rw [hVs.out]; rfl) (by rw [hVs.out]; kernel_rfl) hV1.out (fun WS HS => ?_))
 refine bodyPost_ret (results_cell_row rfl _ _ U _ _ _ _ rfl HS.out.1 Tryz.underlying32 rfl (by rw [hVs.out]; kernel_rfl)) rfl ?_
 have hMe : M = (aboutF { Fc.zero with pa := x0, un := x1 }, r2) := by
  rw [hM.out]
  simp only [show rNum r0 = (x0, r1) from hq0.out, show rNum r1 = (x1, r2) from hq1.out]
 rw [hMe]
 have hsS := HS.out.2.size
 exact ⟨none, 0, 0, none, 0, 0, none, 0, 0, none, 0, 0, none, 0, 0, by rw [hVB.out], ⟨⟨RowAt.nil _ _ _, BksAt.nil _ _, RowAt.nil _ _ _⟩, RowAt.nil _ _ _, RowAt.nil _ _ _⟩, HS.out.2.at hr2.out (by omega), hm2.out.then HS.out.2 (fun k hk e => by omega)⟩
theorem rNumber9 (R : Nat) (r0 : Rd) (w : World) (hG : Gl w) (hR : 10 <= R) (h : RdAt w R r0) (hl : r0.rest.length <= 1000000) :
  Calls Tryz.prog 135 #[.pointer (some ⟨R, 0, none⟩)] w (AcP w R (readF 9 r0)) := by
 have hRlt := h.lt
 obtain ⟨U, hU⟩ : ∃ U, U = w.heap.size := ⟨_, rfl⟩
 have hx0 := (Mod.refl (fun _ => False) w).alloc (.cells zA9 32)
 have hUc := heap_alloc_new w (.cells zA9 32)
 rw [<- hU] at hUc
 have hr0 := hid (h.ext hx0)
 have hG0 := hid (hG.ext hx0)
 have hm0 := hid (RdM.ofExt (R := R) hx0)
 have hU0 := hid hUc
 have hl0 := hid hl
 have hs0 : U < (w.alloc (.cells zA9 32)).heap.size := by rw [World.size_alloc, hU]; omega
 obtain ⟨M, hM⟩ : ∃ M, M = readF 9 r0 := ⟨_, rfl⟩
 rw [<- hM]
 unfold readF at hM
 simp only at hM
 replace hM := hid hM
 clear hUc hx0 h hl hG
 go_enter Tryz.func135, Tryz.ntmps135
 go_wp2_with fail
 rw [<- hU]
 have hwU : w.heap.size <= U := Nat.le_of_eq hU.symm
 have hRU : R < U := by omega
 generalize (w.alloc (.cells zA9 32)) = W0 at hr0 hG0 hm0 hU0 hs0 ⊢
 replace hU := hid hU
 have k0 := hid (number_any R r0 W0 hG0.out hR hr0.out hl0.out)
 refine k0.out.mono ?_; rintro e W1 ⟨rfl, hrn, hn⟩
 have hln := rNum_le r0
 generalize hq0 : rNum r0 = q0 at hrn hln  ⊢
 obtain ⟨x0, r1⟩ := q0
 simp only at hrn hln  ⊢
 have hr1 := hid hrn
 have hl1 : Hid (r1.rest.length <= 1000000) := hid (Nat.le_trans hln hl0.out)
 have hG1 := hid (hG0.out.rd hR hn)
 have hm1 := hid (hm0.out.trans hn)
 have hU1 := hid (hn.at hU0.out (by omega))
 have hs1 : U < W1.heap.size := by have := hn.size; omega
 replace hq0 := hid hq0
 clear hrn hln hn k0 hr0 hl0 hm0 hU0 hG0
 obtain ⟨VB, hVB⟩ : ∃ VB, VB = acA none 0 0 none 0 0 none 0 0 none 0 0 none 0 0 { Ac.zero with n := x0 } := ⟨_, rfl⟩
 have hVs : Hid (VB.size = 36) := hid (by rw [hVB]; rfl)
 have hV1 : Hid (VB.toList.all (·.oneCell') = true) := hid (by rw [hVB]; rfl)
 replace hVB := hid hVB
 go_wp2_with (refine wpList_storeW rfl 32 _ _ rfl U _ VB 32 rfl (by first | rfl | (rw [hVB.out]; rfl)) hU1.out (by rw [hVs.out]; rfl) (by rw [hVs.out]; kernel_rfl) hV1.out (fun WS HS => ?_))
 refine bodyPost_ret (results_cell_row rfl _ _ U _ _ _ _ rfl HS.out.1 Tryz.underlying32 rfl (by rw [hVs.out]; kernel_rfl)) rfl ?_
 have hMe : M = ({ Ac.zero with n := x0 }, r1) := by
  rw [hM.out]
  simp only [show rNum r0 = (x0, r1) from hq0.out]
 rw [hMe]
 have hsS := HS.out.2.size
 exact ⟨none, 0, 0, none, 0, 0, none, 0, 0, none, 0, 0, none, 0, 0, by rw [hVB.out], ⟨⟨RowAt.nil _ _ _, BksAt.nil _ _, RowAt.nil _ _ _⟩, RowAt.nil _ _ _, RowAt.nil _ _ _⟩, HS.out.2.at hr1.out (by omega), hm1.out.then HS.out.2 (fun k hk e => by omega)⟩
theorem rFates (R : Nat) (r0 : Rd) (w : World) (hG : Gl w) (hR : 10 <= R) (h : RdAt w R r0) (hl : r0.rest.length <= 1000000) :
  Calls Tryz.prog 138 #[.pointer (some ⟨R, 0, none⟩)] w (AcP w R (readF 12 r0)) := by
 have hRlt := h.lt
 obtain ⟨U, hU⟩ : ∃ U, U = w.heap.size := ⟨_, rfl⟩
 have hx0 := (Mod.refl (fun _ => False) w).alloc (.cells zA9 32)
 have hUc := heap_alloc_new w (.cells zA9 32)
 rw [<- hU] at hUc
 have hr0 := hid (h.ext hx0)
 have hG0 := hid (hG.ext hx0)
 have hm0 := hid (RdM.ofExt (R := R) hx0)
 have hU0 := hid hUc
 have hl0 := hid hl
 have hs0 : U < (w.alloc (.cells zA9 32)).heap.size := by rw [World.size_alloc, hU]; omega
 obtain ⟨M, hM⟩ : ∃ M, M = readF 12 r0 := ⟨_, rfl⟩
 rw [<- hM]
 unfold readF at hM
 simp only at hM
 replace hM := hid hM
 clear hUc hx0 h hl hG
 go_enter Tryz.func138, Tryz.ntmps138
 go_wp2_with fail
 rw [<- hU]
 have hwU : w.heap.size <= U := Nat.le_of_eq hU.symm
 have hRU : R < U := by omega
 generalize (w.alloc (.cells zA9 32)) = W0 at hr0 hG0 hm0 hU0 hs0 ⊢
 replace hU := hid hU
 have k0 := hid (numbers_any R r0 W0 hG0.out hR hr0.out hl0.out)
 refine k0.out.mono ?_; rintro e W1 ⟨al, cl, rfl, hil, hrn, hn⟩
 have hln := rNums_le r0
 generalize hq0 : rNums r0 = q0 at hrn hln hil ⊢
 obtain ⟨x0, r1⟩ := q0
 simp only at hrn hln hil ⊢
 have hr1 := hid hrn
 have hl1 : Hid (r1.rest.length <= 1000000) := hid (Nat.le_trans hln hl0.out)
 have hG1 := hid (hG0.out.rd hR hn)
 have hm1 := hid (hm0.out.trans hn)
 have hU1 := hid (hn.at hU0.out (by omega))
 have hs1 : U < W1.heap.size := by have := hn.size; omega
 have hOl := hid (RowAt.mono (F' := fun k => U < k /\ k < W1.heap.size) hil (fun k hk => ⟨by have := hk.1; omega, hk.2⟩))
 clear hil
 replace hq0 := hid hq0
 clear hrn hln hn k0 hr0 hl0 hm0 hU0 hG0
 obtain ⟨VB, hVB⟩ : ∃ VB, VB = acA none 0 0 none 0 0 none 0 0 al x0.length cl none 0 0 { Ac.zero with fa := x0 } := ⟨_, rfl⟩
 have hVs : Hid (VB.size = 36) := hid (by rw [hVB]; rfl)
 have hV1 : Hid (VB.toList.all (·.oneCell') = true) := hid (by rw [hVB]; rfl)
 replace hVB := hid hVB
 go_wp2_with (refine wpList_storeW rfl 32 _ _ rfl U _ VB 32 rfl (by first | rfl | (rw [hVB.out]; rfl)) hU1.out (by rw [hVs.out]; rfl) (by rw [hVs.out]; kernel_rfl) hV1.out (fun WS HS => ?_))
 refine bodyPost_ret (results_cell_row rfl _ _ U _ _ _ _ rfl HS.out.1 Tryz.underlying32 rfl (by rw [hVs.out]; kernel_rfl)) rfl ?_
 have hMe : M = ({ Ac.zero with fa := x0 }, r1) := by
  rw [hM.out]
  simp only [show rNums r0 = (x0, r1) from hq0.out]
 rw [hMe]
 have hsS := HS.out.2.size
 exact ⟨none, 0, 0, none, 0, 0, none, 0, 0, al, x0.length, cl, none, 0, 0, by rw [hVB.out], ⟨⟨RowAt.nil _ _ _, BksAt.nil _ _, RowAt.nil _ _ _⟩, RowAt.mono (hOl.out.mod HS.out.2 (fun k hk e => by omega)) (fun k hk => ⟨by have := hk.1; omega, by have := hk.2; omega⟩), RowAt.nil _ _ _⟩, HS.out.2.at hr1.out (by omega), hm1.out.then HS.out.2 (fun k hk e => by omega)⟩
theorem rCrash (R : Nat) (r0 : Rd) (w : World) (hG : Gl w) (hR : 10 <= R) (h : RdAt w R r0) (hl : r0.rest.length <= 1000000) :
  Calls Tryz.prog 141 #[.pointer (some ⟨R, 0, none⟩)] w (AcP w R (readF 13 r0)) := by
 have hRlt := h.lt
 obtain ⟨U, hU⟩ : ∃ U, U = w.heap.size := ⟨_, rfl⟩
 have hx0 := (Mod.refl (fun _ => False) w).alloc (.cells zA9 32)
 have hUc := heap_alloc_new w (.cells zA9 32)
 rw [<- hU] at hUc
 have hr0 := hid (h.ext hx0)
 have hG0 := hid (hG.ext hx0)
 have hm0 := hid (RdM.ofExt (R := R) hx0)
 have hU0 := hid hUc
 have hl0 := hid hl
 have hs0 : U < (w.alloc (.cells zA9 32)).heap.size := by rw [World.size_alloc, hU]; omega
 obtain ⟨M, hM⟩ : ∃ M, M = readF 13 r0 := ⟨_, rfl⟩
 rw [<- hM]
 unfold readF at hM
 simp only at hM
 replace hM := hid hM
 clear hUc hx0 h hl hG
 go_enter Tryz.func141, Tryz.ntmps141
 go_wp2_with fail
 rw [<- hU]
 have hwU : w.heap.size <= U := Nat.le_of_eq hU.symm
 have hRU : R < U := by omega
 generalize (w.alloc (.cells zA9 32)) = W0 at hr0 hG0 hm0 hU0 hs0 ⊢
 replace hU := hid hU
 have k0 := hid (number_any R r0 W0 hG0.out hR hr0.out hl0.out)
 refine k0.out.mono ?_; rintro e W1 ⟨rfl, hrn, hn⟩
 have hln := rNum_le r0
 generalize hq0 : rNum r0 = q0 at hrn hln  ⊢
 obtain ⟨x0, r1⟩ := q0
 simp only at hrn hln  ⊢
 have hr1 := hid hrn
 have hl1 : Hid (r1.rest.length <= 1000000) := hid (Nat.le_trans hln hl0.out)
 have hG1 := hid (hG0.out.rd hR hn)
 have hm1 := hid (hm0.out.trans hn)
 have hU1 := hid (hn.at hU0.out (by omega))
 have hs1 : U < W1.heap.size := by have := hn.size; omega
 replace hq0 := hid hq0
 clear hrn hln hn k0 hr0 hl0 hm0 hU0 hG0
 go_wp2_with fail
 have k1 := hid (numbers_any R r1 W1 hG1.out hR hr1.out hl1.out)
 refine k1.out.mono ?_; rintro e W2 ⟨al, cl, rfl, hil, hrn, hn⟩
 have hln := rNums_le r1
 generalize hq1 : rNums r1 = q1 at hrn hln hil ⊢
 obtain ⟨x1, r2⟩ := q1
 simp only at hrn hln hil ⊢
 have hr2 := hid hrn
 have hl2 : Hid (r2.rest.length <= 1000000) := hid (Nat.le_trans hln hl1.out)
 have hG2 := hid (hG1.out.rd hR hn)
 have hm2 := hid (hm1.out.trans hn)
 have hU2 := hid (hn.at hU1.out (by omega))
 have hs2 : U < W2.heap.size := by have := hn.size; omega
 have hOl := hid (RowAt.mono (F' := fun k => U < k /\ k < W2.heap.size) hil (fun k hk => ⟨by have := hk.1; omega, hk.2⟩))
 clear hil
 replace hq1 := hid hq1
 clear hrn hln hn k1 hr1 hl1 hm1 hU1 hG1
 obtain ⟨VB, hVB⟩ : ∃ VB, VB = acA none 0 0 none 0 0 none 0 0 none 0 0 al x1.length cl { Ac.zero with n := x0, ke := x1 } := ⟨_, rfl⟩
 have hVs : Hid (VB.size = 36) := hid (by rw [hVB]; rfl)
 have hV1 : Hid (VB.toList.all (·.oneCell') = true) := hid (by rw [hVB]; rfl)
 replace hVB := hid hVB
 go_wp2_with (refine wpList_storeW rfl 32 _ _ rfl U _ VB 32 rfl (by first | rfl | (rw [hVB.out]; rfl)) hU2.out (by rw [hVs.out]; rfl) (by rw [hVs.out]; kernel_rfl) hV1.out (fun WS HS => ?_))
 refine bodyPost_ret (results_cell_row rfl _ _ U _ _ _ _ rfl HS.out.1 Tryz.underlying32 rfl (by rw [hVs.out]; kernel_rfl)) rfl ?_
 have hMe : M = ({ Ac.zero with n := x0, ke := x1 }, r2) := by
  rw [hM.out]
  simp only [show rNum r0 = (x0, r1) from hq0.out, show rNums r1 = (x1, r2) from hq1.out]
 rw [hMe]
 have hsS := HS.out.2.size
 exact ⟨none, 0, 0, none, 0, 0, none, 0, 0, none, 0, 0, al, x1.length, cl, by rw [hVB.out], ⟨⟨RowAt.nil _ _ _, BksAt.nil _ _, RowAt.nil _ _ _⟩, RowAt.nil _ _ _, RowAt.mono (hOl.out.mod HS.out.2 (fun k hk e => by omega)) (fun k hk => ⟨by have := hk.1; omega, by have := hk.2; omega⟩)⟩, HS.out.2.at hr2.out (by omega), hm2.out.then HS.out.2 (fun k hk e => by omega)⟩
theorem rCheck (R : Nat) (r0 : Rd) (w : World) (hG : Gl w) (_hR : 10 <= R) (h : RdAt w R r0) (hl : r0.rest.length <= 1000000) :
  Calls Tryz.prog 143 #[.pointer (some ⟨R, 0, none⟩)] w (AcP w R (readF 14 r0)) := by
 have hRlt := h.lt
 obtain ⟨U, hU⟩ : ∃ U, U = w.heap.size := ⟨_, rfl⟩
 have hx0 := (Mod.refl (fun _ => False) w).alloc (.cells zA9 32)
 have hUc := heap_alloc_new w (.cells zA9 32)
 rw [<- hU] at hUc
 have hr0 := hid (h.ext hx0)
 have hG0 := hid (hG.ext hx0)
 have hm0 := hid (RdM.ofExt (R := R) hx0)
 have hU0 := hid hUc
 have hl0 := hid hl
 have hs0 : U < (w.alloc (.cells zA9 32)).heap.size := by rw [World.size_alloc, hU]; omega
 obtain ⟨M, hM⟩ : ∃ M, M = readF 14 r0 := ⟨_, rfl⟩
 rw [<- hM]
 unfold readF at hM
 simp only at hM
 replace hM := hid hM
 clear hUc hx0 h hl hG
 go_enter Tryz.func143, Tryz.ntmps143
 go_upto_region 1 with fail
 rw [<- hU]
 have hwU : w.heap.size <= U := Nat.le_of_eq hU.symm
 have hRU : R < U := by omega
 generalize (w.alloc (.cells zA9 32)) = W0 at hr0 hG0 hm0 hU0 hs0 ⊢
 replace hU := hid hU
 obtain ⟨VB, hVB⟩ : ∃ VB, VB = acA none 0 0 none 0 0 none 0 0 none 0 0 none 0 0 (Ac.zero) := ⟨_, rfl⟩
 have hVs : Hid (VB.size = 36) := hid (by rw [hVB]; rfl)
 have hV1 : Hid (VB.toList.all (·.oneCell') = true) := hid (by rw [hVB]; rfl)
 replace hVB := hid hVB
 go_wp2_with (refine wpList_storeW rfl 32 _ _ rfl U _ VB 32 rfl (by first | rfl | (rw [hVB.out]; rfl)) hU0.out (by rw [hVs.out]; rfl) (by rw [hVs.out]; kernel_rfl) hV1.out (fun WS HS => ?_))
 refine bodyPost_ret (results_cell_row rfl _ _ U _ _ _ _ rfl HS.out.1 Tryz.underlying32 rfl (by rw [hVs.out]; kernel_rfl)) rfl ?_
 have hMe : M = (Ac.zero, r0) := by
  rw [hM.out]
 rw [hMe]
 have hsS := HS.out.2.size
 exact ⟨none, 0, 0, none, 0, 0, none, 0, 0, none, 0, 0, none, 0, 0, by rw [hVB.out], ⟨⟨RowAt.nil _ _ _, BksAt.nil _ _, RowAt.nil _ _ _⟩, RowAt.nil _ _ _, RowAt.nil _ _ _⟩, HS.out.2.at hr0.out (by omega), hm0.out.then HS.out.2 (fun k hk e => by omega)⟩
theorem rGet (R : Nat) (r0 : Rd) (w : World) (hG : Gl w) (hR : 10 <= R) (h : RdAt w R r0) (hl : r0.rest.length <= 1000000) :
  Calls Tryz.prog 145 #[.pointer (some ⟨R, 0, none⟩)] w (AcP w R (readF 15 r0)) := by
 have hRlt := h.lt
 obtain ⟨U, hU⟩ : ∃ U, U = w.heap.size := ⟨_, rfl⟩
 have hx0 := (Mod.refl (fun _ => False) w).alloc (.cells zA9 32)
 have hUc := heap_alloc_new w (.cells zA9 32)
 rw [<- hU] at hUc
 have hr0 := hid (h.ext hx0)
 have hG0 := hid (hG.ext hx0)
 have hm0 := hid (RdM.ofExt (R := R) hx0)
 have hU0 := hid hUc
 have hl0 := hid hl
 have hs0 : U < (w.alloc (.cells zA9 32)).heap.size := by rw [World.size_alloc, hU]; omega
 obtain ⟨M, hM⟩ : ∃ M, M = readF 15 r0 := ⟨_, rfl⟩
 rw [<- hM]
 unfold readF at hM
 simp only at hM
 replace hM := hid hM
 clear hUc hx0 h hl hG
 go_enter Tryz.func145, Tryz.ntmps145
 go_wp2_with fail
 rw [<- hU]
 have hwU : w.heap.size <= U := Nat.le_of_eq hU.symm
 have hRU : R < U := by omega
 generalize (w.alloc (.cells zA9 32)) = W0 at hr0 hG0 hm0 hU0 hs0 ⊢
 replace hU := hid hU
 have k0 := hid (number_any R r0 W0 hG0.out hR hr0.out hl0.out)
 refine k0.out.mono ?_; rintro e W1 ⟨rfl, hrn, hn⟩
 have hln := rNum_le r0
 generalize hq0 : rNum r0 = q0 at hrn hln  ⊢
 obtain ⟨x0, r1⟩ := q0
 simp only at hrn hln  ⊢
 have hr1 := hid hrn
 have hl1 : Hid (r1.rest.length <= 1000000) := hid (Nat.le_trans hln hl0.out)
 have hG1 := hid (hG0.out.rd hR hn)
 have hm1 := hid (hm0.out.trans hn)
 have hU1 := hid (hn.at hU0.out (by omega))
 have hs1 : U < W1.heap.size := by have := hn.size; omega
 replace hq0 := hid hq0
 clear hrn hln hn k0 hr0 hl0 hm0 hU0 hG0
 go_wp2_with fail
 have k1 := hid (word_any R r1 W1 hG1.out hr1.out hl1.out)
 refine k1.out.mono ?_; rintro e W2 ⟨rfl, hrn, hn⟩
 have hln := (fun r => (rWord_le r).2) r1
 generalize hq1 : rWord r1 = q1 at hrn hln  ⊢
 obtain ⟨x1, r2⟩ := q1
 simp only at hrn hln  ⊢
 have hr2 := hid hrn
 have hl2 : Hid (r2.rest.length <= 1000000) := hid (Nat.le_trans hln hl1.out)
 have hG2 := hid (hG1.out.rd hR hn)
 have hm2 := hid (hm1.out.trans hn)
 have hU2 := hid (hn.at hU1.out (by omega))
 have hs2 : U < W2.heap.size := by have := hn.size; omega
 replace hq1 := hid hq1
 clear hrn hln hn k1 hr1 hl1 hm1 hU1 hG1
 obtain ⟨VB, hVB⟩ : ∃ VB, VB = acA none 0 0 none 0 0 none 0 0 none 0 0 none 0 0 { Ac.zero with cl := x0, tx := x1 } := ⟨_, rfl⟩
 have hVs : Hid (VB.size = 36) := hid (by rw [hVB]; rfl)
 have hV1 : Hid (VB.toList.all (·.oneCell') = true) := hid (by rw [hVB]; rfl)
 replace hVB := hid hVB
 go_wp2_with (refine wpList_storeW rfl 32 _ _ rfl U _ VB 32 rfl (by first | rfl | (rw [hVB.out]; rfl)) hU2.out (by rw [hVs.out]; rfl) (by rw [hVs.out]; kernel_rfl) hV1.out (fun WS HS => ?_))
 refine bodyPost_ret (results_cell_row rfl _ _ U _ _ _ _ rfl HS.out.1 Tryz.underlying32 rfl (by rw [hVs.out]; kernel_rfl)) rfl ?_
 have hMe : M = ({ Ac.zero with cl := x0, tx := x1 }, r2) := by
  rw [hM.out]
  simp only [show rNum r0 = (x0, r1) from hq0.out, show rWord r1 = (x1, r2) from hq1.out]
 rw [hMe]
 have hsS := HS.out.2.size
 exact ⟨none, 0, 0, none, 0, 0, none, 0, 0, none, 0, 0, none, 0, 0, by rw [hVB.out], ⟨⟨RowAt.nil _ _ _, BksAt.nil _ _, RowAt.nil _ _ _⟩, RowAt.nil _ _ _, RowAt.nil _ _ _⟩, HS.out.2.at hr2.out (by omega), hm2.out.then HS.out.2 (fun k hk e => by omega)⟩
theorem rSearch (R : Nat) (r0 : Rd) (w : World) (hG : Gl w) (hR : 10 <= R) (h : RdAt w R r0) (hl : r0.rest.length <= 1000000) :
  Calls Tryz.prog 147 #[.pointer (some ⟨R, 0, none⟩)] w (AcP w R (readF 16 r0)) := by
 have hRlt := h.lt
 obtain ⟨U, hU⟩ : ∃ U, U = w.heap.size := ⟨_, rfl⟩
 have hx0 := (Mod.refl (fun _ => False) w).alloc (.cells zA9 32)
 have hUc := heap_alloc_new w (.cells zA9 32)
 rw [<- hU] at hUc
 have hr0 := hid (h.ext hx0)
 have hG0 := hid (hG.ext hx0)
 have hm0 := hid (RdM.ofExt (R := R) hx0)
 have hU0 := hid hUc
 have hl0 := hid hl
 have hs0 : U < (w.alloc (.cells zA9 32)).heap.size := by rw [World.size_alloc, hU]; omega
 obtain ⟨M, hM⟩ : ∃ M, M = readF 16 r0 := ⟨_, rfl⟩
 rw [<- hM]
 unfold readF at hM
 simp only at hM
 replace hM := hid hM
 clear hUc hx0 h hl hG
 go_enter Tryz.func147, Tryz.ntmps147
 go_wp2_with fail
 rw [<- hU]
 have hwU : w.heap.size <= U := Nat.le_of_eq hU.symm
 have hRU : R < U := by omega
 generalize (w.alloc (.cells zA9 32)) = W0 at hr0 hG0 hm0 hU0 hs0 ⊢
 replace hU := hid hU
 have k0 := hid (number_any R r0 W0 hG0.out hR hr0.out hl0.out)
 refine k0.out.mono ?_; rintro e W1 ⟨rfl, hrn, hn⟩
 have hln := rNum_le r0
 generalize hq0 : rNum r0 = q0 at hrn hln  ⊢
 obtain ⟨x0, r1⟩ := q0
 simp only at hrn hln  ⊢
 have hr1 := hid hrn
 have hl1 : Hid (r1.rest.length <= 1000000) := hid (Nat.le_trans hln hl0.out)
 have hG1 := hid (hG0.out.rd hR hn)
 have hm1 := hid (hm0.out.trans hn)
 have hU1 := hid (hn.at hU0.out (by omega))
 have hs1 : U < W1.heap.size := by have := hn.size; omega
 replace hq0 := hid hq0
 clear hrn hln hn k0 hr0 hl0 hm0 hU0 hG0
 go_wp2_with fail
 have k1 := hid (number_any R r1 W1 hG1.out hR hr1.out hl1.out)
 refine k1.out.mono ?_; rintro e W2 ⟨rfl, hrn, hn⟩
 have hln := rNum_le r1
 generalize hq1 : rNum r1 = q1 at hrn hln  ⊢
 obtain ⟨x1, r2⟩ := q1
 simp only at hrn hln  ⊢
 have hr2 := hid hrn
 have hl2 : Hid (r2.rest.length <= 1000000) := hid (Nat.le_trans hln hl1.out)
 have hG2 := hid (hG1.out.rd hR hn)
 have hm2 := hid (hm1.out.trans hn)
 have hU2 := hid (hn.at hU1.out (by omega))
 have hs2 : U < W2.heap.size := by have := hn.size; omega
 replace hq1 := hid hq1
 clear hrn hln hn k1 hr1 hl1 hm1 hU1 hG1
 go_wp2_with fail
 have k2 := hid (tail_any R r2 W2 hr2.out)
 refine k2.out.mono ?_; rintro e W3 ⟨rfl, hrn, hn⟩
 have hln := rTail_le r2
 generalize hq2 : rTail r2 = q2 at hrn hln  ⊢
 obtain ⟨x2, r3⟩ := q2
 simp only at hrn hln  ⊢
 have hr3 := hid hrn
 have hl3 : Hid (r3.rest.length <= 1000000) := hid (Nat.le_trans hln hl2.out)
 have hG3 := hid (hG2.out.rd hR hn)
 have hm3 := hid (hm2.out.trans hn)
 have hU3 := hid (hn.at hU2.out (by omega))
 have hs3 : U < W3.heap.size := by have := hn.size; omega
 replace hq2 := hid hq2
 clear hrn hln hn k2 hr2 hl2 hm2 hU2 hG2
 obtain ⟨VB, hVB⟩ : ∃ VB, VB = acA none 0 0 none 0 0 none 0 0 none 0 0 none 0 0 { Ac.zero with cl := x0, n := x1, tx := x2 } := ⟨_, rfl⟩
 have hVs : Hid (VB.size = 36) := hid (by rw [hVB]; rfl)
 have hV1 : Hid (VB.toList.all (·.oneCell') = true) := hid (by rw [hVB]; rfl)
 replace hVB := hid hVB
 go_wp2_with (refine wpList_storeW rfl 32 _ _ rfl U _ VB 32 rfl (by first | rfl | (rw [hVB.out]; rfl)) hU3.out (by rw [hVs.out]; rfl) (by rw [hVs.out]; kernel_rfl) hV1.out (fun WS HS => ?_))
 refine bodyPost_ret (results_cell_row rfl _ _ U _ _ _ _ rfl HS.out.1 Tryz.underlying32 rfl (by rw [hVs.out]; kernel_rfl)) rfl ?_
 have hMe : M = ({ Ac.zero with cl := x0, n := x1, tx := x2 }, r3) := by
  rw [hM.out]
  simp only [show rNum r0 = (x0, r1) from hq0.out, show rNum r1 = (x1, r2) from hq1.out, show rTail r2 = (x2, r3) from hq2.out]
 rw [hMe]
 have hsS := HS.out.2.size
 exact ⟨none, 0, 0, none, 0, 0, none, 0, 0, none, 0, 0, none, 0, 0, by rw [hVB.out], ⟨⟨RowAt.nil _ _ _, BksAt.nil _ _, RowAt.nil _ _ _⟩, RowAt.nil _ _ _, RowAt.nil _ _ _⟩, HS.out.2.at hr3.out (by omega), hm3.out.then HS.out.2 (fun k hk e => by omega)⟩
end Go.Proofs.YtpaefpnkemkikaaGreatDoor
