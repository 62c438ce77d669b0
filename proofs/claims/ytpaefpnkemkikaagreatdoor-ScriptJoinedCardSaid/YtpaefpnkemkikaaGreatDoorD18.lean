import Derived.Test.YtpaefpnkemkikaaGreatDoorD15
import Derived.Test.YtpaefpnkemkikaaGreatDoorC15
set_option maxRecDepth 100000
set_option maxHeartbeats 16000000
namespace Go.Proofs.YtpaefpnkemkikaaGreatDoor
open Go.Shelf Go.RowKit Cdk Scr
theorem unhex_len : ∀ (s t : Bs), unhex s = some t -> t.length <= s.length
 | [], t, h => by cases h; simp
 | [_], t, h => by cases h
 | a :: b :: r, t, h => by
  unfold unhex at h
  cases h1 : hexV a with
  | none => rw [h1] at h; cases h
  | some x =>
   cases h2 : hexV b with
   | none => rw [h1, h2] at h; cases h
   | some y =>
    rw [h1, h2] at h
    simp only at h
    cases h3 : unhex r with
    | none => rw [h3] at h; cases h
    | some l =>
     rw [h3] at h
     cases h
     have := unhex_len r l h3
     simp only [List.length_cons]; omega
theorem rHex_len (r : Rd) : (rHex r).1.length <= r.rest.length := by
 have h1 := (rWord_le r).1
 unfold rHex hexOf
 split
 ·simp
 ·cases hu : unhex (rWord r).1 with
  | none => simp
  | some t => have := unhex_len _ _ hu; simp only; omega
theorem RdAt.mod' {S : Nat -> Prop} {w w' : World} {R : Nat} {r : Rd} (h : RdAt w R r) (hm : Mod S w w') (hS : ¬ S R) : RdAt w' R r := hm.at h hS
theorem rWord_len (r : Rd) : (rWord r).1.length <= r.rest.length := (rWord_le r).1
theorem fRevise (R : Nat) (r0 : Rd) (w : World) (hG : Gl w) (hR : 10 <= R) (h : RdAt w R r0) (hl : r0.rest.length <= 1000000) :
  Calls Tryz.prog 112 #[.pointer (some ⟨R, 0, none⟩)] w (FcP w R (inF 0 r0)) := by
 have hRlt := h.lt
 obtain ⟨U, hU⟩ : ∃ U, U = w.heap.size := ⟨_, rfl⟩
 have hx0 := (Mod.refl (fun _ => False) w).alloc (.cells zF9 28)
 have hUc := heap_alloc_new w (.cells zF9 28)
 rw [<- hU] at hUc
 have hr0 := hid (h.ext hx0)
 have hG0 := hid (hG.ext hx0)
 have hm0 := hid (RdM.ofExt (R := R) hx0)
 have hU0 := hid hUc
 have hl0 := hid hl
 have hs0 : U < (w.alloc (.cells zF9 28)).heap.size := by rw [World.size_alloc, hU]; omega
 obtain ⟨M, hM⟩ : ∃ M, M = inF 0 r0 := ⟨_, rfl⟩
 rw [<- hM]
 unfold inF at hM
 simp only at hM
 replace hM := hid hM
 have hce := enters_of Tryz.func182 (by kernel_rfl) rfl
 clear hUc hx0 h hl hG
 go_enter Tryz.func112, Tryz.ntmps112
 go_wp2_with fail
 rw [<- hU]
 have hwU : w.heap.size <= U := Nat.le_of_eq hU.symm
 have hRU : R < U := by omega
 generalize (w.alloc (.cells zF9 28)) = W0 at hr0 hG0 hm0 hU0 hs0 ⊢
 replace hU := hid hU
 have k0 := hid (word_any R r0 W0 hG0.out hr0.out hl0.out)
 refine k0.out.mono ?_; rintro e W1 ⟨rfl, hrn, hn⟩
 have hln := (fun r => (rWord_le r).2) r0
 generalize hq0 : rWord r0 = q0 at hrn hln  ⊢
 obtain ⟨x0, r1⟩ := q0
 simp only at hrn hln  ⊢
 have hr1 := hid hrn
 have hl1 : Hid (r1.rest.length <= 1000000) := hid (Nat.le_trans hln hl0.out)
 have hG1 := hid (hG0.out.rd hR hn)
 have hm1 := hid (hm0.out.trans hn)
 have hU1 := hid (hn.at hU0.out (by omega))
 have hs1 : U < W1.heap.size := by have := hn.size; omega
 replace hq0 := hid hq0
 clear hrn hln hn k0 hr0 hl0 hm0 hU0 hG0
 go_wp2_with fail
 have k1 := hid (number_any R r1 W1 hG1.out hR hr1.out hl1.out)
 refine k1.out.mono ?_; rintro e W2 ⟨rfl, hrn, hn⟩
 have hln := rNum_le r1
 generalize hq1 : rNum r1 = q1 at hrn hln  ⊢
 obtain ⟨x1, r2⟩ := q1
 simp only at hrn hln  ⊢
 have hr2 := hid hrn
 have hl2 : Hid (r2.rest.length <= 1000000) := hid (Nat.le_trans hln hl1.out)
 have hG2 := hid (hG1.out.rd hR hn)
 have hm2 := hid (hm1.out.trans hn)
 have hU2 := hid (hn.at hU1.out (by omega))
 have hs2 : U < W2.heap.size := by have := hn.size; omega
 replace hq1 := hid hq1
 clear hrn hln hn k1 hr1 hl1 hm1 hU1 hG1
 go_wp2_with fail
 have k2 := hid (number_any R r2 W2 hG2.out hR hr2.out hl2.out)
 refine k2.out.mono ?_; rintro e W3 ⟨rfl, hrn, hn⟩
 have hln := rNum_le r2
 generalize hq2 : rNum r2 = q2 at hrn hln  ⊢
 obtain ⟨x2, r3⟩ := q2
 simp only at hrn hln  ⊢
 have hr3 := hid hrn
 have hl3 : Hid (r3.rest.length <= 1000000) := hid (Nat.le_trans hln hl2.out)
 have hG3 := hid (hG2.out.rd hR hn)
 have hm3 := hid (hm2.out.trans hn)
 have hU3 := hid (hn.at hU2.out (by omega))
 have hs3 : U < W3.heap.size := by have := hn.size; omega
 replace hq2 := hid hq2
 clear hrn hln hn k2 hr2 hl2 hm2 hU2 hG2
 go_wp2_with fail
 have k3 := hid (word_any R r3 W3 hG3.out hr3.out hl3.out)
 refine k3.out.mono ?_; rintro e W4 ⟨rfl, hrn, hn⟩
 have hln := (fun r => (rWord_le r).2) r3
 generalize hq3 : rWord r3 = q3 at hrn hln  ⊢
 obtain ⟨x3, r4⟩ := q3
 simp only at hrn hln  ⊢
 have hr4 := hid hrn
 have hl4 : Hid (r4.rest.length <= 1000000) := hid (Nat.le_trans hln hl3.out)
 have hG4 := hid (hG3.out.rd hR hn)
 have hm4 := hid (hm3.out.trans hn)
 have hU4 := hid (hn.at hU3.out (by omega))
 have hs4 : U < W4.heap.size := by have := hn.size; omega
 replace hq3 := hid hq3
 clear hrn hln hn k3 hr3 hl3 hm3 hU3 hG3
 obtain ⟨VB, hVB⟩ : ∃ VB : Array Value, VB = #[.int .i64 0, .int .i64 0, .int .i64 0, .int .i64 0, .string ⟨x0.toArray⟩, .int .i64 x1, .int .i64 x2, .string ⟨#[]⟩, .string ⟨x3.toArray⟩, .slice none 0 0, .slice none 0 0, .int .i64 0, .slice none 0 0, .int .i64 0, .int .i64 0, .int .i64 0, .int .i64 0, .int .i64 0, .string ⟨#[]⟩, .string ⟨#[]⟩, .int .i64 0, .int .i64 0, .int .i64 0] := ⟨_, rfl⟩
 have hVs : Hid (VB.size = 23) := hid (by rw [hVB]; rfl)
 have hV1 : Hid (VB.toList.all (·.oneCell') = true) := hid (by rw [hVB]; rfl)
 go_wp2_with (refine wpList_storeW rfl 28 _ _ rfl W4.heap.size _ VB 28 rfl (by rw [hVB]; rfl) (heap_alloc_new W4 _) (by rw [hVs.out]; rfl) (by rw [hVs.out]; kernel_rfl) hV1.out (fun WS HS => ?_))
 obtain ⟨zs, hzs⟩ : ∃ zs, Hid (Mod (Eq W4.heap.size) (W4.alloc (.cells zs 28)) WS) := ⟨_, hid HS.out.2⟩
 have hxT : Ext W4 WS := (((Mod.alloc (Mod.refl (fun _ => False) W4) (.cells zs 28)).mono (T := fun k => W4.heap.size <= k) (fun _ h => h.elim)).then hzs.out (fun k _ e => by omega)).mono' (fun k h1 h2 => by omega)
 have hTc := HS.out.1
 obtain ⟨T, hTe⟩ : ∃ T, T = W4.heap.size := ⟨_, rfl⟩
 rw [<- hTe] at hTc ⊢
 have hUT : U < T := by omega
 replace hr4 := hid (hr4.out.ext hxT)
 replace hG4 := hid (hG4.out.ext hxT)
 replace hm4 := hid (hm4.out.then hxT (fun k _ h => h.elim))
 replace hU4 := hid (hxT.at hU4.out (fun h => h))
 have ht4 : T < WS.heap.size := lt_of_at hTc
 replace hs4 : U < WS.heap.size := by omega
 rw [hVB] at hTc
 have hT4 := hid hTc
 replace hTe := hid hTe
 clear hVB hVs hV1 hzs hxT HS hTc VB
 have k4 := hid (word_any R r4 WS hG4.out hr4.out hl4.out)
 refine k4.out.mono ?_; rintro e W5 ⟨rfl, hrn, hn⟩
 have hln := (fun r => (rWord_le r).2) r4
 have hxl4 := rWord_len r4
 generalize hq4 : rWord r4 = q4 at hrn hln hxl4  ⊢
 obtain ⟨x4, r5⟩ := q4
 simp only at hrn hln hxl4  ⊢
 have hr5 := hid hrn
 have hl5 : Hid (r5.rest.length <= 1000000) := hid (Nat.le_trans hln hl4.out)
 have hG5 := hid (hG4.out.rd hR hn)
 have hm5 := hid (hm4.out.trans hn)
 have hU5 := hid (hn.at hU4.out (by omega))
 have hs5 : U < W5.heap.size := by have := hn.size; omega
 replace hxl4 : Hid (x4.length <= 1000000) := hid (Nat.le_trans hxl4 hl4.out)
 have hT5 := hid (hn.at hT4.out (by omega))
 have ht5 : T < W5.heap.size := by have := hn.size; omega
 clear hT4
 replace hq4 := hid hq4
 clear hrn hln hn k4 hr4 hl4 hm4 hU4 hG4
 go_wp2_with fail
 refine (listTexts_any x4 hxl4.out W5).mono ?_; rintro e W5t ⟨ato, capt, rfl, hit, hxt⟩
 generalize htx : textsOf x4 = L4 at hit ⊢
 replace hr5 := hid (hr5.out.ext hxt)
 replace hG5 := hid (hG5.out.ext hxt)
 replace hm5 := hid (hm5.out.then hxt (fun k _ h => h.elim))
 replace hU5 := hid (hxt.at hU5.out (fun h => h))
 replace hT5 := hid (hxt.at hT5.out (fun h => h))
 have hOt := hid (RowAt.mono (F' := fun k => T < k /\ k < W5t.heap.size) hit (fun k hk => ⟨by omega, hk.2⟩))
 replace hs5 : U < W5t.heap.size := by have := hxt.size; omega
 replace ht5 : T < W5t.heap.size := by have := hxt.size; omega
 replace htx := hid htx
 clear hit hxt
 have ct := cell_of' hT5.out 9
 have zt := free_of' hT5.out
 have pT := put_at' hT5.out 9 (.slice ato L4.length capt)
 have mS : Mod (fun k => k = T) W5t (W5t.setCell ⟨T, 9, none⟩ (.slice ato L4.length capt)) := (Mod.refl (fun k => k = T) W5t).setCell (a := ⟨T, 9, none⟩) (fun _ => rfl) (.slice ato L4.length capt)
 simp at ct
 replace pT : Hid ((W5t.setCell ⟨T, 9, none⟩ (.slice ato L4.length capt)).heap[T]? = some (.cells #[.int .i64 0, .int .i64 0, .int .i64 0, .int .i64 0, .string ⟨x0.toArray⟩, .int .i64 x1, .int .i64 x2, .string ⟨#[]⟩, .string ⟨x3.toArray⟩, .slice ato L4.length capt, .slice none 0 0, .int .i64 0, .slice none 0 0, .int .i64 0, .int .i64 0, .int .i64 0, .int .i64 0, .int .i64 0, .string ⟨#[]⟩, .string ⟨#[]⟩, .int .i64 0, .int .i64 0, .int .i64 0] 28 (0, 0))) := hid (by simpa using pT)
 replace hr5 := hid (hr5.out.mod' mS (by omega))
 replace hG5 := hid (hG5.out.mod mS (fun k hk => by have := hG5.out.size; omega))
 replace hm5 := hid (hm5.out.then mS (fun k hk e => by omega))
 replace hU5 := hid (mS.at hU5.out (by omega))
 replace hs5 : U < (W5t.setCell ⟨T, 9, none⟩ (.slice ato L4.length capt)).heap.size := by have := mS.size; omega
 replace ht5 : T < (W5t.setCell ⟨T, 9, none⟩ (.slice ato L4.length capt)).heap.size := by have := mS.size; omega
 replace hOt := hid ((hOt.out.mod mS (fun k hk e => by omega)).mono (F' := fun k => T < k /\ k < (W5t.setCell ⟨T, 9, none⟩ (.slice ato L4.length capt)).heap.size) (fun k hk => ⟨hk.1, by have := mS.size; omega⟩))
 replace hT5 := pT
 clear pT mS
 go_wp2_with fail
 clear ct zt
 generalize W5t.setCell ⟨T, 9, none⟩ (.slice ato L4.length capt) = W5s at hr5 hG5 hm5 hU5 hs5 ht5 hT5 hOt ⊢
 have k5 := hid (label_any R r5 W5s hG5.out hR hr5.out hl5.out)
 refine k5.out.mono ?_; rintro e W6 ⟨vl, rfl, hil, hrn, hn⟩
 have hln := rLabel_le r5
 generalize hq5 : rLabel r5 = q5 at hrn hln hil ⊢
 obtain ⟨x5, r6⟩ := q5
 simp only at hrn hln hil ⊢
 have hr6 := hid hrn
 have hl6 : Hid (r6.rest.length <= 1000000) := hid (Nat.le_trans hln hl5.out)
 have hG6 := hid (hG5.out.rd hR hn)
 have hm6 := hid (hm5.out.trans hn)
 have hU6 := hid (hn.at hU5.out (by omega))
 have hs6 : U < W6.heap.size := by have := hn.size; omega
 obtain ⟨ao, cap, rfl⟩ := hil.slice
 have hOl := hid (RowAt.mono (F' := fun k => T < k /\ k < W6.heap.size) hil (fun k hk => ⟨by have := hk.1; omega, hk.2⟩))
 clear hil
 replace hOt := hid ((hOt.out.mod hn (fun k hk e => by omega)).mono (F' := fun k => T < k /\ k < W6.heap.size) (fun k hk => ⟨hk.1, by have := hn.size; omega⟩))
 have hT6 := hid (hn.at hT5.out (by omega))
 have ht6 : T < W6.heap.size := by have := hn.size; omega
 clear hT5
 replace hq5 := hid hq5
 clear hrn hln hn k5 hr5 hl5 hm5 hU5 hG5
 go_wp2_with (refine wpList_storeA rfl 26 _ _ rfl T 11 [.int .i64 0, .int .i64 0, .int .i64 0, .int .i64 0, .string ⟨x0.toArray⟩, .int .i64 x1, .int .i64 x2, .string ⟨#[]⟩, .string ⟨x3.toArray⟩, .slice ato L4.length capt, .slice none 0 0] [.int .i64 0, .slice none 0 0, .int .i64 0, .int .i64 0] [.int .i64 0, .int .i64 0, .int .i64 0, .string ⟨#[]⟩, .string ⟨#[]⟩, .int .i64 0, .int .i64 0, .int .i64 0] [.int .i64 x5.til, .slice ao x5.aft.length cap, .int .i64 x5.app, .int .i64 x5.den] 28 rfl rfl rfl hT6.out rfl (by kernel_rfl) rfl (fun WL HL => ?_))
 have hLc : Hid (WL.heap[T]? = some (.cells #[.int .i64 0, .int .i64 0, .int .i64 0, .int .i64 0, .string ⟨x0.toArray⟩, .int .i64 x1, .int .i64 x2, .string ⟨#[]⟩, .string ⟨x3.toArray⟩, .slice ato L4.length capt, .slice none 0 0, .int .i64 x5.til, .slice ao x5.aft.length cap, .int .i64 x5.app, .int .i64 x5.den, .int .i64 0, .int .i64 0, .int .i64 0, .string ⟨#[]⟩, .string ⟨#[]⟩, .int .i64 0, .int .i64 0, .int .i64 0] 28 (0, 0))) := hid HL.out.1
 have mL := HL.out.2
 replace hr6 := hid (hr6.out.mod' mL (by omega))
 replace hG6 := hid (hG6.out.mod mL (fun k hk => by have := hG6.out.size; omega))
 replace hm6 := hid (hm6.out.then mL (fun k hk e => by omega))
 replace hU6 := hid (mL.at hU6.out (by omega))
 replace hs6 : U < WL.heap.size := by have := mL.size; omega
 replace ht6 : T < WL.heap.size := by have := mL.size; omega
 replace hOt := hid ((hOt.out.mod mL (fun k hk e => by omega)).mono (F' := fun k => T < k /\ k < WL.heap.size) (fun k hk => ⟨hk.1, by have := mL.size; omega⟩))
 replace hOl := hid ((hOl.out.mod mL (fun k hk e => by omega)).mono (F' := fun k => T < k /\ k < WL.heap.size) (fun k hk => ⟨hk.1, by have := mL.size; omega⟩))
 replace hT6 := hLc
 clear hLc mL HL
 have k6 := hid (hex_any R r6 WL hG6.out hR hr6.out hl6.out)
 refine k6.out.mono ?_; rintro e W7 ⟨rfl, hrn, hn⟩
 have hln := rHex_le r6
 have hxl6 := rHex_len r6
 generalize hq6 : rHex r6 = q6 at hrn hln hxl6  ⊢
 obtain ⟨x6, r7⟩ := q6
 simp only at hrn hln hxl6  ⊢
 have hr7 := hid hrn
 have hl7 : Hid (r7.rest.length <= 1000000) := hid (Nat.le_trans hln hl6.out)
 have hG7 := hid (hG6.out.rd hR hn)
 have hm7 := hid (hm6.out.trans hn)
 have hU7 := hid (hn.at hU6.out (by omega))
 have hs7 : U < W7.heap.size := by have := hn.size; omega
 replace hOt := hid ((hOt.out.mod hn (fun k hk e => by omega)).mono (F' := fun k => T < k /\ k < W7.heap.size) (fun k hk => ⟨hk.1, by have := hn.size; omega⟩))
 replace hOl := hid ((hOl.out.mod hn (fun k hk e => by omega)).mono (F' := fun k => T < k /\ k < W7.heap.size) (fun k hk => ⟨hk.1, by have := hn.size; omega⟩))
 replace hxl6 : Hid (x6.length <= 1000000) := hid (Nat.le_trans hxl6 hl6.out)
 have hT7 := hid (hn.at hT6.out (by omega))
 have ht7 : T < W7.heap.size := by have := hn.size; omega
 clear hT6
 replace hq6 := hid hq6
 clear hrn hln hn k6 hr6 hl6 hm6 hU6 hG6
 go_wp2_with fail
 refine (decode_any x6 hxl6.out W7).mono ?_; rintro e W8 ⟨hxd, hD⟩
 unfold DbE at hD
 replace hr7 := hid (hr7.out.ext hxd)
 replace hG7 := hid (hG7.out.ext hxd)
 replace hm7 := hid (hm7.out.then hxd (fun k _ h => h.elim))
 replace hU7 := hid (hxd.at hU7.out (fun h => h))
 replace hT7 := hid (hxd.at hT7.out (fun h => h))
 replace hOt := hid ((hOt.out.ext hxd).mono (F' := fun k => T < k /\ k < W8.heap.size) (fun k hk => ⟨hk.1, by have := hxd.size; omega⟩))
 replace hOl := hid ((hOl.out.ext hxd).mono (F' := fun k => T < k /\ k < W8.heap.size) (fun k hk => ⟨hk.1, by have := hxd.size; omega⟩))
 replace hs7 : U < W8.heap.size := by have := hxd.size; omega
 have ht7' : T < W8.heap.size := by have := hxd.size; omega
 cases hd : decBs x6 with
 | ok lb =>
  rw [hd] at hD
  simp only at hD
  obtain ⟨ab, capb, rfl, hbk⟩ := hD
  have hOb := hid (hbk.mono (F' := fun k => T < k /\ k < W8.heap.size) (fun k hk => ⟨by omega, hk.2⟩))
  clear hxd hbk ht7
  have ht7 := ht7'
  clear ht7'
  have ct := cell_of' hT7.out 10
  have zt := free_of' hT7.out
  have pT := put_at' hT7.out 10 (.slice ab lb.length capb)
  have mS : Mod (fun k => k = T) W8 (W8.setCell ⟨T, 10, none⟩ (.slice ab lb.length capb)) := (Mod.refl (fun k => k = T) W8).setCell (a := ⟨T, 10, none⟩) (fun _ => rfl) (.slice ab lb.length capb)
  simp at ct
  replace pT : Hid ((W8.setCell ⟨T, 10, none⟩ (.slice ab lb.length capb)).heap[T]? = some (.cells #[.int .i64 0, .int .i64 0, .int .i64 0, .int .i64 0, .string ⟨x0.toArray⟩, .int .i64 x1, .int .i64 x2, .string ⟨#[]⟩, .string ⟨x3.toArray⟩, .slice ato L4.length capt, .slice ab lb.length capb, .int .i64 x5.til, .slice ao x5.aft.length cap, .int .i64 x5.app, .int .i64 x5.den, .int .i64 0, .int .i64 0, .int .i64 0, .string ⟨#[]⟩, .string ⟨#[]⟩, .int .i64 0, .int .i64 0, .int .i64 0] 28 (0, 0))) := hid (by simpa using pT)
  replace hr7 := hid (hr7.out.mod' mS (by omega))
  replace hG7 := hid (hG7.out.mod mS (fun k hk => by have := hG7.out.size; omega))
  replace hm7 := hid (hm7.out.then mS (fun k hk e => by omega))
  replace hU7 := hid (mS.at hU7.out (by omega))
  replace hs7 : U < (W8.setCell ⟨T, 10, none⟩ (.slice ab lb.length capb)).heap.size := by have := mS.size; omega
  replace ht7 : T < (W8.setCell ⟨T, 10, none⟩ (.slice ab lb.length capb)).heap.size := by have := mS.size; omega
  replace hOt := hid ((hOt.out.mod mS (fun k hk e => by omega)).mono (F' := fun k => T < k /\ k < (W8.setCell ⟨T, 10, none⟩ (.slice ab lb.length capb)).heap.size) (fun k hk => ⟨hk.1, by have := mS.size; omega⟩))
  replace hOl := hid ((hOl.out.mod mS (fun k hk e => by omega)).mono (F' := fun k => T < k /\ k < (W8.setCell ⟨T, 10, none⟩ (.slice ab lb.length capb)).heap.size) (fun k hk => ⟨hk.1, by have := mS.size; omega⟩))
  replace hOb := hid ((hOb.out.mod mS (fun k hk e => by omega)).mono (F' := fun k => T < k /\ k < (W8.setCell ⟨T, 10, none⟩ (.slice ab lb.length capb)).heap.size) (fun k hk => ⟨hk.1, by have := mS.size; omega⟩))
  replace hT7 := pT
  clear pT mS
  go_wp2_with fail
  clear ct zt
  generalize W8.setCell ⟨T, 10, none⟩ (.slice ab lb.length capb) = W8s at hr7 hG7 hm7 hU7 hs7 ht7 hT7 hOt hOl hOb ⊢
  have k7 := hid (tail_any R r7 W8s hr7.out)
  refine k7.out.mono ?_; rintro e W9 ⟨rfl, hrn, hn⟩
  have hln := rTail_le r7
  generalize hq7 : rTail r7 = q7 at hrn hln  ⊢
  obtain ⟨x7, r8⟩ := q7
  simp only at hrn hln  ⊢
  have hr8 := hid hrn
  have hl8 : Hid (r8.rest.length <= 1000000) := hid (Nat.le_trans hln hl7.out)
  have hG8 := hid (hG7.out.rd hR hn)
  have hm8 := hid (hm7.out.trans hn)
  have hU8 := hid (hn.at hU7.out (by omega))
  have hs8 : U < W9.heap.size := by have := hn.size; omega
  replace hOt := hid ((hOt.out.mod hn (fun k hk e => by omega)).mono (F' := fun k => T < k /\ k < W9.heap.size) (fun k hk => ⟨hk.1, by have := hn.size; omega⟩))
  replace hOl := hid ((hOl.out.mod hn (fun k hk e => by omega)).mono (F' := fun k => T < k /\ k < W9.heap.size) (fun k hk => ⟨hk.1, by have := hn.size; omega⟩))
  replace hOb := hid ((hOb.out.mod hn (fun k hk e => by omega)).mono (F' := fun k => T < k /\ k < W9.heap.size) (fun k hk => ⟨hk.1, by have := hn.size; omega⟩))
  have hT8 := hid (hn.at hT7.out (by omega))
  have ht8 : T < W9.heap.size := by have := hn.size; omega
  clear hT7
  replace hq7 := hid hq7
  clear hrn hln hn k7 hr7 hl7 hm7 hU7 hG7
  have ct := cell_of' hT8.out 7
  have zt := free_of' hT8.out
  have pT := put_at' hT8.out 7 (.string ⟨x7.toArray⟩)
  have mS : Mod (fun k => k = T) W9 (W9.setCell ⟨T, 7, none⟩ (.string ⟨x7.toArray⟩)) := (Mod.refl (fun k => k = T) W9).setCell (a := ⟨T, 7, none⟩) (fun _ => rfl) (.string ⟨x7.toArray⟩)
  simp at ct
  replace pT : Hid ((W9.setCell ⟨T, 7, none⟩ (.string ⟨x7.toArray⟩)).heap[T]? = some (.cells #[.int .i64 0, .int .i64 0, .int .i64 0, .int .i64 0, .string ⟨x0.toArray⟩, .int .i64 x1, .int .i64 x2, .string ⟨x7.toArray⟩, .string ⟨x3.toArray⟩, .slice ato L4.length capt, .slice ab lb.length capb, .int .i64 x5.til, .slice ao x5.aft.length cap, .int .i64 x5.app, .int .i64 x5.den, .int .i64 0, .int .i64 0, .int .i64 0, .string ⟨#[]⟩, .string ⟨#[]⟩, .int .i64 0, .int .i64 0, .int .i64 0] 28 (0, 0))) := hid (by simpa using pT)
  obtain ⟨VB, hVB⟩ : ∃ VB : Array Value, VB = #[.int .i64 0, .int .i64 0, .int .i64 0, .int .i64 0, .string ⟨x0.toArray⟩, .int .i64 x1, .int .i64 x2, .string ⟨x7.toArray⟩, .string ⟨x3.toArray⟩, .slice ato L4.length capt, .slice ab lb.length capb, .int .i64 x5.til, .slice ao x5.aft.length cap, .int .i64 x5.app, .int .i64 x5.den, .int .i64 0, .int .i64 0, .int .i64 0, .string ⟨#[]⟩, .string ⟨#[]⟩, .int .i64 0, .int .i64 0, .int .i64 0] := ⟨_, rfl⟩
  rw [<- hVB] at pT
  have hVs : Hid (VB.size = 23) := hid (by rw [hVB]; rfl)
  have hV1 : Hid (VB.toList.all (·.oneCell') = true) := hid (by rw [hVB]; rfl)
  have pU := hid (mS.at hU8.out (by omega))
  replace hVB := hid hVB
  go_wp2_with (first | (refine wpList_loadW (by rfl) 28 _ rfl T _ _ _ _ rfl pT.out Tryz.underlying28 rfl (by rw [hVs.out]; kernel_rfl) ?_) | (refine wpList_storeW rfl 28 _ _ rfl U _ VB 28 rfl rfl pU.out (by rw [hVs.out]; rfl) (by rw [hVs.out]; kernel_rfl) hV1.out (fun WS2 HS => ?_)))
  refine bodyPost_ret (results_cell_row rfl _ _ U _ _ _ _ rfl HS.out.1 Tryz.underlying28 rfl (by rw [hVs.out]; kernel_rfl)) rfl ?_
  have hMe : M = ({ Fc.zero with lg := x0, rv := x1, bs := x2, au := x3, tp := L4, lb := x5, bl := lb, ti := x7 }, r8) := by
   rw [hM.out]
   simp only [show rWord r0 = (x0, r1) from hq0.out, show rNum r1 = (x1, r2) from hq1.out, show rNum r2 = (x2, r3) from hq2.out, show rWord r3 = (x3, r4) from hq3.out, show rWord r4 = (x4, r5) from hq4.out, show textsOf x4 = L4 from htx.out, show rLabel r5 = (x5, r6) from hq5.out, show rHex r6 = (x6, r7) from hq6.out, hd, show rTail r7 = (x7, r8) from hq7.out]
  rw [hMe]
  have hsz := Nat.le_trans mS.size HS.out.2.size
  refine ⟨ato, L4.length, capt, ab, lb.length, capb, ao, x5.aft.length, cap, by rw [hVB.out]; rfl, ⟨?_, ?_, ?_⟩, HS.out.2.at (mS.at hr8.out (by omega)) (by omega), (hm8.out.then mS (fun k hk e => by omega)).then HS.out.2 (fun k hk e => by omega)⟩
  ·exact RowAt.mono ((hOt.out.mod mS (fun k hk e => by omega)).mod HS.out.2 (fun k hk e => by omega)) (fun k hk => ⟨by have := hk.1; omega, by have := hk.2; omega⟩)
  ·exact ((hOb.out.mod mS (fun k hk e => by omega)).mod HS.out.2 (fun k hk e => by omega)).mono (fun k hk => ⟨by have := hk.1; omega, by have := hk.2; omega⟩)
  ·exact RowAt.mono ((hOl.out.mod mS (fun k hk e => by omega)).mod HS.out.2 (fun k hk e => by omega)) (fun k hk => ⟨by have := hk.1; omega, by have := hk.2; omega⟩)
 | error er =>
  rw [hd] at hD
  simp only at hD
  obtain ⟨c, hcne, rfl⟩ := hD
  have hc1 : (c != 0) = true := by rw [bne_iff_ne]; exact hcne
  have hc2 : (c == 0) = false := by rw [beq_eq_false_iff_ne]; exact hcne
  have hrr : W8.heap[R]? = some (.cells #[.string ⟨r7.rest.toArray⟩, .bool r7.more, .bool r7.bad] 106 (0, 0)) := hr7.out
  have cb : W8.cell? ⟨R, 2, none⟩ = some (.bool r7.bad) := cell_of' hrr 2
  have zb := free_of' hrr
  have hrb := hid (show RdAt (W8.setCell ⟨R, 2, none⟩ (.bool true)) R (Scr.bad r7) from put_at' hrr 2 (.bool true))
  have mR : RdM R W8 (W8.setCell ⟨R, 2, none⟩ (.bool true)) := (Mod.refl (fun k => k = R) W8).setCell (a := ⟨R, 2, none⟩) (fun _ => rfl) (.bool true)
  have hbl : Hid ((Scr.bad r7).rest.length <= 1000000) := hid hl7.out
  clear hl7 hr7 ht7
  have hl7 := hbl
  have hr7 := hrb
  replace hG7 := hid (hG7.out.rd hR mR)
  replace hm7 := hid (hm7.out.trans mR)
  replace hU7 := hid (mR.at hU7.out (by omega))
  replace hT7 := hid (mR.at hT7.out (by omega))
  replace hs7 : U < (W8.setCell ⟨R, 2, none⟩ (.bool true)).heap.size := by have := mR.size; omega
  have ht7 : T < (W8.setCell ⟨R, 2, none⟩ (.bool true)).heap.size := by have := mR.size; omega
  replace hOt := hid ((hOt.out.mod mR (fun k hk e => by omega)).mono (F' := fun k => T < k /\ k < (W8.setCell ⟨R, 2, none⟩ (.bool true)).heap.size) (fun k hk => ⟨hk.1, by have := mR.size; omega⟩))
  replace hOl := hid ((hOl.out.mod mR (fun k hk e => by omega)).mono (F' := fun k => T < k /\ k < (W8.setCell ⟨R, 2, none⟩ (.bool true)).heap.size) (fun k hk => ⟨hk.1, by have := mR.size; omega⟩))
  replace hcne := hid hcne
  replace hrr := hid hrr
  clear ht7' hxd hbl hrb mR
  go_upto_region 7 with fail
  clear cb zb
  generalize W8.setCell ⟨R, 2, none⟩ (.bool true) = W8r at hr7 hG7 hm7 hU7 hT7 hs7 ht7 hOt hOl ⊢
  have ct := cell_of' hT7.out 10
  have zt := free_of' hT7.out
  have pT := put_at' hT7.out 10 (.slice none 0 0)
  have mS : Mod (fun k => k = T) W8r (W8r.setCell ⟨T, 10, none⟩ (.slice none 0 0)) := (Mod.refl (fun k => k = T) W8r).setCell (a := ⟨T, 10, none⟩) (fun _ => rfl) (.slice none 0 0)
  simp at ct
  replace pT : Hid ((W8r.setCell ⟨T, 10, none⟩ (.slice none 0 0)).heap[T]? = some (.cells #[.int .i64 0, .int .i64 0, .int .i64 0, .int .i64 0, .string ⟨x0.toArray⟩, .int .i64 x1, .int .i64 x2, .string ⟨#[]⟩, .string ⟨x3.toArray⟩, .slice ato L4.length capt, .slice none 0 0, .int .i64 x5.til, .slice ao x5.aft.length cap, .int .i64 x5.app, .int .i64 x5.den, .int .i64 0, .int .i64 0, .int .i64 0, .string ⟨#[]⟩, .string ⟨#[]⟩, .int .i64 0, .int .i64 0, .int .i64 0] 28 (0, 0))) := hid (by simpa using pT)
  replace hr7 := hid (hr7.out.mod' mS (by omega))
  replace hG7 := hid (hG7.out.mod mS (fun k hk => by have := hG7.out.size; omega))
  replace hm7 := hid (hm7.out.then mS (fun k hk e => by omega))
  replace hU7 := hid (mS.at hU7.out (by omega))
  replace hs7 : U < (W8r.setCell ⟨T, 10, none⟩ (.slice none 0 0)).heap.size := by have := mS.size; omega
  replace ht7 : T < (W8r.setCell ⟨T, 10, none⟩ (.slice none 0 0)).heap.size := by have := mS.size; omega
  replace hOt := hid ((hOt.out.mod mS (fun k hk e => by omega)).mono (F' := fun k => T < k /\ k < (W8r.setCell ⟨T, 10, none⟩ (.slice none 0 0)).heap.size) (fun k hk => ⟨hk.1, by have := mS.size; omega⟩))
  replace hOl := hid ((hOl.out.mod mS (fun k hk e => by omega)).mono (F' := fun k => T < k /\ k < (W8r.setCell ⟨T, 10, none⟩ (.slice none 0 0)).heap.size) (fun k hk => ⟨hk.1, by have := mS.size; omega⟩))
  replace hT7 := pT
  clear pT mS
  go_wp2_with fail
  clear ct zt
  generalize W8r.setCell ⟨T, 10, none⟩ (.slice none 0 0) = W8s at hr7 hG7 hm7 hU7 hs7 ht7 hT7 hOt hOl ⊢
  have k7 := hid (tail_any R (Scr.bad r7) W8s hr7.out)
  refine k7.out.mono ?_; rintro e W9 ⟨rfl, hrn, hn⟩
  have hln := rTail_le (Scr.bad r7)
  generalize hq7 : rTail (Scr.bad r7) = q7 at hrn hln  ⊢
  obtain ⟨x7, r8⟩ := q7
  simp only at hrn hln  ⊢
  have hr8 := hid hrn
  have hl8 : Hid (r8.rest.length <= 1000000) := hid (Nat.le_trans hln hl7.out)
  have hG8 := hid (hG7.out.rd hR hn)
  have hm8 := hid (hm7.out.trans hn)
  have hU8 := hid (hn.at hU7.out (by omega))
  have hs8 : U < W9.heap.size := by have := hn.size; omega
  replace hOt := hid ((hOt.out.mod hn (fun k hk e => by omega)).mono (F' := fun k => T < k /\ k < W9.heap.size) (fun k hk => ⟨hk.1, by have := hn.size; omega⟩))
  replace hOl := hid ((hOl.out.mod hn (fun k hk e => by omega)).mono (F' := fun k => T < k /\ k < W9.heap.size) (fun k hk => ⟨hk.1, by have := hn.size; omega⟩))
  have hT8 := hid (hn.at hT7.out (by omega))
  have ht8 : T < W9.heap.size := by have := hn.size; omega
  clear hT7
  replace hq7 := hid hq7
  clear hrn hln hn k7 hr7 hl7 hm7 hU7 hG7
  have ct := cell_of' hT8.out 7
  have zt := free_of' hT8.out
  have pT := put_at' hT8.out 7 (.string ⟨x7.toArray⟩)
  have mS : Mod (fun k => k = T) W9 (W9.setCell ⟨T, 7, none⟩ (.string ⟨x7.toArray⟩)) := (Mod.refl (fun k => k = T) W9).setCell (a := ⟨T, 7, none⟩) (fun _ => rfl) (.string ⟨x7.toArray⟩)
  simp at ct
  replace pT : Hid ((W9.setCell ⟨T, 7, none⟩ (.string ⟨x7.toArray⟩)).heap[T]? = some (.cells #[.int .i64 0, .int .i64 0, .int .i64 0, .int .i64 0, .string ⟨x0.toArray⟩, .int .i64 x1, .int .i64 x2, .string ⟨x7.toArray⟩, .string ⟨x3.toArray⟩, .slice ato L4.length capt, .slice none 0 0, .int .i64 x5.til, .slice ao x5.aft.length cap, .int .i64 x5.app, .int .i64 x5.den, .int .i64 0, .int .i64 0, .int .i64 0, .string ⟨#[]⟩, .string ⟨#[]⟩, .int .i64 0, .int .i64 0, .int .i64 0] 28 (0, 0))) := hid (by simpa using pT)
  obtain ⟨VB, hVB⟩ : ∃ VB : Array Value, VB = #[.int .i64 0, .int .i64 0, .int .i64 0, .int .i64 0, .string ⟨x0.toArray⟩, .int .i64 x1, .int .i64 x2, .string ⟨x7.toArray⟩, .string ⟨x3.toArray⟩, .slice ato L4.length capt, .slice none 0 0, .int .i64 x5.til, .slice ao x5.aft.length cap, .int .i64 x5.app, .int .i64 x5.den, .int .i64 0, .int .i64 0, .int .i64 0, .string ⟨#[]⟩, .string ⟨#[]⟩, .int .i64 0, .int .i64 0, .int .i64 0] := ⟨_, rfl⟩
  rw [<- hVB] at pT
  have hVs : Hid (VB.size = 23) := hid (by rw [hVB]; rfl)
  have hV1 : Hid (VB.toList.all (·.oneCell') = true) := hid (by rw [hVB]; rfl)
  have pU := hid (mS.at hU8.out (by omega))
  replace hVB := hid hVB
  go_wp2_with (first | (refine wpList_loadW (by rfl) 28 _ rfl T _ _ _ _ rfl pT.out Tryz.underlying28 rfl (by rw [hVs.out]; kernel_rfl) ?_) | (refine wpList_storeW rfl 28 _ _ rfl U _ VB 28 rfl rfl pU.out (by rw [hVs.out]; rfl) (by rw [hVs.out]; kernel_rfl) hV1.out (fun WS2 HS => ?_)))
  refine bodyPost_ret (results_cell_row rfl _ _ U _ _ _ _ rfl HS.out.1 Tryz.underlying28 rfl (by rw [hVs.out]; kernel_rfl)) rfl ?_
  have hMe : M = ({ Fc.zero with lg := x0, rv := x1, bs := x2, au := x3, tp := L4, lb := x5, bl := [], ti := x7 }, r8) := by
   rw [hM.out]
   simp only [show rWord r0 = (x0, r1) from hq0.out, show rNum r1 = (x1, r2) from hq1.out, show rNum r2 = (x2, r3) from hq2.out, show rWord r3 = (x3, r4) from hq3.out, show rWord r4 = (x4, r5) from hq4.out, show textsOf x4 = L4 from htx.out, show rLabel r5 = (x5, r6) from hq5.out, show rHex r6 = (x6, r7) from hq6.out, hd, show rTail (Scr.bad r7) = (x7, r8) from hq7.out]
  rw [hMe]
  have hsz := Nat.le_trans mS.size HS.out.2.size
  refine ⟨ato, L4.length, capt, none, 0, 0, ao, x5.aft.length, cap, by rw [hVB.out]; rfl, ⟨?_, ?_, ?_⟩, HS.out.2.at (mS.at hr8.out (by omega)) (by omega), (hm8.out.then mS (fun k hk e => by omega)).then HS.out.2 (fun k hk e => by omega)⟩
  ·exact RowAt.mono ((hOt.out.mod mS (fun k hk e => by omega)).mod HS.out.2 (fun k hk e => by omega)) (fun k hk => ⟨by have := hk.1; omega, by have := hk.2; omega⟩)
  ·exact BksAt.nil _ _
  ·exact RowAt.mono ((hOl.out.mod mS (fun k hk e => by omega)).mod HS.out.2 (fun k hk e => by omega)) (fun k hk => ⟨by have := hk.1; omega, by have := hk.2; omega⟩)
def AcP (w : World) (R : Nat) (T : Ac × Rd) (e : Ending) (w' : World) : Prop := ∃ (a1 : Option Addr) (n1 c1 : Nat) (a2 : Option Addr) (n2 c2 : Nat) (a3 : Option Addr) (n3 c3 : Nat) (a4 : Option Addr) (n4 c4 : Nat) (a5 : Option Addr) (n5 c5 : Nat), e = .returned (.agg (acA a1 n1 c1 a2 n2 c2 a3 n3 c3 a4 n4 c4 a5 n5 c5 T.1)) /\ AcAt (fun k => w.heap.size <= k /\ k < w'.heap.size) w' ⟨⟨.slice a1 n1 c1, .slice a2 n2 c2, .slice a3 n3 c3⟩, .slice a4 n4 c4, .slice a5 n5 c5⟩ T.1 /\ RdAt w' R T.2 /\ RdM R w w'
def zA : Array Value := acA none 0 0 none 0 0 none 0 0 none 0 0 none 0 0 Ac.zero
theorem about_any (a1 : Option Addr) (n1 c1 : Nat) (a2 : Option Addr) (n2 c2 : Nat) (a3 : Option Addr) (n3 c3 : Nat) (f : Fc) (w : World) : Calls Tryz.prog 110 #[.agg (fcA a1 n1 c1 a2 n2 c2 a3 n3 c3 f)] w fun e w' =>
  e = .returned (.agg (acA a1 n1 c1 a2 n2 c2 a3 n3 c3 none 0 0 none 0 0 (aboutF f))) /\ Ext w w' := by
 obtain ⟨V, hV⟩ : ∃ V, V = fcA a1 n1 c1 a2 n2 c2 a3 n3 c3 f := ⟨_, rfl⟩
 have hVs : Hid (V.size = 23) := hid (by rw [hV]; rfl)
 obtain ⟨VB, hVB⟩ : ∃ VB, VB = acA a1 n1 c1 a2 n2 c2 a3 n3 c3 none 0 0 none 0 0 (aboutF f) := ⟨_, rfl⟩
 have hBs : Hid (VB.size = 36) := hid (by rw [hVB]; rfl)
 have hB1 : Hid (VB.toList.all (·.oneCell') = true) := hid (by rw [hVB]; rfl)
 rw [<- hVB, <- hV]
 unfold fcA at hV
 replace hV := hid hV
 obtain ⟨U, hU⟩ : ∃ U, U = w.heap.size := ⟨_, rfl⟩
 have hx0 := ((Mod.refl (fun _ => False) w).alloc (.cells V 28)).alloc (.cells zA9 32)
 have hUV : ((w.alloc (.cells V 28)).alloc (.cells zA9 32)).heap[U]? = some (.cells V 28 (0, 0)) := by rw [alloc_get, World.size_alloc, hU, if_neg (by omega)]; exact heap_alloc_new w _
 have hUA : ((w.alloc (.cells V 28)).alloc (.cells zA9 32)).heap[U + 1]? = some (.cells zA9 32 (0, 0)) := by rw [hU]; have := heap_alloc_new (w.alloc (.cells V 28)) (.cells zA9 32); rwa [World.size_alloc] at this
 replace hUV := hid hUV
 replace hUA := hid hUA
 replace hx0 := hid hx0
 replace hVB := hid hVB
 go_enter Tryz.func110, Tryz.ntmps110
 go_upto_region 1 with fail
 try simp only [World.size_alloc]
 rw [<- hU]
 have hwU : w.heap.size <= U := Nat.le_of_eq hU.symm
 generalize ((w.alloc (.cells V 28)).alloc (.cells zA9 32)) = w0 at hUV hUA hx0 ⊢
 replace hU := hid hU
 replace hV := hV.out
 subst hV
 go_wp2_with (first | (refine wpList_loadW (by rfl) 28 _ rfl U _ _ _ _ rfl hUV.out Tryz.underlying28 rfl (by kernel_rfl) ?_) | (refine wpList_storeW rfl 32 _ _ rfl (U + 1) _ VB 32 rfl (by rw [hVB.out]; rfl) hUA.out (by rw [hBs.out]; rfl) (by rw [hBs.out]; kernel_rfl) hB1.out (fun WS HS => ?_)))
 refine bodyPost_ret (results_cell_row rfl _ _ (U + 1) _ _ _ _ rfl HS.out.1 Tryz.underlying32 rfl (by rw [hBs.out]; kernel_rfl)) rfl ?_
 exact ⟨rfl, mod_ext (B := U) hwU ((hx0.out.mono (T := fun k => U <= k) (fun _ h => h.elim)).then HS.out.2 (fun k hk e => by omega))⟩
theorem rStory (F b j : Nat) (hj : j < 6) (R : Nat) (r0 : Rd) (w : World) (hG : Gl w) (hR : 10 <= R) (h : RdAt w R r0) (hl : r0.rest.length <= 1000000) (hb : w.heap[b]? = some (.cells #[.func (.func F) #[] #[]] 122 (0, 0))) (hbR : b ≠ R)
  (hce : ∀ args w, (callFunc F args).run Tryz.prog w = .ok (.enter F args) w) (hin : ∀ W, Gl W -> RdAt W R (rNum r0).2 -> Calls Tryz.prog F #[.pointer (some ⟨R, 0, none⟩)] W (FcP W R (inF j (rNum r0).2))) :
  Calls Tryz.prog 108 #[.pointer (some ⟨R, 0, none⟩), .pointer (some ⟨b, 0, none⟩)] w (AcP w R (readF j r0)) := by
 have hRlt := h.lt
 obtain ⟨U, hU⟩ : ∃ U, U = w.heap.size := ⟨_, rfl⟩
 have hx0 := (Mod.refl (fun _ => False) w).alloc (.cells zA9 32)
 have hUc := heap_alloc_new w (.cells zA9 32)
 rw [<- hU] at hUc
 have hr0 := hid (h.ext hx0)
 have hG0 := hid (hG.ext hx0)
 have hm0 := hid (RdM.ofExt (R := R) hx0)
 have hU0 := hid hUc
 have hl0 := hid hl
 have hb0 := hid (hx0.at hb (fun h => h))
 have hs0 : U < (w.alloc (.cells zA9 32)).heap.size := by rw [World.size_alloc, hU]; omega
 obtain ⟨M, hM⟩ : ∃ M, M = readF j r0 := ⟨_, rfl⟩
 rw [<- hM]
 rw [readF_in hj] at hM
 replace hM := hid hM
 replace hin := hid hin
 clear hUc hx0 h hl hG hb
 go_enter Tryz.func108, Tryz.ntmps108
 go_wp2_with fail
 rw [<- hU]
 have hwU : w.heap.size <= U := Nat.le_of_eq hU.symm
 have hRU : R < U := by omega
 generalize (w.alloc (.cells zA9 32)) = W0 at hr0 hG0 hm0 hU0 hs0 hb0 ⊢
 replace hU := hid hU
 have k0 := hid (number_any R r0 W0 hG0.out hR hr0.out hl0.out)
 refine k0.out.mono ?_; rintro e W1 ⟨rfl, hrn, hn⟩
 have hln := rNum_le r0
 have hM2 := hM.out
 have hi2 := hin.out
 generalize hq0 : rNum r0 = q0 at hrn hln hM2 hi2 ⊢
 obtain ⟨x0, r1⟩ := q0
 simp only at hrn hln hM2 hi2 ⊢
 clear hM hin
 have hM := hid hM2
 have hin := hid hi2
 clear hM2 hi2
 have hb1 := hid (hn.at hb0.out hbR)
 clear hb0
 have hr1 := hid hrn
 have hl1 : Hid (r1.rest.length <= 1000000) := hid (Nat.le_trans hln hl0.out)
 have hG1 := hid (hG0.out.rd hR hn)
 have hm1 := hid (hm0.out.trans hn)
 have hU1 := hid (hn.at hU0.out (by omega))
 have hs1 : U < W1.heap.size := by have := hn.size; omega
 replace hq0 := hid hq0
 clear hrn hln hn k0 hr0 hl0 hm0 hU0 hG0
 have cb : W1.cell? ⟨b, 0, none⟩ = some (.func (.func F) #[] #[]) := cell_of' hb1.out 0
 go_wp2_with fail
 refine (hin.out W1 hG1.out hr1.out).mono ?_; rintro e W2 ⟨a1, n1, c1, a2, n2, c2, a3, n3, c3, rfl, hf, hr2, hn⟩
 generalize inF j r1 = q at hM hf hr2 ⊢
 obtain ⟨f, r2⟩ := q
 simp only at hM hf hr2 ⊢
 have hG2 := hid (hG1.out.rd hR hn)
 have hm2 := hid (hm1.out.trans hn)
 have hU2 := hid (hn.at hU1.out (by omega))
 have hs2 : U < W2.heap.size := by have := hn.size; omega
 have hfa := hid (hf.mono (F' := fun k => U < k /\ k < W2.heap.size) (fun k hk => ⟨by omega, hk.2⟩))
 replace hr2 := hid hr2
 clear hf hn cb hb1 hin hr1 hG1 hm1 hU1
 obtain ⟨V, hV⟩ : ∃ V, V = fcA a1 n1 c1 a2 n2 c2 a3 n3 c3 f := ⟨_, rfl⟩
 rw [<- hV]
 have hVs : Hid (V.size = 23) := hid (by rw [hV]; rfl)
 have hV1 : Hid (V.toList.all (·.oneCell') = true) := hid (by rw [hV]; rfl)
 obtain ⟨V2, hV2⟩ : ∃ V2, V2 = fcA a1 n1 c1 a2 n2 c2 a3 n3 c3 { f with st := x0 } := ⟨_, rfl⟩
 have hVV : Hid (V.setIfInBounds 3 (.int .i64 x0) = V2) := hid (by rw [hV, hV2]; rfl)
 have hV2s : Hid (V2.size = 23) := hid (by rw [hV2]; rfl)
 have hV3 : Hid (V[3]? = some (.int .i64 f.st)) := hid (by rw [hV]; rfl)
 replace hV := hid hV
 replace hV2 := hid hV2
 go_upto_region 3 with (refine wpList_storeW rfl 28 _ _ rfl W2.heap.size _ V 28 rfl rfl (heap_alloc_new W2 _) (by rw [hVs.out]; rfl) (by rw [hVs.out]; kernel_rfl) hV1.out (fun WS HS => ?_))
 obtain ⟨zs, hzs⟩ : ∃ zs, Hid (Mod (Eq W2.heap.size) (W2.alloc (.cells zs 28)) WS) := ⟨_, hid HS.out.2⟩
 have hxT : Ext W2 WS := (((Mod.alloc (Mod.refl (fun _ => False) W2) (.cells zs 28)).mono (T := fun k => W2.heap.size <= k) (fun _ h => h.elim)).then hzs.out (fun k _ e => by omega)).mono' (fun k h1 h2 => by omega)
 have hTc := HS.out.1
 obtain ⟨T, hTe⟩ : ∃ T, T = W2.heap.size := ⟨_, rfl⟩
 rw [<- hTe] at hTc ⊢
 have hUT : U < T := by omega
 have hfT := hid ((hfa.out.ext hxT).mono (F' := fun k => U < k /\ k < T) (fun k hk => ⟨hk.1, by omega⟩))
 have hr3 := hid (hr2.out.ext hxT)
 have hm3 := hid (hm2.out.then hxT (fun k _ h => h.elim))
 have hU3 := hid (hxT.at hU2.out (fun h => h))
 have pT := put_at' hTc 3 (.int .i64 x0)
 rw [hVV.out] at pT
 have mS : Mod (fun k => k = T) WS (WS.setCell ⟨T, 3, none⟩ (.int .i64 x0)) := (Mod.refl (fun k => k = T) WS).setCell (a := ⟨T, 3, none⟩) (fun _ => rfl) (.int .i64 x0)
 have ct : WS.cell? ⟨T, 3, none⟩ = some (.int .i64 f.st) := (cell_of' hTc 3).trans hV3.out
 have zt := free_of' hTc
 have hfT4 := hid (hfT.out.mod mS (fun k hk e => by omega))
 have hr4 := hid (hr3.out.mod' mS (by omega))
 have hm4 := hid (hm3.out.then mS (fun k hk e => by omega))
 have hU4 := hid (mS.at hU3.out (by omega))
 replace pT := hid pT
 replace hTc := hid hTc
 replace hTe := hid hTe
 clear hzs hxT HS mS hr2 hm2 hU2 hfa hfT hr3 hm3 hU3
 go_upto_region 4 with fail
 clear ct zt
 generalize WS.setCell ⟨T, 3, none⟩ (.int .i64 x0) = W4 at pT hfT4 hr4 hm4 hU4 ⊢
 have hab := about_any a1 n1 c1 a2 n2 c2 a3 n3 c3 { f with st := x0 } W4
 rw [<- hV2.out] at hab
 replace hab := hid hab
 go_wp2_with (refine wpList_loadW (by rfl) 28 _ rfl T _ _ _ _ rfl pT.out Tryz.underlying28 rfl (by rw [hV2s.out]; kernel_rfl) ?_)
 refine hab.out.mono ?_; rintro e W5 ⟨rfl, hx5⟩
 have hsz4 : T < W4.heap.size := lt_of_at pT.out
 have hf5 := hid ((hfT4.out.ext hx5))
 have hr5 := hid (hr4.out.ext hx5)
 have hm5 := hid (hm4.out.then hx5 (fun k _ h => h.elim))
 have hU5 := hid (hx5.at hU4.out (fun h => h))
 have hsz5 : T < W5.heap.size := Nat.lt_of_lt_of_le hsz4 hx5.size
 obtain ⟨VA, hVA⟩ : ∃ VA, VA = acA a1 n1 c1 a2 n2 c2 a3 n3 c3 none 0 0 none 0 0 (aboutF { f with st := x0 }) := ⟨_, rfl⟩
 rw [<- hVA]
 have hVAs : Hid (VA.size = 36) := hid (by rw [hVA]; rfl)
 have hVA1 : Hid (VA.toList.all (·.oneCell') = true) := hid (by rw [hVA]; rfl)
 replace hVA := hid hVA
 clear hab hx5 hfT4 hr4 hm4 hU4 pT
 go_wp2_with (refine wpList_storeW rfl 32 _ _ rfl U _ VA 32 rfl rfl hU5.out (by rw [hVAs.out]; rfl) (by rw [hVAs.out]; kernel_rfl) hVA1.out (fun WE HE => ?_))
 refine bodyPost_ret (results_cell_row rfl _ _ U _ _ _ _ rfl HE.out.1 Tryz.underlying32 rfl (by rw [hVAs.out]; kernel_rfl)) rfl ?_
 rw [show M = (aboutF { f with st := x0 }, r2) from hM.out]
 have hsE := HE.out.2.size
 refine ⟨a1, n1, c1, a2, n2, c2, a3, n3, c3, none, 0, 0, none, 0, 0, by rw [hVA.out], ⟨?_, RowAt.nil _ _ _, RowAt.nil _ _ _⟩, HE.out.2.at hr5.out (by omega), hm5.out.then HE.out.2 (fun k hk e => by omega)⟩
 have h9 := (hf5.out.mod HE.out.2 (fun k hk e => by omega)).mono (F' := fun k => w.heap.size <= k /\ k < WE.heap.size) (fun k hk => ⟨by omega, by omega⟩)
 exact ⟨h9.tp, h9.bl, h9.af⟩
end Go.Proofs.YtpaefpnkemkikaaGreatDoor
