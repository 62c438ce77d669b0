import Derived.Test.YtpgniljgaknlpaaGreatDoorK13
import Derived.Recover
/-
  'Parse'.
-/
namespace Go.Proofs.YtpgniljgaknlpaaGreatDoor
open Go.RowKit Cdk Tpl

theorem part_num {c : UInt8} {r : Bs} {k : Nat} {w : Bs} {n : Nat} {t : Bs} (h : Tpl.part c r = some (k, w, n, t)) (hk : k = 3) : numOk w := by
  subst hk
  unfold Tpl.part at h
  by_cases h1 : isL c = true
  · rw [if_pos h1] at h
    simp only at h
    split at h
    · cases h
    · simp at h
  · rw [if_neg h1] at h
    by_cases h2 : isD c = true
    · rw [if_pos h2] at h
      simp only at h
      split at h
      · cases h
      · rename_i h3
        simp only [Option.some.injEq, Prod.mk.injEq, true_and] at h
        obtain ⟨rfl, -, -⟩ := h
        simp only [Bool.or_eq_true, Bool.and_eq_true, decide_eq_true_eq, not_or] at h3
        refine ⟨by simp, by omega, fun d hd => ?_⟩
        simp only [List.mem_cons] at hd
        rcases hd with rfl | hd
        · exact h2
        · exact List.all_eq_true.1 List.all_takeWhile d hd
    · rw [if_neg h2] at h
      by_cases h3 : c.toNat = 34
      · rw [if_pos h3] at h
        simp only at h
        split at h
        · cases h
        · split at h
          · simp at h
          · cases h
      · rw [if_neg h3] at h
        split at h
        · simp at h
        · split at h
          · simp at h
          · cases h

theorem scan_num : ∀ (f : Nat) (s : Bs) (off : Nat) (tag : Option Nat) (t : Tk), t ∈ Tpl.scan f s off tag → t.kind = 3 → numOk t.text
  | 0, _, _, _, t, ht, _ => by simp [Tpl.scan] at ht
  | _ + 1, [], _, none, t, ht, _ => by simp [Tpl.scan] at ht
  | _ + 1, [], _, some tag, t, ht, hk => by
    simp only [Tpl.scan, List.mem_singleton] at ht
    subst ht; cases hk
  | f + 1, c :: r, off, none, t, ht, hk => by
    cases hb : opensB (c :: r) with
    | true =>
      rw [scan_open hb] at ht
      simp only [List.mem_cons] at ht
      rcases ht with rfl | ht
      · cases hk
      · exact scan_num f _ _ _ t ht hk
    | false =>
      rw [scan_lit hb] at ht
      split at ht
      · simp only [List.mem_cons] at ht
        rcases ht with rfl | ht
        · cases hk
        · exact scan_num f _ _ _ t ht hk
      · simp only [List.mem_singleton] at ht
        subst ht; cases hk
  | f + 1, c :: r, off, some tag, t, ht, hk => by
    rw [Tpl.scan.eq_def] at ht
    simp only at ht
    split at ht
    · exact scan_num f _ _ _ t ht hk
    · cases hp : Tpl.part c r with
      | none =>
        rw [hp] at ht
        simp only [List.mem_singleton] at ht
        subst ht; cases hk
      | some x =>
        obtain ⟨k, w, n, u⟩ := x
        rw [hp] at ht
        simp only [List.mem_cons] at ht
        rcases ht with rfl | ht
        · exact part_num hp hk
        · exact scan_num f _ _ _ t ht hk

theorem tokens_num {s : Bs} {ts : List Tk} (h : tokens s = .ok ts) : NumOk ts ∧ ts.length ≤ s.length + 1 ∧ s.length ≤ 1000 := by
  unfold tokens at h
  split at h
  · cases h
  · simp only at h
    split at h
    · cases h
    · injection h with h
      subst h
      exact ⟨fun t ht hk => scan_num _ _ _ _ t ht hk, by have := scan_len (s.length + 1) s 0 none; omega, by omega⟩

set_option maxRecDepth 100000 in
theorem catch_panicking (p q r : Nat) (x y z : Value) (a : Nat) (older : List PanicEntry) (w : World) (hp : w.heap[p]? = some (.cells #[x] 26 (0, 0))) (hq : w.heap[q]? = some (.cells #[y] 3 (0, 0))) (hr : w.heap[r]? = some (.cells #[z] 27 (0, 0))) (hpq : p ≠ q) (hpr : p ≠ r) (hqr : q ≠ r) :
    CallsD Tryz.prog 22 #[.pointer (some ⟨p, 0, none⟩), .pointer (some ⟨q, 0, none⟩), .pointer (some ⟨r, 0, none⟩)] (.panicking (misE a :: older)) w fun e u' w' =>
      e = .returned (.tuple #[]) ∧ u' = .panicking ({ v := .iface 49 (.int .i64 a), recovered := true } :: older) ∧ w' = ((w.setCell ⟨p, 0, none⟩ (.slice none 0 0)).setCell ⟨q, 0, none⟩ (.int .i64 a)).setCell ⟨r, 0, none⟩ (.int .i64 100) := by
  have c0 : w.cell? ⟨p, 0, none⟩ = some x := cell_of' hp 0
  have c1 : (w.setCell ⟨p, 0, none⟩ (.slice none 0 0)).cell? ⟨q, 0, none⟩ = some y := cell_of' ((put_ne w 0 _ (Ne.symm hpq)).trans hq) 0
  have c2 : ((w.setCell ⟨p, 0, none⟩ (.slice none 0 0)).setCell ⟨q, 0, none⟩ (.int .i64 a)).cell? ⟨r, 0, none⟩ = some z := cell_of' ((put_ne _ 0 _ (Ne.symm hqr)).trans ((put_ne w 0 _ (Ne.symm hpr)).trans hr)) 0
  have z0 := free_of' hp 0
  have z1 := free_of' ((put_ne w 0 (.slice none 0 0) (Ne.symm hpq)).trans hq) 0
  have z2 := free_of' ((put_ne _ 0 (.int .i64 a) (Ne.symm hqr)).trans ((put_ne w 0 (.slice none 0 0) (Ne.symm hpr)).trans hr)) 0
  have hta : ∀ (w : World), (Instr.typeAssert (.iface 49 (.int .i64 a)) 20 49 true).run Tryz.prog w = .ok (.tuple #[.int .i64 a, .bool true]) w := fun _ => by kernel_rfl
  unfold misE
  refine callsD_of_wpS Tryz.func22 rfl fun c₀ cs hu => ?_
  apply wpS_seq
  apply wpS_region
  simp [wpOpsS, go_sem, recoverD, hu, Tryz.ntmps22, Exit.thenS]
  refine wpS_of_wp ?_
  simp only [Array.replicate_succ, Array.replicate_zero, List.push_toArray, List.setIfInBounds_toArray, List.set_cons_zero, List.set_cons_succ, List.append_toArray, List.nil_append, List.cons_append]
  go_wp2_with fail
  simp [bodyPostS, results, Tryz.results22]

set_option maxRecDepth 100000 in
theorem catch_idle (p q r : Nat) (w : World) :
    CallsD Tryz.prog 22 #[.pointer (some ⟨p, 0, none⟩), .pointer (some ⟨q, 0, none⟩), .pointer (some ⟨r, 0, none⟩)] .returning w fun e u' w' => e = .returned (.tuple #[]) ∧ u' = .returning ∧ w' = w := by
  refine callsD_of_wpS Tryz.func22 rfl fun c₀ cs hu => ?_
  apply wpS_seq
  apply wpS_region
  simp [wpOpsS, go_sem, recoverD, hu, Tryz.ntmps22, Exit.thenS]
  refine wpS_of_wp ?_
  simp only [Array.replicate_succ, Array.replicate_zero, List.push_toArray, List.setIfInBounds_toArray, List.set_cons_zero, List.set_cons_succ, List.append_toArray, List.nil_append, List.cons_append]
  go_wp2_with fail
  cases c₀
  simp_all [bodyPostS, results, Tryz.results22]

/-- What 'Parse' answers. -/
def ParseP (w : World) (s : Bs) (e : Ending) (w' : World) : Prop := Ext w w' ∧ (match parse s with
  | .error (a, k) => e = .returned (.tuple #[.slice none 0 0, .int .i64 (a : Nat), .int .i64 k])
  | .ok l => ∃ v, e = .returned (.tuple #[v, .int .i64 0, .int .i64 0]) ∧ NodesAt (Since w w') w' v l)

set_option maxRecDepth 100000 in
set_option maxHeartbeats 4000000 in
theorem Parse_any (s : ByteArray) (w : World) : Calls Tryz.prog 11 #[.string s] w (ParseP w s.data.toList) := by
  obtain ⟨post, hpost⟩ : ∃ post, post = ParseP w s.data.toList := ⟨_, rfl⟩
  rw [← hpost]
  replace hpost := hid hpost
  have hmf : ∀ (fn : Fn) (first cap : Array Value) (w : World), (Instr.makeFunc fn first cap).run Tryz.prog w = .ok (.func fn first cap) w := fun _ _ _ _ => rfl
  go_enter_defers Tryz.func11, Tryz.ntmps11
  go_wp2_with fail
  obtain ⟨R, hR⟩ : ∃ R, R = w.heap.size := ⟨_, rfl⟩
  have hg3 : ∀ k, (((w.alloc (.cells #[.slice none 0 0] 26)).alloc (.cells #[.int .i64 0] 3)).alloc (.cells #[.int .i64 0] 27)).heap[k]? =
      if k = R + 1 + 1 then some (.cells #[.int .i64 0] 27 (0, 0)) else if k = R + 1 then some (.cells #[.int .i64 0] 3 (0, 0)) else if k = R then some (.cells #[.slice none 0 0] 26 (0, 0)) else w.heap[k]? := by
    intro k
    simp only [alloc_get, World.size_alloc, ← hR]
  have hx3 := (((Mod.refl (fun _ => False) w).alloc (.cells #[.slice none 0 0] 26)).alloc (.cells #[.int .i64 0] 3)).alloc (.cells #[.int .i64 0] 27)
  have hs3 : (((w.alloc (.cells #[.slice none 0 0] 26)).alloc (.cells #[.int .i64 0] 3)).alloc (.cells #[.int .i64 0] 27)).heap.size = R + 3 := by simp only [World.size_alloc, ← hR]
  rw [← hR]
  generalize (((w.alloc (.cells #[.slice none 0 0] 26)).alloc (.cells #[.int .i64 0] 3)).alloc (.cells #[.int .i64 0] 27)) = w3 at hg3 hx3 hs3 ⊢
  have k0 := hg3 R
  have k1 := hg3 (R + 1)
  have k2 := hg3 (R + 1 + 1)
  rw [if_neg (by omega), if_neg (by omega), if_pos rfl] at k0
  rw [if_neg (by omega), if_pos rfl] at k1
  rw [if_pos rfl] at k2
  clear hg3
  replace hR := hid hR
  refine (Tokens_any s w3).mono ?_
  rintro e w4 ⟨hx4, h4⟩
  have hm4 := hid (hx3.trans hx4)
  have hs4 : R + 3 ≤ w4.heap.size := by have := hx4.size; omega
  have k0 := hx4.at k0 (fun h => h)
  have k1 := hx4.at k1 (fun h => h)
  have k2 := hx4.at k2 (fun h => h)
  clear hx3 hx4
  have c0 : w4.cell? ⟨R, 0, none⟩ = some (.slice none 0 0) := cell_of' k0 0
  have c1 : w4.cell? ⟨R + 1, 0, none⟩ = some (.int .i64 0) := cell_of' k1 0
  have c2 : w4.cell? ⟨R + 1 + 1, 0, none⟩ = some (.int .i64 0) := cell_of' k2 0
  have z0 := free_of' k0
  have z1 := free_of' k1
  have z2 := free_of' k2
  replace k0 := hid k0
  replace k1 := hid k1
  replace k2 := hid k2
  cases ht : tokens s.data.toList with
  | error a =>
    rw [ht] at h4
    replace ht := hid ht
    simp only at h4
    subst h4
    go_wp2_with fail
    have k0 := k0.out
    have k1 := put1 (v := .int .i64 (a : Nat)) k1.out
    have k2 := put1 (v := .int .i64 90) ((put_ne w4 (b := R + 1) 0 (.int .i64 (a : Nat)) (by omega)).trans k2.out)
    have k0 := (put_ne _ (b := R + 1 + 1) 0 (.int .i64 90) (by omega)).trans ((put_ne w4 (b := R + 1) 0 (.int .i64 (a : Nat)) (by omega)).trans k0)
    have k1 := (put_ne _ (b := R + 1 + 1) 0 (.int .i64 90) (by omega)).trans k1
    have hm5 := hid ((hm4.out.setCell (a := ⟨R + 1, 0, none⟩) (fun e => by have := hR.out; simp only at e; omega) (.int .i64 (a : Nat))).setCell (a := ⟨R + 1 + 1, 0, none⟩) (fun e => by have := hR.out; simp only at e; omega) (.int .i64 90))
    generalize ((w4.setCell ⟨R + 1, 0, none⟩ (.int .i64 (a : Nat))).setCell ⟨R + 1 + 1, 0, none⟩ (.int .i64 90)) = w5 at k0 k1 k2 hm5 ⊢
    clear c0 c1 c2 z0 z1 z2
    refine wp_region_sched (fun w' => w'.cell? ⟨R + 1, 0, none⟩ = some (.int .i64 (a : Nat)) ∧ w'.cell? ⟨R + 1 + 1, 0, none⟩ = some (.int .i64 90)) [(0, true), (1, true), (2, false), (3, false), (4, false)] (by as_aux_lemma => kernel_rfl) (by as_aux_lemma => kernel_rfl) (by as_aux_lemma => kernel_rfl) (by decide) ⟨cell_of' (((Mod.drew0 (fun _ => False) _).at k1 (fun h => h))) 0, cell_of' (((Mod.drew0 (fun _ => False) _).at k2 (fun h => h))) 0⟩ ?_
    have hm5 := hid hm5.out.drew
    have k0 := (Mod.drew0 (fun _ => False) _).at k0 (fun h => h)
    have k1 := (Mod.drew0 (fun _ => False) _).at k1 (fun h => h)
    have k2 := (Mod.drew0 (fun _ => False) _).at k2 (fun h => h)
    generalize w5.drew = w6 at hm5 k0 k1 k2 ⊢
    simp only [schedOps, List.map_cons, List.map_nil, List.getD_cons_zero, List.getD_cons_succ]
    repeat (first | (refine wpS_q (by rfl) ?_ (fun w' hC => ?_) ?_; rotate_left; (go_simp; try with_reducible rfl); try simp only [Act.put, List.setIfInBounds_toArray, List.set_cons_zero, List.set_cons_succ]))
    have c0 : w6.cell? ⟨R, 0, none⟩ = some (.slice none 0 0) := cell_of' k0 0
    have z0 := free_of' k0
    refine wpS_c (by rfl) (fun K hK => ?_)
    go_simp
    clear c0 z0
    have j0 := put1 (v := .slice none 0 0) k0
    have j1 := (put_ne w6 (b := R) 0 (.slice none 0 0) (by omega)).trans k1
    have j2 := (put_ne w6 (b := R) 0 (.slice none 0 0) (by omega)).trans k2
    have hm6 := hid (hm5.out.setCell (a := ⟨R, 0, none⟩) (fun e => by have := hR.out; simp only at e; omega) (.slice none 0 0))
    refine hK.out _ _ ⟨cell_of' j1 0, cell_of' j2 0⟩ ?_
    clear hK K k0 k1 k2
    generalize (w6.setCell ⟨R, 0, none⟩ (.slice none 0 0)) = w7 at hm6 j0 j1 j2 ⊢
    try simp only [Act.put, List.setIfInBounds_toArray, List.set_cons_zero, List.set_cons_succ]
    have c1 : w7.cell? ⟨R + 1, 0, none⟩ = some (.int .i64 (a : Nat)) := cell_of' j1 0
    have z1 := free_of' j1
    refine wpS_c (by rfl) (fun K hK => ?_)
    go_simp
    clear c1 z1
    have k1 := put1 (v := .int .i64 (a : Nat)) j1
    have k0 := (put_ne w7 (b := R + 1) 0 (.int .i64 (a : Nat)) (by omega)).trans j0
    have k2 := (put_ne w7 (b := R + 1) 0 (.int .i64 (a : Nat)) (by omega)).trans j2
    have hm7 := hid (hm6.out.setCell (a := ⟨R + 1, 0, none⟩) (fun e => by have := hR.out; simp only at e; omega) (.int .i64 (a : Nat)))
    refine hK.out _ _ ⟨cell_of' k1 0, cell_of' k2 0⟩ ?_
    clear hK K j0 j1 j2
    generalize (w7.setCell ⟨R + 1, 0, none⟩ (.int .i64 (a : Nat))) = w8 at hm7 k0 k1 k2 ⊢
    try simp only [Act.put, List.setIfInBounds_toArray, List.set_cons_zero, List.set_cons_succ]
    have c2 : w8.cell? ⟨R + 1 + 1, 0, none⟩ = some (.int .i64 90) := cell_of' k2 0
    have z2 := free_of' k2
    refine wpS_c (by rfl) (fun K hK => ?_)
    go_simp
    clear c2 z2
    have j2 := put1 (v := .int .i64 90) k2
    have j0 := (put_ne w8 (b := R + 1 + 1) 0 (.int .i64 90) (by omega)).trans k0
    have j1 := (put_ne w8 (b := R + 1 + 1) 0 (.int .i64 90) (by omega)).trans k1
    have hm8 := hid (hm7.out.setCell (a := ⟨R + 1 + 1, 0, none⟩) (fun e => by have := hR.out; simp only at e; omega) (.int .i64 90))
    refine hK.out _ _ ⟨cell_of' j1 0, cell_of' j2 0⟩ ?_
    clear hK K k0 k1 k2
    generalize (w8.setCell ⟨R + 1 + 1, 0, none⟩ (.int .i64 90)) = w9 at hm8 j0 j1 j2 ⊢
    try simp only [Act.put, List.setIfInBounds_toArray, List.set_cons_zero, List.set_cons_succ]
    refine wpS_nil ?_
    go_wp2_with fail
    refine ⟨_, ret_cells3 rfl _ _ ⟨R, 0, none⟩ ⟨R + 1, 0, none⟩ ⟨R + 1 + 1, 0, none⟩ (.slice none 0 0) (.int .i64 (a : Nat)) (.int .i64 90) rfl rfl rfl Tryz.underlying26 Tryz.underlying3 Tryz.underlying27 rfl rfl rfl
      (cell_of' j0 0) (cell_of' j1 0) (cell_of' j2 0), ?_⟩
    rw [hpost.out]
    refine ⟨hm8.out, ?_⟩
    unfold parse
    rw [ht.out]
  | ok ts =>
    rw [ht] at h4
    obtain ⟨hnum, hlen, hsz⟩ := tokens_num ht
    replace ht := hid ht
    obtain ⟨v, rfl, hown⟩ := h4
    obtain ⟨ao, cap, rfl, hr, hb⟩ := hown.row
    have hbl : ∀ b off, ao = some ⟨b, off, none⟩ → R + 3 ≤ b ∧ b < w4.heap.size := fun b off e => by have := hown.block b (hb b off e); omega
    replace hbl := hid hbl
    replace hr := hid hr
    clear hb hown
    replace hnum := hid hnum
    go_wp2_with fail
    clear c0 c1 c2 z0 z1 z2
    have hmA := (((Mod.refl (fun j => j = R + 1 ∨ j = R + 1 + 1) w4).setCell (a := ⟨R + 1, 0, none⟩) (fun _ => .inl rfl) (.int .i64 0)).setCell (a := ⟨R + 1 + 1, 0, none⟩) (fun _ => .inr rfl) (.int .i64 0))
    have k1 := put1 (v := .int .i64 0) k1.out
    have k2 := put1 (v := .int .i64 0) ((put_ne w4 (b := R + 1) 0 (.int .i64 0) (by omega)).trans k2.out)
    have k0 := (put_ne _ (b := R + 1 + 1) 0 (.int .i64 0) (by omega)).trans ((put_ne w4 (b := R + 1) 0 (.int .i64 0) (by omega)).trans k0.out)
    have k1 := (put_ne _ (b := R + 1 + 1) 0 (.int .i64 0) (by omega)).trans k1
    have hsA : ((w4.setCell ⟨R + 1, 0, none⟩ (.int .i64 0)).setCell ⟨R + 1 + 1, 0, none⟩ (.int .i64 0)).heap.size = w4.heap.size := by simp [World.setCell]
    generalize ((w4.setCell ⟨R + 1, 0, none⟩ (.int .i64 0)).setCell ⟨R + 1 + 1, 0, none⟩ (.int .i64 0)) = w5 at hmA k0 k1 k2 hsA ⊢
    have hxB := Mod.alloc (Mod.refl (fun _ => False) w5) (.cells #[.slice ao ts.length cap, .int .i64 0, .int .i64 s.size] 52)
    have hQ := heap_alloc_new w5 (.cells #[.slice ao ts.length cap, .int .i64 0, .int .i64 s.size] 52)
    have hsB : (w5.alloc (.cells #[.slice ao ts.length cap, .int .i64 0, .int .i64 s.size] 52)).heap.size = w5.heap.size + 1 := World.size_alloc _ _
    rw [← hsA]
    generalize hQe : w5.heap.size = Q at hQ hsB hsA ⊢
    generalize (w5.alloc (.cells #[.slice ao ts.length cap, .int .i64 0, .int .i64 s.size] 52)) = w6 at hxB hQ hsB ⊢
    have hrd : Rd Q ao cap ts s.size 0 w6 := ⟨hQ, (hr.out.mod hmA (fun b off e e' => by have := hbl.out b off e; omega)).ext hxB, fun b off e => by have := hbl.out b off e; omega, Nat.zero_le _, by have : s.data.toList.length = s.size := rfl; omega, hsz⟩
    have hm6 := hid ((hm4.out.then hmA (fun j hj e => by have := hR.out; omega)).then hxB (fun _ _ h => h.elim))
    have k0 := hxB.at k0 (fun h => h)
    have k1 := hxB.at k1 (fun h => h)
    have k2 := hxB.at k2 (fun h => h)
    replace hQe := hid hQe
    refine (list_any (3 * ts.length + 3) Q ao cap ts s.size 0 0 (.slice none 0 0) [] w6 hrd hnum.out (by omega) (StrsAt.nil _ _) (by decide) (by omega)).mono ?_
    rw [List.drop_zero]
    rintro e w7 (⟨l, wd', k', v, hl, hkk, rfl, hnv, hrd7, hm7⟩ | ⟨a, ha, rfl, hm7⟩)
    · obtain ⟨aov, nv, capv, rfl⟩ := hnv.slice
      have k0 := hm7.at k0 (by omega)
      have k1 := hm7.at k1 (by omega)
      have k2 := hm7.at k2 (by omega)
      have c0 : w7.cell? ⟨R, 0, none⟩ = some (.slice none 0 0) := cell_of' k0 0
      have c1 : w7.cell? ⟨R + 1, 0, none⟩ = some (.int .i64 0) := cell_of' k1 0
      have c2 : w7.cell? ⟨R + 1 + 1, 0, none⟩ = some (.int .i64 0) := cell_of' k2 0
      have z0 := free_of' k0
      have z1 := free_of' k1
      have z2 := free_of' k2
      replace k0 := hid k0
      replace k1 := hid k1
      replace k2 := hid k2
      replace hl := hid hl
      replace hnv := hid hnv
      replace hrd7 := hid hrd7
      replace hm7 := hid hm7
      replace hsB := hid hsB
      replace hsA := hid hsA
      go_wp2_with fail
      clear c0 c1 c2 z0 z1 z2
      have q0 := put1 (v := .slice aov nv capv) (put1 (v := .slice aov nv capv) k0.out)
      have q1 := (put_ne _ (b := R) 0 (.slice aov nv capv) (by omega)).trans ((put_ne w7 (b := R) 0 (.slice aov nv capv) (by omega)).trans k1.out)
      have q2 := (put_ne _ (b := R) 0 (.slice aov nv capv) (by omega)).trans ((put_ne w7 (b := R) 0 (.slice aov nv capv) (by omega)).trans k2.out)
      have q1 := put1 (v := .int .i64 0) q1
      have q0 := (put_ne _ (b := R + 1) 0 (.int .i64 0) (by omega)).trans q0
      have q2 := (put_ne _ (b := R + 1) 0 (.int .i64 0) (by omega)).trans q2
      have q2 := put1 (v := .int .i64 0) q2
      have q0 := (put_ne _ (b := R + 1 + 1) 0 (.int .i64 0) (by omega)).trans q0
      have q1 := (put_ne _ (b := R + 1 + 1) 0 (.int .i64 0) (by omega)).trans q1
      have hm8 := ((((Mod.refl (fun j => R ≤ j ∧ j < R + 3) w7).setCell (a := ⟨R, 0, none⟩) (fun _ => ⟨by simp, by simp⟩) (.slice aov nv capv)).setCell (a := ⟨R, 0, none⟩) (fun _ => ⟨by simp, by simp⟩) (.slice aov nv capv)).setCell (a := ⟨R + 1, 0, none⟩) (fun _ => ⟨by simp, by simp⟩) (.int .i64 0)).setCell (a := ⟨R + 1 + 1, 0, none⟩) (fun _ => ⟨by simp; omega, by simp⟩) (.int .i64 0)
      generalize ((((w7.setCell ⟨R, 0, none⟩ (.slice aov nv capv)).setCell ⟨R, 0, none⟩ (.slice aov nv capv)).setCell ⟨R + 1, 0, none⟩ (.int .i64 0)).setCell ⟨R + 1 + 1, 0, none⟩ (.int .i64 0)) = w8 at q0 q1 q2 hm8 ⊢
      refine leaves_cons (f := 22) (args := #[.pointer (some ⟨R, 0, none⟩), .pointer (some ⟨R + 1, 0, none⟩), .pointer (some ⟨R + 1 + 1, 0, none⟩)]) (by simp) (by simp [go_sem]) ?_
      refine (catch_idle R (R + 1) (R + 1 + 1) _).mono ?_
      rintro e u' w'' ⟨rfl, rfl, rfl⟩
      refine ⟨_, ret_cells3 rfl _ _ ⟨R, 0, none⟩ ⟨R + 1, 0, none⟩ ⟨R + 1 + 1, 0, none⟩ (.slice aov nv capv) (.int .i64 0) (.int .i64 0) rfl rfl rfl Tryz.underlying26 Tryz.underlying3 Tryz.underlying27 rfl rfl rfl
        (cell_of' q0 0) (cell_of' q1 0) (cell_of' q2 0), ?_⟩
      rw [hpost.out]
      have hRR := hR.out
      have hQQ := hQe.out
      have h11 := hsA.out
      have h12 := hsB.out
      have h13 := hm7.out.size
      have h14 := hm8.size
      refine ⟨((hm6.out.then hm7.out (fun j hj e => by omega)).then hm8 (fun j hj e => by omega)), ?_⟩
      unfold parse
      rw [ht.out]
      simp only [show s.data.toList.length = s.size from rfl, hl.out]
      exact ⟨_, rfl, (hnv.out.mod hm8 (fun j hj e => by have := hj.1; omega)).mono (fun j hj => ⟨by have := hj.1; omega, by have := hj.2; omega⟩)⟩
    · go_wp2_with fail
      have k0 := hm7.at k0 (by omega)
      have k1 := hm7.at k1 (by omega)
      have k2 := hm7.at k2 (by omega)
      refine leaves_cons (f := 22) (args := #[.pointer (some ⟨R, 0, none⟩), .pointer (some ⟨R + 1, 0, none⟩), .pointer (some ⟨R + 1 + 1, 0, none⟩)]) (by simp) (by simp [go_sem]) ?_
      refine (catch_panicking R (R + 1) (R + 1 + 1) _ _ _ a [] _ k0 k1 k2 (by omega) (by omega) (by omega)).mono ?_
      rintro e u' w'' ⟨rfl, rfl, rfl⟩
      have q0 := put1 (v := .slice none 0 0) k0
      have q1 := put1 (v := .int .i64 (a : Nat)) ((put_ne w7 (b := R) 0 (.slice none 0 0) (by omega)).trans k1)
      have q0 := (put_ne _ (b := R + 1) 0 (.int .i64 (a : Nat)) (by omega)).trans q0
      have q2 := put1 (v := .int .i64 100) ((put_ne _ (b := R + 1) 0 (.int .i64 (a : Nat)) (by omega)).trans ((put_ne w7 (b := R) 0 (.slice none 0 0) (by omega)).trans k2))
      have q0 := (put_ne _ (b := R + 1 + 1) 0 (.int .i64 100) (by omega)).trans q0
      have q1 := (put_ne _ (b := R + 1 + 1) 0 (.int .i64 100) (by omega)).trans q1
      have hm8 := (((Mod.refl (fun j => R ≤ j ∧ j < R + 3) w7).setCell (a := ⟨R, 0, none⟩) (fun _ => ⟨by simp, by simp⟩) (.slice none 0 0)).setCell (a := ⟨R + 1, 0, none⟩) (fun _ => ⟨by simp, by simp⟩) (.int .i64 (a : Nat))).setCell (a := ⟨R + 1 + 1, 0, none⟩) (fun _ => ⟨by simp; omega, by simp⟩) (.int .i64 100)
      generalize (((w7.setCell ⟨R, 0, none⟩ (.slice none 0 0)).setCell ⟨R + 1, 0, none⟩ (.int .i64 (a : Nat))).setCell ⟨R + 1 + 1, 0, none⟩ (.int .i64 100)) = w8 at q0 q1 q2 hm8 ⊢
      refine ⟨_, ret_cells3 rfl _ _ ⟨R, 0, none⟩ ⟨R + 1, 0, none⟩ ⟨R + 1 + 1, 0, none⟩ (.slice none 0 0) (.int .i64 (a : Nat)) (.int .i64 100) rfl rfl rfl Tryz.underlying26 Tryz.underlying3 Tryz.underlying27 rfl rfl rfl
        (cell_of' q0 0) (cell_of' q1 0) (cell_of' q2 0), ?_⟩
      rw [hpost.out]
      have hRR := hR.out
      have hQQ := hQe.out
      refine ⟨((hm6.out.then hm7 (fun j hj e => by omega)).then hm8 (fun j hj e => by omega)), ?_⟩
      unfold parse
      rw [ht.out]
      simp only [show s.data.toList.length = s.size from rfl, ha]
end Go.Proofs.YtpgniljgaknlpaaGreatDoor
