import Derived.Test.YtpgniljgaknlpaaGreatDoorK21
import Derived.Lib.BufferRead
/-
  'Print'.
-/
namespace Go.Proofs.YtpgniljgaknlpaaGreatDoor
open Go.RowKit Cdk Tpl

theorem run_text2 {w : World} {base : Nat} {v : Value} {l : Bs} (h : Cdk.Own w base 5 1 byteC v l) : (convert 64 9 v).run Tryz.prog w = .ok (.string ⟨l.toArray⟩) w := by
  cases l with
  | cons c r => exact run_text h (by simp)
  | nil =>
    obtain ⟨ao, cap, rfl, hr, -⟩ := h.row
    cases ao with
    | none => exact Lib.run_convert_nil_bytes w _ _ _ _ Tryz.underlying64 Tryz.underlying5 Tryz.underlying9
    | some a => exact run_convert_bytes_back w _ _ _ a cap [] Tryz.underlying64 Tryz.underlying5 Tryz.underlying9 (fun j hj => by simp at hj)

set_option maxRecDepth 100000 in
theorem pcatch_panicking (p q : Nat) (x y : Value) (older : List PanicEntry) (w : World) (hp : w.heap[p]? = some (.cells #[x] 9 (0, 0))) (hq : w.heap[q]? = some (.cells #[y] 27 (0, 0))) (hpq : p ≠ q) :
    CallsD Tryz.prog 28 #[.pointer (some ⟨p, 0, none⟩), .pointer (some ⟨q, 0, none⟩)] (.panicking (invE :: older)) w fun e u' w' =>
      e = .returned (.tuple #[]) ∧ u' = .panicking ({ v := .iface 102 (.agg #[]), recovered := true } :: older) ∧ w' = (w.setCell ⟨p, 0, none⟩ (.string ⟨#[]⟩)).setCell ⟨q, 0, none⟩ (.int .i64 100) := by
  have c0 : w.cell? ⟨p, 0, none⟩ = some x := cell_of' hp 0
  have c1 : (w.setCell ⟨p, 0, none⟩ (.string ⟨#[]⟩)).cell? ⟨q, 0, none⟩ = some y := cell_of' ((put_ne w 0 _ (Ne.symm hpq)).trans hq) 0
  have z0 := free_of' hp 0
  have z1 := free_of' ((put_ne w 0 (.string ⟨#[]⟩) (Ne.symm hpq)).trans hq) 0
  unfold invE
  refine callsD_of_wpS Tryz.func28 rfl fun c₀ cs hu => ?_
  apply wpS_seq
  apply wpS_region
  simp [wpOpsS, go_sem, recoverD, hu, Tryz.ntmps28, Exit.thenS]
  refine wpS_of_wp ?_
  simp only [Array.replicate_succ, Array.replicate_zero, List.push_toArray, List.setIfInBounds_toArray, List.set_cons_zero, List.set_cons_succ, List.append_toArray, List.nil_append, List.cons_append]
  go_wp2_with fail
  simp [bodyPostS, results, Tryz.results28]

set_option maxRecDepth 100000 in
theorem pcatch_idle (p q : Nat) (w : World) :
    CallsD Tryz.prog 28 #[.pointer (some ⟨p, 0, none⟩), .pointer (some ⟨q, 0, none⟩)] .returning w fun e u' w' => e = .returned (.tuple #[]) ∧ u' = .returning ∧ w' = w := by
  refine callsD_of_wpS Tryz.func28 rfl fun c₀ cs hu => ?_
  apply wpS_seq
  apply wpS_region
  simp [wpOpsS, go_sem, recoverD, hu, Tryz.ntmps28, Exit.thenS]
  refine wpS_of_wp ?_
  simp only [Array.replicate_succ, Array.replicate_zero, List.push_toArray, List.setIfInBounds_toArray, List.set_cons_zero, List.set_cons_succ, List.append_toArray, List.nil_append, List.cons_append]
  go_wp2_with fail
  cases c₀
  simp_all [bodyPostS, results, Tryz.results28]

theorem ret_cells2 {P : Program} {fn : Func} {p q : Tmp} {tp tq : TypeId} {dp dq : TypeDesc} (h : fn.results = #[.cell p tp, .cell q tq]) (tmps : Array Value) (w : World) (a b : Addr) (va vb : Value)
    (hp : tmps.getD p undef = .pointer (some a)) (hq : tmps.getD q undef = .pointer (some b))
    (up : P.underlying tp = some dp) (uq : P.underlying tq = some dq)
    (kp : (match dp with | .struct _ | .array _ _ => true | _ => false) = false) (kq : (match dq with | .struct _ | .array _ _ => true | _ => false) = false)
    (ha : w.cell? a = some va) (hb : w.cell? b = some vb) :
    (results fn tmps).run P w = .ok (.tuple #[va, vb]) w := by
  have hp' : tmps[p]?.getD undef = .pointer (some a) := by simpa using hp
  have hq' : tmps[q]?.getD undef = .pointer (some b) := by simpa using hq
  simp [results, h, asAddr, hp', hq', run_loadVar_one up kp ha, run_loadVar_one uq kq hb, Result.andThen]

/-- What 'Print' answers. -/
def PrintP (w : World) (l : List Nd) (e : Ending) (w' : World) : Prop := Ext w w' ∧
  e = .returned (match Tpl.print l with | some s => .tuple #[.string ⟨s.toArray⟩, .int .i64 0] | none => .tuple #[.string ⟨#[]⟩, .int .i64 100])

set_option maxRecDepth 100000 in
set_option maxHeartbeats 4000000 in
theorem Print_any {F : Nat → Prop} (v : Value) (l : List Nd) (w : World) (hg : Gl w) (hn : NodesAt F w v l) (hF : ∀ k, F k → k < w.heap.size) (hl : l.length ≤ 1000000000) (hbd : bdL l) : Calls Tryz.prog 17 #[v] w (PrintP w l) := by
  obtain ⟨post, hpost⟩ : ∃ post, post = PrintP w l := ⟨_, rfl⟩
  rw [← hpost]
  replace hpost := hid hpost
  obtain ⟨aov, nv, capv, rfl⟩ := hn.slice
  have hmf : ∀ (fn : Fn) (first cap : Array Value) (w : World), (Instr.makeFunc fn first cap).run Tryz.prog w = .ok (.func fn first cap) w := fun _ _ _ _ => rfl
  have hgs := hg.size
  replace hg := hid hg
  replace hn := hid hn
  replace hF := hid hF
  replace hl := hid hl
  replace hbd := hid hbd
  go_enter_defers Tryz.func17, Tryz.ntmps17
  go_wp2_with fail
  obtain ⟨R, hR⟩ : ∃ R, R = w.heap.size := ⟨_, rfl⟩
  have hg3 : ∀ k, (((w.alloc (.cells #[.string ⟨#[]⟩] 9)).alloc (.cells #[.int .i64 0] 27)).alloc (.cells #[.slice none 0 0] 66)).heap[k]? =
      if k = R + 1 + 1 then some (.cells #[.slice none 0 0] 66 (0, 0)) else if k = R + 1 then some (.cells #[.int .i64 0] 27 (0, 0)) else if k = R then some (.cells #[.string ⟨#[]⟩] 9 (0, 0)) else w.heap[k]? := by
    intro k
    simp only [alloc_get, World.size_alloc, ← hR]
  have hx3 := (((Mod.refl (fun _ => False) w).alloc (.cells #[.string ⟨#[]⟩] 9)).alloc (.cells #[.int .i64 0] 27)).alloc (.cells #[.slice none 0 0] 66)
  have hs3 : (((w.alloc (.cells #[.string ⟨#[]⟩] 9)).alloc (.cells #[.int .i64 0] 27)).alloc (.cells #[.slice none 0 0] 66)).heap.size = R + 3 := by simp only [World.size_alloc, ← hR]
  rw [← hR]
  generalize (((w.alloc (.cells #[.string ⟨#[]⟩] 9)).alloc (.cells #[.int .i64 0] 27)).alloc (.cells #[.slice none 0 0] 66)) = w3 at hg3 hx3 hs3 ⊢
  have k0 := hg3 R
  have k1 := hg3 (R + 1)
  have k2 := hg3 (R + 1 + 1)
  rw [if_neg (by omega), if_neg (by omega), if_pos rfl] at k0
  rw [if_neg (by omega), if_pos rfl] at k1
  rw [if_pos rfl] at k2
  clear hg3
  have hpr : Pr (R + 1 + 1) (R + 1 + 1) [] w3 := ⟨⟨_, k2, Cdk.Own.nil _ _ _ _ _⟩, Nat.le_refl _, by simp, hg.out.ext hx3, by unfold glN; omega⟩
  have hnw : NodesAt (fun j => j < R + 1 + 1) w3 (.slice aov nv capv) l := (hn.out.mod hx3 (fun _ _ h => h)).mono (fun j hj => by have := hF.out j hj; omega)
  have hL := plist_any 8 (R + 1 + 1) (R + 1 + 1) [] (.slice aov nv capv) l 0 w3 rfl hpr hnw hl.out hbd.out
  rw [List.nil_append] at hL
  replace hR := hid hR
  refine hL.mono ?_
  clear hL
  rintro e w4 (⟨hok, rfl, hp4, hm4⟩ | ⟨hok, rfl, hm4⟩)
  · have k0 := hm4.1.at k0 (by omega)
    have k1 := hm4.1.at k1 (by omega)
    obtain ⟨v4, hP4, hown⟩ := hp4.cell
    have hcv := run_text2 hown
    obtain ⟨ao4, cap4, rfl, -, -⟩ := hown.row
    obtain ⟨s4, hs4⟩ : ∃ s4, s4 = formL l := ⟨_, rfl⟩
    rw [← hs4] at hcv hP4
    have hprint : Hid (Tpl.print l = some s4) := hid (by unfold Tpl.print; rw [hok, hs4]; rfl)
    have c0 : w4.cell? ⟨R, 0, none⟩ = some (.string ⟨#[]⟩) := cell_of' k0 0
    have c1 : w4.cell? ⟨R + 1, 0, none⟩ = some (.int .i64 0) := cell_of' k1 0
    have c2 : w4.cell? ⟨R + 1 + 1, 0, none⟩ = some (.slice ao4 s4.length cap4) := cell_of' hP4 0
    have z0 := free_of' k0
    have z1 := free_of' k1
    replace k0 := hid k0
    replace k1 := hid k1
    replace hP4 := hid hP4
    replace hown := hid hown
    replace hp4 := hid hp4
    replace hs4 := hid hs4
    replace hok := hid hok
    go_wp2_with fail
    clear c0 c1 c2 z0 z1
    have q0 := put1 (v := .string ⟨s4.toArray⟩) k0.out
    have q1 := put1 (v := .int .i64 0) ((put_ne w4 (b := R) 0 (.string ⟨s4.toArray⟩) (by omega)).trans k1.out)
    have q0 := (put_ne _ (b := R + 1) 0 (.int .i64 0) (by omega)).trans q0
    have hm8 := ((Mod.refl (fun j => R ≤ j) w4).setCell (a := ⟨R, 0, none⟩) (fun _ => Nat.le_refl _) (.string ⟨s4.toArray⟩)).setCell (a := ⟨R + 1, 0, none⟩) (fun _ => by simp) (.int .i64 0)
    generalize (w4.setCell ⟨R, 0, none⟩ (.string ⟨s4.toArray⟩)).setCell ⟨R + 1, 0, none⟩ (.int .i64 0) = w8 at q0 q1 hm8 ⊢
    refine leaves_cons (f := 28) (args := #[.pointer (some ⟨R, 0, none⟩), .pointer (some ⟨R + 1, 0, none⟩)]) (by simp) (by simp [go_sem]) ?_
    refine (pcatch_idle R (R + 1) _).mono ?_
    rintro e u' w'' ⟨rfl, rfl, rfl⟩
    refine ⟨_, ret_cells2 rfl _ _ ⟨R, 0, none⟩ ⟨R + 1, 0, none⟩ (.string ⟨s4.toArray⟩) (.int .i64 0) rfl rfl Tryz.underlying9 Tryz.underlying27 rfl rfl (cell_of' q0 0) (cell_of' q1 0), ?_⟩
    rw [hpost.out]
    have hRR := hR.out
    refine ⟨((hx3.then hm4.1 (fun j hj e => by omega)).then hm8 (fun j hj e => by omega)), ?_⟩
    rw [hprint.out]
  · have hprint : Hid (Tpl.print l = none) := hid (by unfold Tpl.print; rw [hok]; rfl)
    replace hok := hid hok
    go_wp2_with fail
    have k0 := hm4.at k0 (by omega)
    have k1 := hm4.at k1 (by omega)
    refine leaves_cons (f := 28) (args := #[.pointer (some ⟨R, 0, none⟩), .pointer (some ⟨R + 1, 0, none⟩)]) (by simp) (by simp [go_sem]) ?_
    refine (pcatch_panicking R (R + 1) _ _ [] _ k0 k1 (by omega)).mono ?_
    rintro e u' w'' ⟨rfl, rfl, rfl⟩
    have q0 := put1 (v := .string ⟨#[]⟩) k0
    have q1 := put1 (v := .int .i64 100) ((put_ne w4 (b := R) 0 (.string ⟨#[]⟩) (by omega)).trans k1)
    have q0 := (put_ne _ (b := R + 1) 0 (.int .i64 100) (by omega)).trans q0
    have hm8 := ((Mod.refl (fun j => R ≤ j) w4).setCell (a := ⟨R, 0, none⟩) (fun _ => Nat.le_refl _) (.string ⟨#[]⟩)).setCell (a := ⟨R + 1, 0, none⟩) (fun _ => by simp) (.int .i64 100)
    generalize (w4.setCell ⟨R, 0, none⟩ (.string ⟨#[]⟩)).setCell ⟨R + 1, 0, none⟩ (.int .i64 100) = w8 at q0 q1 hm8 ⊢
    refine ⟨_, ret_cells2 rfl _ _ ⟨R, 0, none⟩ ⟨R + 1, 0, none⟩ (.string ⟨#[]⟩) (.int .i64 100) rfl rfl Tryz.underlying9 Tryz.underlying27 rfl rfl (cell_of' q0 0) (cell_of' q1 0), ?_⟩
    rw [hpost.out]
    have hRR := hR.out
    refine ⟨((hx3.then hm4 (fun j hj e => by omega)).then hm8 (fun j hj e => by omega)), ?_⟩
    rw [hprint.out]
end Go.Proofs.YtpgniljgaknlpaaGreatDoor
