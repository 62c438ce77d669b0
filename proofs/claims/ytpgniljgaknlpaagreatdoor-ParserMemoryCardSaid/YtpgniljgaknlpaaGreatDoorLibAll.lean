import Derived.WalkKit
import Derived.WalkSpells
import Derived.WalkLawsBesides
import Derived.Deep.LoopGhost
import Derived.Deep.DeepCutAuto
import Derived.Deep.QuietTactic
import Derived.BigQuiet
import Derived.Deep.RegionHeld3
import Derived.Deep.DeepFit
import Derived.StillTailTactics
import Derived.Maps.OwnOps
import Derived.Maps.OwnSet
import Derived.Maps.RangeWalk
import Derived.Laws.AppendOwnNone
import Derived.ProofKit
import Derived.Carry
/-
  Words of our own over any program: how a call may change the world ('Mod'), and how a map's block reads as a list of pairs ('MapAt'), with the laws of look-up, store, delete, len and range.
-/
namespace Cdk
open Go Go.RowKit

/-- A fact that the walk does not take for a rule; '.out' gives it back. -/
theorem hid {p : Prop} (h : p) : Hid p := h

/-- From w to w' only blocks in S, and new ones, have changed. -/
structure Mod (S : Nat → Prop) (w w' : World) : Prop where
  os : w'.os = w.os
  tape : w'.tape = w.tape
  output : w'.output = w.output
  size : w.heap.size ≤ w'.heap.size
  block : ∀ k, k < w.heap.size → ¬ S k → w'.heap[k]? = w.heap[k]?

/-- Nothing that was there has changed. -/
abbrev Ext (w w' : World) : Prop := Mod (fun _ => False) w w'

variable {S T : Nat → Prop} {w w' w'' : World}

theorem Mod.refl (S : Nat → Prop) (w : World) : Mod S w w := ⟨rfl, rfl, rfl, Nat.le_refl _, fun _ _ _ => rfl⟩

theorem Mod.trans (h : Mod S w w') (k : Mod S w' w'') : Mod S w w'' :=
  ⟨k.os.trans h.os, k.tape.trans h.tape, k.output.trans h.output, Nat.le_trans h.size k.size, fun i hi hs => (k.block i (Nat.lt_of_lt_of_le hi h.size) hs).trans (h.block i hi hs)⟩

theorem Mod.mono (h : Mod S w w') (hST : ∀ k, S k → T k) : Mod T w w' :=
  ⟨h.os, h.tape, h.output, h.size, fun k hk hs => h.block k hk (fun hS => hs (hST k hS))⟩

/-- Sets are asked below the first world's size alone. -/
theorem Mod.mono' (h : Mod S w w') (hST : ∀ k, k < w.heap.size → S k → T k) : Mod T w w' :=
  ⟨h.os, h.tape, h.output, h.size, fun k hk hs => h.block k hk (fun hS => hs (hST k hk hS))⟩

theorem Mod.then (h : Mod S w w') (k : Mod T w' w'') (hT : ∀ k, k < w.heap.size → T k → S k) : Mod S w w'' :=
  ⟨k.os.trans h.os, k.tape.trans h.tape, k.output.trans h.output, Nat.le_trans h.size k.size,
    fun i hi hs => (k.block i (Nat.lt_of_lt_of_le hi h.size) (fun t => hs (hT i hi t))).trans (h.block i hi hs)⟩

theorem Mod.drew (h : Mod S w w') : Mod S w w'.drew := ⟨h.os, h.tape, h.output, h.size, h.block⟩

theorem Mod.drew0 (S : Nat → Prop) (w : World) : Mod S w w.drew := (Mod.refl S w).drew

theorem Mod.ofDrewN (h : Mod S w w') (n : Nat) : Mod S w (w'.drewN n) := ⟨h.os, h.tape, h.output, h.size, h.block⟩

theorem Mod.alloc (h : Mod S w w') (o : Obj) : Mod S w (w'.alloc o) :=
  ⟨h.os, h.tape, h.output, Nat.le_trans h.size (by simp), fun k hk hs => by
    rw [Below.heap_alloc w' o k (Nat.lt_of_lt_of_le hk h.size)]; exact h.block k hk hs⟩

theorem Mod.setCell (h : Mod S w w') {a : Addr} (ha : a.block < w.heap.size → S a.block) (u : Value) : Mod S w (w'.setCell a u) :=
  ⟨h.os, h.tape, h.output, by simpa [World.setCell] using h.size, fun k hk hs => by
    rw [Below.heap_setCell w' a u k (fun e => hs (e ▸ ha (e ▸ hk)))]; exact h.block k hk hs⟩

theorem Mod.ofGrown {row : Option Nat} (hg : w.grownBy w' row) (hr : ∀ k, row = some k → S k) : Mod S w w' :=
  ⟨hg.os, hg.tape, hg.output, hg.size, fun k hk hs => hg.block k hk (fun e => hs (hr k e.symm))⟩

theorem Mod.ofBelow (h : Below w.heap.size w w') : Mod S w w' := ⟨h.os, h.tape, h.output, h.size, fun k hk _ => h.block k hk⟩

theorem Mod.below (h : Mod S w w') {B : Nat} (hB : B ≤ w.heap.size) (hS : ∀ k, S k → B ≤ k) : Below B w w' :=
  ⟨h.os, h.tape, h.output, h.size, fun k hk => h.block k (Nat.lt_of_lt_of_le hk hB) (fun hs => by have := hS k hs; omega)⟩

/-- A block that is known keeps what it holds. -/
theorem Mod.at {o : Obj} (h : Mod S w w') {k : Nat} (hk : w.heap[k]? = some o) (hs : ¬ S k) : w'.heap[k]? = some o := by
  rw [h.block k (Array.getElem?_eq_some_iff.1 hk).1 hs]; exact hk

theorem Mod.cell (h : Mod S w w') {a : Addr} {v : Value} (hc : w.cell? a = some v) (hs : ¬ S a.block) : w'.cell? a = some v := by
  rw [World.cell?_of_block (h.block a.block (World.block_lt_of_cell? w a hc) hs)]; exact hc

theorem lt_of_at {o : Obj} {k : Nat} (hk : w.heap[k]? = some o) : k < w.heap.size := (Array.getElem?_eq_some_iff.1 hk).1

theorem alloc_get (w : World) (o : Obj) (k : Nat) : (w.alloc o).heap[k]? = if k = w.heap.size then some o else w.heap[k]? := by
  show (w.heap.push o)[k]? = _
  rw [Array.getElem?_push]

/-- Blocks made one behind the other. -/
def allocs : World → List Obj → World
  | w, [] => w
  | w, o :: l => allocs (w.alloc o) l

theorem allocs_ext : ∀ (l : List Obj) (w : World), Mod S w (allocs w l)
  | [], w => Mod.refl _ w
  | o :: l, w => ((Mod.refl S w).alloc o).trans (allocs_ext l _)

theorem allocs_size : ∀ (l : List Obj) (w : World), (allocs w l).heap.size = w.heap.size + l.length
  | [], w => rfl
  | o :: l, w => by rw [allocs, allocs_size l]; simp; omega

theorem allocs_get : ∀ (l : List Obj) (w : World) (j : Nat), j < l.length → (allocs w l).heap[w.heap.size + j]? = l[j]?
  | [], w, j, h => by simp at h
  | o :: l, w, 0, h => by
    rw [allocs, (allocs_ext (S := fun _ => False) l (w.alloc o)).block (w.heap.size + 0) (by simp) (fun h => h), alloc_get]
    simp
  | o :: l, w, j + 1, h => by
    have := allocs_get l (w.alloc o) j (by simpa using h)
    simp only [World.size_alloc] at this
    rw [allocs, show w.heap.size + (j + 1) = w.heap.size + 1 + j from by omega, this]
    simp

end Cdk
/-
  A map's block read as a list of pairs, over any program: look-up, store, delete, len, range, next, entry. 'mk' makes a key's value: Value.string, Value.int .i64.
-/
namespace Cdk
open Go Go.RowKit

set_option linter.unusedSectionVars false

theorem ba_beq (a b : ByteArray) : (a == b) = decide (a = b) := by
  cases a with | mk a => cases b with | mk b =>
  show (a == b) = _
  simp only [ByteArray.mk.injEq]
  by_cases h : a = b
  · subst h; simp
  · have : (a == b) = false := by simp [h]
    rw [this]; simp [h]

instance : LawfulBEq ByteArray where
  eq_of_beq := fun {a b} h => by rw [ba_beq] at h; simpa using h
  rfl := fun {a} => by rw [ba_beq]; simp

theorem filterMap_congr' {α β : Type} {f g : α → Option β} : ∀ {l : List α}, (∀ x ∈ l, f x = g x) → l.filterMap f = l.filterMap g
  | [], _ => rfl
  | x :: l, h => by
    simp only [List.filterMap_cons, h x (by simp)]
    rw [filterMap_congr' (fun y hy => h y (by simp [hy]))]

/-- '==' on strings, as the walk writes it. -/
theorem sEq_true {a b : ByteArray} (h : a = b) : (a.toList == b.toList) = true := by subst h; simp
theorem sEq_false {a b : ByteArray} (h : a ≠ b) : (a.toList == b.toList) = false := by
  rw [beq_eq_false_iff_ne]
  intro e
  apply h
  have e' : a.data.toList = b.data.toList := by rw [← ByteArray.toList_eq, ← ByteArray.toList_eq]; exact e
  cases a; cases b
  simp only [ByteArray.mk.injEq]
  exact Array.toList_inj.1 e'

theorem map_eraseIdx' {α β : Type} (f : α → β) : ∀ (l : List α) (j : Nat), (l.eraseIdx j).map f = (l.map f).eraseIdx j
  | [], _ => by simp
  | _ :: _, 0 => by simp
  | _ :: l, j + 1 => by simp [map_eraseIdx' f l j]

section
variable {K : Type} [DecidableEq K]

/-- The keys of this type are one cell that is compared by its value. -/
structure KeyOk (P : Program) (kt : TypeId) (mk : K → Value) : Prop where
  inj : ∀ a b, mk a = mk b → a = b
  und : ∃ desc, P.underlying kt = some desc ∧ (∀ a b, Instr.sameNow desc (mk a) (mk b) = some (decide (a = b))) ∧
    (∀ (e : Bool) (n : Nat) (a : K) (w : World), (Instr.checkKey e (n + 1) kt (mk a)).run P w = .ok () w)
  bits : ∀ a, Instr.sameBits 10000 (mk a) (mk a) = true

theorem keyOk_string {P : Program} {kt : TypeId} (h : P.underlying kt = some .string) : KeyOk P kt Value.string where
  inj := fun a b e => by injection e
  und := ⟨.string, h, fun a b => by
    simp only [Instr.sameNow, ba_beq], fun e n a w => by simp [Instr.checkKey, run_underlying h]⟩
  bits := fun a => by simp [Instr.sameBits]

theorem keyOk_int {P : Program} {kt : TypeId} {k : IntKind} (h : P.underlying kt = some (.int k)) : KeyOk P kt (Value.int k) where
  inj := fun a b e => by injection e
  und := ⟨.int k, h, fun a b => by
    simp only [Instr.sameNow, if_true]
    congr 1, fun e n a w => by simp [Instr.checkKey, run_underlying h]⟩
  bits := fun a => by simp [Instr.sameBits]

/-- Block m is a map that holds the pairs d, in the order in which they came. -/
def EntriesAre (mk : K → Value) (es : Array MapEntry) (clock : Nat) (d : List (K × Value)) : Prop :=
  es.toList.map (fun e => (e.key, e.val)) = d.map (fun p => (mk p.1, p.2)) ∧ (d.map (·.1)).Nodup ∧ (es.toList.map (·.born)).Nodup ∧ ∀ e ∈ es.toList, e.born < clock

def MapAt (w : World) (mk : K → Value) (m : Nat) (d : List (K × Value)) : Prop :=
  ∃ es clock, w.heap[m]? = some (.map es clock) ∧ EntriesAre mk es clock d

def assoc (d : List (K × Value)) (k : K) : Option Value := (d.find? (fun p => decide (p.1 = k))).map (·.2)

def upd (d : List (K × Value)) (k : K) (v : Value) : List (K × Value) :=
  if (assoc d k).isSome then d.map (fun p => if p.1 = k then (p.1, v) else p) else d ++ [(k, v)]

def del (d : List (K × Value)) (k : K) : List (K × Value) := d.filter (fun p => !decide (p.1 = k))

variable {P : Program} {kt : TypeId} {mk : K → Value} {w w' : World} {m : Nat} {d : List (K × Value)}

theorem MapAt.mod {S : Nat → Prop} (h : MapAt w mk m d) (hm : Mod S w w') (hs : ¬ S m) : MapAt w' mk m d := by
  obtain ⟨es, c, hh, he⟩ := h
  exact ⟨es, c, hm.at hh hs, he⟩

theorem MapAt.lt (h : MapAt w mk m d) : m < w.heap.size := by
  obtain ⟨es, c, hh, he⟩ := h
  exact lt_of_at hh

theorem MapAt.made (w : World) (mk : K → Value) : MapAt (w.alloc (.map #[] 0)) mk w.heap.size ([] : List (K × Value)) :=
  ⟨#[], 0, heap_alloc_new w _, by simp, by simp, by simp, by simp⟩

/-- The search among the entries finds the place that the list of pairs gives. -/
theorem findNow_list {desc : TypeDesc} (hsame : ∀ a b, Instr.sameNow desc (mk a) (mk b) = some (decide (a = b))) (k : K) :
    ∀ (es : List MapEntry) (d : List (K × Value)) (i : Nat), es.map (fun e => (e.key, e.val)) = d.map (fun p => (mk p.1, p.2)) →
      Instr.findNow desc (mk k) es i = some ((d.findIdx? (fun p => decide (p.1 = k))).map (fun j => (i + j, ((d[j]?).map (·.2)).getD undef)))
  | [], [], _, _ => by simp [Instr.findNow]
  | [], _ :: _, _, h => by simp at h
  | _ :: _, [], _, h => by simp at h
  | e :: es, p :: d, i, h => by
    simp only [List.map_cons, List.cons.injEq, Prod.mk.injEq] at h
    obtain ⟨⟨hk, hv⟩, ht⟩ := h
    simp only [Instr.findNow, hk, hsame]
    by_cases hkp : k = p.1
    · simp [hkp, List.findIdx?_cons, hv]
    · have hpk : ¬ p.1 = k := fun e => hkp e.symm
      simp only [hkp, decide_false]
      rw [findNow_list hsame k es d (i + 1) ht]
      simp only [List.findIdx?_cons, hpk, decide_false]
      cases hfi : d.findIdx? (fun p => decide (p.1 = k)) with
      | none => simp
      | some j => simp; omega

theorem assoc_findIdx (d : List (K × Value)) (k : K) :
    assoc d k = (d.findIdx? (fun p => decide (p.1 = k))).map (fun j => ((d[j]?).map (·.2)).getD undef) := by
  induction d with
  | nil => simp [assoc]
  | cons p d ih =>
    by_cases h : p.1 = k
    · simp [assoc, List.findIdx?_cons, h]
    · simp only [assoc, List.find?_cons, h, decide_false, List.findIdx?_cons]
      simp only [assoc] at ih
      rw [ih]
      cases hfi : d.findIdx? (fun p => decide (p.1 = k)) with
      | none => simp
      | some j => simp

theorem findKey_run (ok : KeyOk P kt mk) (k : K) (es : Array MapEntry) (clock : Nat) (he : EntriesAre mk es clock d) (w : World) :
    (Instr.findKey kt (mk k) es.toList).run P w = .ok ((d.findIdx? (fun p => decide (p.1 = k))).map (fun j => (j, ((d[j]?).map (·.2)).getD undef))) w := by
  obtain ⟨desc, hu, hs, _⟩ := ok.und
  simp [Instr.findKey, run_underlying hu, findNow_list hs k es.toList d 0 he.1]

theorem run_checkKey (ok : KeyOk P kt mk) (e : Bool) (k : K) (w : World) : (Instr.checkKey e 10000 kt (mk k)).run P w = .ok () w := by
  obtain ⟨desc, hu, hs, hc⟩ := ok.und
  exact hc e 9999 k w

theorem run_getObj_map {es : Array MapEntry} {clock : Nat} (h : w.heap[m]? = some (.map es clock)) : (getObj m).run P w = .ok (.map es clock) w := by
  simp [getObj, Sem.run, h]

theorem run_setObj_map {es es' : Array MapEntry} {clock clock' : Nat} (h : w.heap[m]? = some (.map es clock)) :
    (setObj m (.map es' clock')).run P w = .ok () { w with heap := w.heap.setIfInBounds m (.map es' clock') } := by
  simp [setObj, Sem.run, h]

theorem Mod.setBlock {S : Nat → Prop} (hs : m < w.heap.size → S m) (o : Obj) : Mod S w { w with heap := w.heap.setIfInBounds m o } :=
  ⟨rfl, rfl, rfl, by simp, fun k hk hn => by
    have : m ≠ k := fun e => hn (e ▸ hs (e ▸ hk))
    simp [this]⟩

/-- 'v, ok := x[k]' and 'x[k]'. -/
theorem run_lookupM {t e : TypeId} (ok : KeyOk P kt mk) (ht : P.underlying t = some (.map kt e)) (h : MapAt w mk m d) (k : K) {z : Value} (hz : (zeroValue e).run P w = .ok z w) (c : Bool) :
    (Instr.lookup t (.map (some m)) (mk k) c).run P w = .ok (if c then .tuple #[(assoc d k).getD z, .bool (assoc d k).isSome] else (assoc d k).getD z) w := by
  obtain ⟨es, clock, hh, he⟩ := h
  rw [assoc_findIdx]
  simp only [Instr.lookup, Sem.run_bind, run_underlying ht, Result.andThen_ok, run_getObj_map hh, Sem.run_pure, run_checkKey ok, findKey_run ok k es clock he]
  cases hfi : d.findIdx? (fun p => decide (p.1 = k)) with
  | none => cases c <;> simp [hz]
  | some j => cases c <;> simp

theorem run_lenM {t e ty : TypeId} (ht : P.underlying t = some (.map kt e)) (h : MapAt w mk m d) : (Builtin.len_ #[t] ty #[.map (some m)]).run P w = .ok (.int .i64 d.length) w := by
  obtain ⟨es, clock, hh, he⟩ := h
  have hl : es.size = d.length := by
    have := congrArg List.length he.1
    simpa using this
  simp [Builtin.len_, run_underlying ht, run_getObj_map hh, goInt, hl]

theorem map_fst_upd (d : List (K × Value)) (k : K) (v : Value) : (upd d k v).map (·.1) = if (assoc d k).isSome then d.map (·.1) else d.map (·.1) ++ [k] := by
  unfold upd
  split
  · rw [List.map_map]
    apply List.map_congr_left
    intro p _
    simp only [Function.comp]
    split <;> rfl
  · simp

theorem assoc_none_iff (d : List (K × Value)) (k : K) : assoc d k = none ↔ k ∉ d.map (·.1) := by
  simp only [assoc, Option.map_eq_none_iff, List.find?_eq_none, decide_eq_true_eq, List.mem_map, not_exists, not_and]

theorem findIdx_nodup : ∀ (d : List (K × Value)) (k : K) (v : Value) (j : Nat), (d.map (·.1)).Nodup → d.findIdx? (fun p => decide (p.1 = k)) = some j →
    d.map (fun p => if p.1 = k then (p.1, v) else p) = d.modify j (fun p => (p.1, v))
  | [], _, _, _, _, h => by simp at h
  | p :: d, k, v, j, hn, h => by
    simp only [List.findIdx?_cons] at h
    simp only [List.map_cons, List.nodup_cons] at hn
    by_cases hp : p.1 = k
    · simp only [hp, decide_true, if_true, Option.some.injEq] at h
      subst h
      simp only [List.map_cons, hp, if_true, List.modify_zero_cons]
      congr 1
      conv => rhs; rw [← List.map_id d]
      apply List.map_congr_left
      intro q hq
      have : q.1 ≠ k := fun e => hn.1 (by rw [hp, ← e]; exact List.mem_map_of_mem hq)
      simp [this]
    · simp only [hp, decide_false, Bool.false_eq_true, if_false] at h
      cases hf : d.findIdx? (fun p => decide (p.1 = k)) with
      | none => rw [hf] at h; simp at h
      | some i =>
        rw [hf] at h
        simp at h
        subst h
        simp only [List.map_cons, hp, if_false, List.modify_succ_cons]
        rw [findIdx_nodup d k v i hn.2 hf]

theorem EntriesAre.upd {es : Array MapEntry} {clock : Nat} (he : EntriesAre mk es clock d) (k : K) (v : Value) :
    match d.findIdx? (fun p => decide (p.1 = k)) with
    | some j => EntriesAre mk (es.modify j (fun e => { e with key := mk k, val := v })) clock (upd d k v)
    | none => EntriesAre mk (es.push { key := mk k, val := v, born := clock }) (clock + 1) (upd d k v) := by
  obtain ⟨h1, h2, h3, h4⟩ := he
  cases hf : d.findIdx? (fun p => decide (p.1 = k)) with
  | none =>
    have ha : assoc d k = none := by rw [assoc_findIdx, hf]; rfl
    have hu : Cdk.upd d k v = d ++ [(k, v)] := by simp [Cdk.upd, ha]
    simp only [hu]
    refine ⟨by simp [h1], ?_, ?_, ?_⟩
    · rw [List.map_append, List.nodup_append]
      refine ⟨h2, by simp, ?_⟩
      intro a ha' b hb
      simp at hb
      subst hb
      intro e
      subst e
      exact (assoc_none_iff d _).1 ha ha'
    · simp only [Array.toList_push, List.map_append, List.map_cons, List.map_nil]
      rw [List.nodup_append]
      refine ⟨h3, by simp, ?_⟩
      intro a ha' b hb
      simp at hb
      subst hb
      obtain ⟨e, he, rfl⟩ := List.mem_map.1 ha'
      exact Nat.ne_of_lt (h4 e he)
    · intro e he
      simp only [Array.toList_push, List.mem_append, List.mem_singleton] at he
      rcases he with he | rfl
      · exact Nat.lt_succ_of_lt (h4 e he)
      · exact Nat.lt_succ_self _
  | some j =>
    have ha : (assoc d k).isSome = true := by rw [assoc_findIdx, hf]; rfl
    have hu : Cdk.upd d k v = d.modify j (fun p => (p.1, v)) := by
      simp only [Cdk.upd, ha, if_true]
      exact findIdx_nodup d k v j h2 hf
    have hkey : ∀ p, d[j]? = some p → p.1 = k := by
      intro p hp
      have := List.findIdx?_eq_some_iff_getElem.1 hf
      obtain ⟨hlt, hpj, _⟩ := this
      rw [List.getElem?_eq_getElem hlt] at hp
      simp at hp hpj
      rw [← hp]; exact hpj
    refine ⟨?_, ?_, ?_, ?_⟩
    · rw [hu, Array.toList_modify]
      apply List.ext_getElem?
      intro i
      have h1i := congrArg (fun l => l[i]?) h1
      simp only [List.getElem?_map] at h1i
      simp only [List.getElem?_map, List.getElem?_modify]
      by_cases hij : j = i
      · subst hij
        cases he : es.toList[j]? with
        | none =>
          rw [he] at h1i
          cases hd : d[j]? with
          | none => simp
          | some p => rw [hd] at h1i; simp at h1i
        | some e =>
          rw [he] at h1i
          cases hd : d[j]? with
          | none => rw [hd] at h1i; simp at h1i
          | some p => simp [hkey p hd]
      · simp only [hij, if_false]
        simpa using h1i
    · rw [map_fst_upd, if_pos ha]; exact h2
    · have : (es.modify j (fun e => { e with key := mk k, val := v })).toList.map (·.born) = es.toList.map (·.born) := by
        rw [Array.toList_modify]
        apply List.ext_getElem?
        intro i
        simp only [List.getElem?_map, List.getElem?_modify]
        by_cases hij : j = i
        · subst hij; cases es.toList[j]? <;> simp
        · simp [hij]
      rw [this]; exact h3
    · intro e he
      rw [Array.toList_modify] at he
      obtain ⟨i, hi, rfl⟩ := List.mem_iff_getElem.1 he
      simp only [List.getElem_modify]
      have hi' : i < es.toList.length := by simpa using hi
      have h4' := h4 _ (List.getElem_mem hi')
      split
      · exact h4'
      · exact h4'

/-- 'x[k] = v'. -/
theorem run_updateM {t e : TypeId} (ok : KeyOk P kt mk) (ht : P.underlying t = some (.map kt e)) (h : MapAt w mk m d) (k : K) (v : Value) :
    ∃ w', (Instr.mapUpdate t (.map (some m)) (mk k) v).run P w = .ok () w' ∧ MapAt w' mk m (upd d k v) ∧ Mod (Eq m) w w' ∧ w'.heap.size = w.heap.size := by
  obtain ⟨es, clock, hh, he⟩ := h
  have hlt := lt_of_at hh
  have hupd := he.upd k v
  simp only [Instr.mapUpdate, Sem.run_bind, run_underlying ht, Result.andThen_ok, run_getObj_map hh, run_checkKey ok, findKey_run ok k es clock he]
  cases hf : d.findIdx? (fun p => decide (p.1 = k)) with
  | none =>
    rw [hf] at hupd
    simp only [Option.map_none]
    rw [run_setObj_map hh]
    exact ⟨_, rfl, ⟨_, _, by simp [hlt], hupd⟩, Mod.setBlock (fun _ => rfl) _, by simp⟩
  | some j =>
    rw [hf] at hupd
    simp only [Option.map_some]
    have hold : ((es[j]?).map (·.key)).getD (mk k) = mk k := by
      have h1j := congrArg (fun l => l[j]?) he.1
      simp only [List.getElem?_map, Array.getElem?_toList] at h1j
      obtain ⟨hlt', hpj, _⟩ := List.findIdx?_eq_some_iff_getElem.1 hf
      rw [List.getElem?_eq_getElem hlt'] at h1j
      simp at hpj
      cases hes : es[j]? with
      | none => rfl
      | some x => rw [hes] at h1j; simp at h1j; simp [h1j.1, hpj]
    have hstay : (Instr.keyThatStays (((es[j]?).map (·.key)).getD (mk k)) (mk k)).run P w = .ok (mk k) w := by
      rw [hold]; simp [Instr.keyThatStays, ok.bits]
    simp only [Sem.run_bind, hstay, Result.andThen_ok]
    rw [run_setObj_map hh]
    exact ⟨_, rfl, ⟨_, _, by simp [hlt], hupd⟩, Mod.setBlock (fun _ => rfl) _, by simp⟩

theorem EntriesAre.del {es : Array MapEntry} {clock : Nat} (he : EntriesAre mk es clock d) (k : K) :
    match d.findIdx? (fun p => decide (p.1 = k)) with
    | some j => EntriesAre mk (es.eraseIdxIfInBounds j) clock (del d k)
    | none => EntriesAre mk es clock (del d k) := by
  obtain ⟨h1, h2, h3, h4⟩ := he
  cases hf : d.findIdx? (fun p => decide (p.1 = k)) with
  | none =>
    have : Cdk.del d k = d := by
      unfold Cdk.del
      rw [List.filter_eq_self]
      intro p hp
      rw [List.findIdx?_eq_none_iff] at hf
      simpa using hf p hp
    simp only [this]
    exact ⟨h1, h2, h3, h4⟩
  | some j =>
    have hd : Cdk.del d k = d.eraseIdx j := by
      clear h1 h3 h4
      induction d generalizing j with
      | nil => simp at hf
      | cons p d ih =>
        simp only [List.map_cons, List.nodup_cons] at h2
        simp only [List.findIdx?_cons] at hf
        by_cases hp : p.1 = k
        · simp only [hp, decide_true, if_true, Option.some.injEq] at hf
          subst hf
          have : Cdk.del d k = d := by
            unfold Cdk.del
            rw [List.filter_eq_self]
            intro q hq
            have : q.1 ≠ k := fun e => h2.1 (by rw [hp, ← e]; exact List.mem_map_of_mem hq)
            simp [this]
          simp only [Cdk.del] at this
          simp [Cdk.del, hp, this]
        · simp only [hp, decide_false, Bool.false_eq_true, if_false] at hf
          cases hf' : d.findIdx? (fun p => decide (p.1 = k)) with
          | none => rw [hf'] at hf; simp at hf
          | some i =>
            rw [hf'] at hf
            simp at hf
            subst hf
            have := ih h2.2 i hf'
            simp only [Cdk.del] at this
            simp [Cdk.del, hp, this]
    have hjl : j < es.size := by
      obtain ⟨hlt', _, _⟩ := List.findIdx?_eq_some_iff_getElem.1 hf
      have := congrArg List.length h1
      simp at this
      omega
    have het : (es.eraseIdxIfInBounds j).toList = es.toList.eraseIdx j := by
      simp [Array.eraseIdxIfInBounds, hjl]
    refine ⟨?_, ?_, ?_, ?_⟩
    · rw [het, hd, map_eraseIdx', map_eraseIdx', h1]
    · unfold Cdk.del
      exact (List.Sublist.map _ List.filter_sublist).nodup h2
    · rw [het]
      exact (List.Sublist.map _ (List.eraseIdx_sublist _ _)).nodup h3
    · rw [het]
      intro e he
      exact h4 e ((List.eraseIdx_sublist _ _).subset he)

/-- 'delete(x, k)'. -/
theorem run_deleteM {t e ty kt' : TypeId} (ok : KeyOk P kt mk) (ht : P.underlying t = some (.map kt e)) (h : MapAt w mk m d) (k : K) :
    ∃ w', (Builtin.delete_ #[t, kt'] ty #[.map (some m), mk k]).run P w = .ok (.tuple #[]) w' ∧ MapAt w' mk m (del d k) ∧ Mod (Eq m) w w' ∧ w'.heap.size = w.heap.size := by
  obtain ⟨es, clock, hh, he⟩ := h
  have hlt := lt_of_at hh
  have hdel := he.del k
  simp only [Builtin.delete_, List.getElem?_toArray, List.getElem?_cons_zero, List.getElem?_cons_succ, Sem.run_bind, run_underlying ht, Result.andThen_ok, run_getObj_map hh, run_checkKey ok, findKey_run ok k es clock he]
  cases hf : d.findIdx? (fun p => decide (p.1 = k)) with
  | none =>
    rw [hf] at hdel
    simp only [Option.map_none]
    simp only [Sem.run_bind, run_setObj_map hh, Result.andThen_ok, Sem.run_pure]
    exact ⟨_, rfl, ⟨_, _, by simp [hlt], hdel⟩, Mod.setBlock (fun _ => rfl) _, by simp⟩
  | some j =>
    rw [hf] at hdel
    simp only [Option.map_some]
    simp only [Sem.run_bind, run_setObj_map hh, Result.andThen_ok, Sem.run_pure]
    exact ⟨_, rfl, ⟨_, _, by simp [hlt], hdel⟩, Mod.setBlock (fun _ => rfl) _, by simp⟩

end
end Cdk
/-
  'for k, v := range x' over a map, over any program: the iterator's block 'r', what has been seen, 'next' and 'entry'. No key is added to the map meanwhile; deletes and stores at keys that are there are allowed.
-/
namespace Cdk
open Go Go.RowKit
set_option linter.unusedSectionVars false

section
variable {K : Type} [DecidableEq K]
variable {P : Program} {kt : TypeId} {mk : K → Value} {w w' : World} {m r : Nat} {d : List (K × Value)}

/-- Block r iterates over the map in block m, which holds d; the keys in 'seen' have come up (the last one at the head). -/
def IterAt (w : World) (mk : K → Value) (m r : Nat) (d : List (K × Value)) (seen : List K) : Prop :=
  ∃ es clock sn, w.heap[m]? = some (.map es clock) ∧ EntriesAre mk es clock d ∧ w.heap[r]? = some (.mapIter (some m) clock sn clock) ∧ r ≠ m ∧
    (∀ e ∈ es.toList, ∀ k, e.key = mk k → (e.born ∈ sn.toList ↔ k ∈ seen)) ∧
    (∀ k s, seen = k :: s → ∀ v, (k, v) ∈ d → ∃ b, sn.back? = some b ∧ ∃ e ∈ es.toList, e.born = b ∧ e.key = mk k ∧ e.val = v)

theorem IterAt.mapAt {seen : List K} (h : IterAt w mk m r d seen) : MapAt w mk m d := by
  obtain ⟨es, c, sn, h1, h2, _⟩ := h
  exact ⟨es, c, h1, h2⟩

theorem IterAt.mod {S : Nat → Prop} {seen : List K} (h : IterAt w mk m r d seen) (hm : Mod S w w') (hs : ¬ S m) (hr : ¬ S r) : IterAt w' mk m r d seen := by
  obtain ⟨es, c, sn, h1, h2, h3, h4, h5⟩ := h
  exact ⟨es, c, sn, hm.at h1 hs, h2, hm.at h3 hr, h4, h5⟩

theorem IterAt.lt {seen : List K} (h : IterAt w mk m r d seen) : r < w.heap.size ∧ m < w.heap.size ∧ r ≠ m := by
  obtain ⟨es, c, sn, h1, h2, h3, h4, _⟩ := h
  exact ⟨lt_of_at h3, lt_of_at h1, h4⟩

theorem run_rangeM {t e : TypeId} (ht : P.underlying t = some (.map kt e)) (h : MapAt w mk m d) :
    ∃ w', (Instr.range t (.map (some m))).run P w = .ok (.pointer (some ⟨w.heap.size, 0, none⟩)) w' ∧ IterAt w' mk m w.heap.size d [] ∧ Ext w w' ∧ w'.heap.size = w.heap.size + 1 := by
  obtain ⟨es, clock, hh, he⟩ := h
  have hlt := lt_of_at hh
  refine ⟨w.alloc (.mapIter (some m) clock #[] clock), ?_, ⟨es, clock, #[], ?_, he, heap_alloc_new w _, by omega, by simp, by simp⟩, (Mod.refl _ w).alloc _, by simp⟩
  · simp [Instr.range, run_underlying ht, run_getObj_map hh]
  · rw [Below.heap_alloc w _ m hlt]; exact hh

theorem run_range_nil {t e : TypeId} (ht : P.underlying t = some (.map kt e)) (w : World) :
    (Instr.range t (.map none)).run P w = .ok (.pointer (some ⟨w.heap.size, 0, none⟩)) (w.alloc (.mapIter none 0 #[] 0)) := by
  simp [Instr.range, run_underlying ht]

theorem run_next_nil {ty : TypeId} (h : w.heap[r]? = some (.mapIter none 0 #[] 0)) : (Instr.next (.pointer (some ⟨r, 0, none⟩)) false ty).run P w = .ok (.tuple #[.bool false]) w := by
  have hg : (getObj r).run P w = .ok (.mapIter none 0 #[] 0) w := by simp [getObj, Sem.run, h]
  simp [Instr.next, hg]

theorem run_getObj_iter {mm : Option Nat} {s c : Nat} {sn : Array Nat} (h : w.heap[r]? = some (.mapIter mm s sn c)) : (getObj r).run P w = .ok (.mapIter mm s sn c) w := by
  simp [getObj, Sem.run, h]

/-- The next step of the loop: over, or a pair that has not been seen. -/
theorem run_nextM {seen : List K} (h : IterAt w mk m r d seen) (inj : ∀ a b, mk a = mk b → a = b) (ty : TypeId) :
    ((∀ p ∈ d, p.1 ∈ seen) ∧ (Instr.next (.pointer (some ⟨r, 0, none⟩)) false ty).run P w = .ok (.tuple #[.bool false]) w) ∨
    (∃ k v w', (k, v) ∈ d ∧ k ∉ seen ∧ (Instr.next (.pointer (some ⟨r, 0, none⟩)) false ty).run P w = .ok (.tuple #[.bool true, mk k, v]) w' ∧
      IterAt w' mk m r d (k :: seen) ∧ Mod (Eq r) w w' ∧ w'.heap.size = w.heap.size) := by
  obtain ⟨es, clock, sn, hh, he, hr, hne, hs, hl⟩ := h
  have hpairs : ∀ e ∈ es.toList, ∃ p ∈ d, e.key = mk p.1 ∧ e.val = p.2 := by
    intro e hin
    have h1 : (e.key, e.val) ∈ es.toList.map (fun e => (e.key, e.val)) := List.mem_map_of_mem hin
    rw [he.1] at h1
    obtain ⟨p, hp, hpe⟩ := List.mem_map.1 h1
    simp only [Prod.mk.injEq] at hpe
    exact ⟨p, hp, hpe.1.symm, hpe.2.symm⟩
  have hpairs' : ∀ p ∈ d, ∃ e ∈ es.toList, e.key = mk p.1 ∧ e.val = p.2 := by
    intro p hp
    have h1 : (mk p.1, p.2) ∈ d.map (fun p => (mk p.1, p.2)) := List.mem_map_of_mem hp
    rw [← he.1] at h1
    obtain ⟨e, hin, hpe⟩ := List.mem_map.1 h1
    simp only [Prod.mk.injEq] at hpe
    exact ⟨e, hin, hpe.1, hpe.2⟩
  have hold : ∀ e ∈ es.toList, e.born < clock := he.2.2.2
  have hcheck : (!sn.isEmpty && !es.isEmpty && es.all (fun e => decide (e.born ≥ clock))) = false := by
    cases hemp : es.isEmpty with
    | true => simp
    | false =>
      have : es.all (fun e => decide (e.born ≥ clock)) = false := by
        rw [Bool.eq_false_iff]
        intro hall
        rw [Array.all_eq_true_iff_forall_mem] at hall
        have hne' : es ≠ #[] := by intro e; subst e; simp at hemp
        obtain ⟨x, hx⟩ := Array.exists_mem_of_ne_empty es hne'
        have h1 := hall x hx
        have h2 := hold x (Array.mem_toList_iff.2 hx)
        simp at h1
        omega
      simp [this]
  have hnew : ∀ l : Array MapEntry, (∀ e ∈ l, e.born < clock) → l.filter (fun e => decide (e.born ≥ clock)) = #[] := by
    intro l hl'
    rw [Array.filter_eq_empty_iff]
    intro e hin
    have := hl' e hin
    simp; omega
  have holdf : ∀ l : Array MapEntry, (∀ e ∈ l, e.born < clock) → l.filter (fun e => decide (e.born < clock)) = l := by
    intro l hl'
    rw [Array.filter_eq_self]
    intro e hin
    simpa using hl' e hin
  have hleftlt : ∀ e ∈ es.filter (fun e => !sn.contains e.born), e.born < clock := by
    intro e hin
    exact hold e (Array.mem_toList_iff.2 (Array.mem_filter.1 hin).1)
  have hrun : (Instr.next (.pointer (some ⟨r, 0, none⟩)) false ty).run P w =
      ((choose (.mapNext ((if (es.filter (fun e : MapEntry => !sn.contains e.born)).isEmpty then #[none] else #[]) ++ (es.filter (fun e : MapEntry => !sn.contains e.born)).map some : Array (Option MapEntry)).size)).run P w).andThen fun c w1 =>
        (match ((if (es.filter (fun e : MapEntry => !sn.contains e.born)).isEmpty then #[none] else #[]) ++ (es.filter (fun e : MapEntry => !sn.contains e.born)).map some : Array (Option MapEntry))[c]? with
          | some (some e) => (do setObj r (.mapIter (some m) clock (sn.push e.born) clock); pure (.tuple #[.bool true, e.key, e.val]) : Sem Value)
          | some none => pure (.tuple #[.bool false])
          | none => stuck "Next: no such candidate").run P w1 := by
    simp only [Instr.next, Sem.run_bind, run_getObj_iter hr, Result.andThen_ok, run_getObj_map hh]
    simp only [hcheck, Bool.false_eq_true, if_false, Sem.run_bind]
    rw [holdf _ hleftlt, hnew _ hleftlt]
    simp only [Array.append_empty]
    rfl
  rw [hrun]
  by_cases hemp : (es.filter (fun e => !sn.contains e.born)).isEmpty = true
  · left
    have hnil : es.filter (fun e => !sn.contains e.born) = #[] := by simpa using hemp
    refine ⟨?_, ?_⟩
    · intro p hp
      obtain ⟨e, hin, hk, _⟩ := hpairs' p hp
      rw [Array.filter_eq_empty_iff] at hnil
      have h1 := hnil e (Array.mem_toList_iff.1 hin)
      simp only [Bool.not_eq_true', Bool.not_eq_false, Array.contains_iff_mem] at h1
      exact (hs e hin p.1 hk).1 (Array.mem_toList_iff.2 (by simpa using h1))
    · rw [hnil]
      simp [Question.forced]
  · right
    generalize hleft : es.filter (fun e => !sn.contains e.born) = left at *
    have hpos : 0 < left.size := by
      rcases Nat.eq_zero_or_pos left.size with h | h
      · exfalso; apply hemp; simp [Array.isEmpty, h]
      · exact h
    simp only [hemp, Bool.false_eq_true, if_false, Array.empty_append]
    have pick : ∀ (c : Nat) (w1 : World), c < left.size → w1.heap = w.heap → Mod (Eq r) w w1 →
        ∃ k v w', (k, v) ∈ d ∧ k ∉ seen ∧
          ((match (left.map some)[c]? with
            | some (some e) => (do setObj r (.mapIter (some m) clock (sn.push e.born) clock); pure (.tuple #[.bool true, e.key, e.val]) : Sem Value)
            | some none => pure (.tuple #[.bool false])
            | none => stuck "Next: no such candidate").run P w1) = .ok (.tuple #[.bool true, mk k, v]) w' ∧
          IterAt w' mk m r d (k :: seen) ∧ Mod (Eq r) w w' ∧ w'.heap.size = w.heap.size := by
      intro c w1 hc hheap hmod
      have hget : (left.map some)[c]? = some (some left[c]) := by simp [hc]
      rw [hget]
      have hmem : left[c] ∈ es.filter (fun e => !sn.contains e.born) := by rw [hleft]; exact Array.getElem_mem hc
      obtain ⟨hin, hnot⟩ := Array.mem_filter.1 hmem
      have hin' := Array.mem_toList_iff.2 hin
      obtain ⟨p, hp, hk, hv⟩ := hpairs _ hin'
      have hr1 : w1.heap[r]? = some (.mapIter (some m) clock sn clock) := by rw [hheap]; exact hr
      have hset : (setObj r (.mapIter (some m) clock (sn.push left[c].born) clock)).run P w1 = .ok () { w1 with heap := w1.heap.setIfInBounds r (.mapIter (some m) clock (sn.push left[c].born) clock) } := by
        simp [setObj, Sem.run, hr1]
      have hrl : r < w1.heap.size := lt_of_at hr1
      refine ⟨p.1, p.2, { w1 with heap := w1.heap.setIfInBounds r (.mapIter (some m) clock (sn.push left[c].born) clock) }, hp, ?_, ?_, ?_, ?_, ?_⟩
      · intro hseen
        have := (hs _ hin' p.1 hk).2 hseen
        rw [Array.mem_toList_iff] at this
        simp at hnot
        exact hnot this
      · simp only [Sem.run_bind, hset, Result.andThen_ok, Sem.run_pure, hk, hv]
      · refine ⟨es, clock, sn.push left[c].born, ?_, he, by simp [hrl], hne, ?_, ?_⟩
        · simp [hne, hheap, hh]
        · intro e hein k hek
          simp only [Array.toList_push, List.mem_append, List.mem_cons, List.not_mem_nil, or_false]
          constructor
          · rintro (h | h)
            · exact .inr ((hs e hein k hek).1 h)
            · left
              have hee : e = left[c] := by
                have hnd := he.2.2.1
                obtain ⟨i, hi, rfl⟩ := List.mem_iff_getElem.1 hein
                obtain ⟨j, hj, hje⟩ := List.mem_iff_getElem.1 hin'
                have : i = j := by
                  have h1 : (es.toList.map (·.born))[i]'(by simpa using hi) = (es.toList.map (·.born))[j]'(by simpa using hj) := by
                    simp only [List.getElem_map]; rw [hje]; exact h
                  exact (List.getElem_inj hnd).1 h1
                subst this
                exact hje
              rw [hee, hk] at hek
              exact inj _ _ hek.symm
          · rintro (h | h)
            · right
              have hee : e = left[c] := by
                have hnd := he.2.1
                subst h
                obtain ⟨i, hi, rfl⟩ := List.mem_iff_getElem.1 hein
                obtain ⟨j, hj, hje⟩ := List.mem_iff_getElem.1 hin'
                have hkeys : es.toList.map (·.key) = d.map (fun p => mk p.1) := by
                  have := congrArg (fun l => l.map (·.1)) he.1
                  simpa [List.map_map, Function.comp_def] using this
                have hnd' : (es.toList.map (·.key)).Nodup := by
                  rw [hkeys]
                  have : d.map (fun p => mk p.1) = (d.map (·.1)).map mk := by simp [List.map_map, Function.comp_def]
                  rw [this]
                  exact List.Pairwise.map _ (fun a b hab e => hab (inj _ _ e)) hnd
                have : i = j := by
                  have h1 : (es.toList.map (·.key))[i]'(by simpa using hi) = (es.toList.map (·.key))[j]'(by simpa using hj) := by
                    simp only [List.getElem_map]; rw [hje, hek, hk]
                  exact (List.getElem_inj hnd').1 h1
                subst this
                exact hje
              rw [hee]
            · exact .inl ((hs e hein k hek).2 h)
        · intro k s hks v hkv
          injection hks with hk1 hk2
          subst hk1
          refine ⟨left[c].born, by simp, left[c], hin', rfl, hk, ?_⟩
          have hnd := he.2.1
          have : p = (p.1, v) := by
            obtain ⟨i, hi, hie⟩ := List.mem_iff_getElem.1 hp
            obtain ⟨j, hj, hje⟩ := List.mem_iff_getElem.1 hkv
            have : i = j := by
              have h1 : (d.map (·.1))[i]'(by simpa using hi) = (d.map (·.1))[j]'(by simpa using hj) := by
                simp only [List.getElem_map]; rw [hje, hie]
              exact (List.getElem_inj hnd).1 h1
            subst this
            rw [hie] at hje; exact hje
          rw [hv, this]
      · exact hmod.trans (Mod.setBlock (fun _ => rfl) _)
      · simp [hheap]
    simp only [run_choose]
    by_cases hf : (Question.mapNext (left.map some).size).forced = true
    · simp only [hf, if_true, Result.andThen_ok]
      exact pick 0 w hpos rfl (Mod.refl _ w)
    · simp only [hf, Bool.false_eq_true, if_false, Result.andThen_ok]
      refine pick _ _ ?_ rfl ⟨rfl, rfl, rfl, Nat.le_refl _, fun _ _ _ => rfl⟩
      have := Nat.mod_lt (w.tape w.drawn (.mapNext (left.map some).size)) hpos
      simpa [Question.cut] using this

/-- The pair at hand, read again. -/
theorem run_entryM {k : K} {v : Value} {seen : List K} (h : IterAt w mk m r d (k :: seen)) (hin : (k, v) ∈ d) :
    (Instr.entry (.pointer (some ⟨r, 0, none⟩))).run P w = .ok (.tuple #[mk k, v]) w := by
  obtain ⟨es, clock, sn, hh, he, hr, hne, hs, hl⟩ := h
  obtain ⟨b, hb, e, hein, heb, hek, hev⟩ := hl k seen rfl v hin
  have hfind : es.find? (fun x => x.born == b) = some e := by
    rw [← Array.find?_toList]
    have hnd := he.2.2.1
    have : ∀ l : List MapEntry, (l.map (·.born)).Nodup → e ∈ l → l.find? (fun x => x.born == b) = some e := by
      intro l
      induction l with
      | nil => intro _ h; cases h
      | cons x l ih =>
        intro hn hm
        simp only [List.map_cons, List.nodup_cons] at hn
        rcases List.mem_cons.1 hm with rfl | hm
        · simp [heb]
        · have hxb : ¬ x.born = b := fun hxb => hn.1 (by rw [hxb, ← heb]; exact List.mem_map_of_mem hm)
          simp only [List.find?_cons]
          have : (x.born == b) = false := by simpa using hxb
          rw [this]
          exact ih hn.2 hm
    exact this _ hnd hein
  simp only [Instr.entry, Sem.run_bind, run_getObj_iter hr, Result.andThen_ok, hb, run_getObj_map hh]
  simp [hfind, hek, hev]

/-- A store at a key that is there, while the map is ranged over. -/
theorem run_update_iter {t e : TypeId} {seen : List K} (ok : KeyOk P kt mk) (ht : P.underlying t = some (.map kt e)) (h : IterAt w mk m r d seen) (k : K) (v : Value) (hk : (assoc d k).isSome = true) :
    ∃ w', (Instr.mapUpdate t (.map (some m)) (mk k) v).run P w = .ok () w' ∧ IterAt w' mk m r (upd d k v) seen ∧ Mod (Eq m) w w' ∧ w'.heap.size = w.heap.size := by
  obtain ⟨es, clock, sn, hh, he, hr, hne, hs, hl⟩ := h
  have hlt := lt_of_at hh
  have hupd := he.upd k v
  simp only [Instr.mapUpdate, Sem.run_bind, run_underlying ht, Result.andThen_ok, run_getObj_map hh, run_checkKey ok, findKey_run ok k es clock he]
  cases hf : d.findIdx? (fun p => decide (p.1 = k)) with
  | none => rw [assoc_findIdx, hf] at hk; simp at hk
  | some j =>
    rw [hf] at hupd
    simp only [Option.map_some]
    obtain ⟨hlt', hpj, _⟩ := List.findIdx?_eq_some_iff_getElem.1 hf
    simp at hpj
    have h1j := congrArg (fun l => l[j]?) he.1
    simp only [List.getElem?_map, Array.getElem?_toList] at h1j
    rw [List.getElem?_eq_getElem hlt'] at h1j
    have hold : ((es[j]?).map (·.key)).getD (mk k) = mk k := by
      cases hes : es[j]? with
      | none => rfl
      | some x => rw [hes] at h1j; simp at h1j; simp [h1j.1, hpj]
    have hstay : (Instr.keyThatStays (((es[j]?).map (·.key)).getD (mk k)) (mk k)).run P w = .ok (mk k) w := by
      rw [hold]; simp [Instr.keyThatStays, ok.bits]
    simp only [Sem.run_bind, hstay, Result.andThen_ok]
    rw [run_setObj_map hh]
    refine ⟨_, rfl, ⟨_, _, sn, by simp [hlt], hupd, by simp [Ne.symm hne, hr], hne, ?_, ?_⟩, Mod.setBlock (fun _ => rfl) _, by simp⟩
    · intro e hein k' hek
      rw [Array.toList_modify] at hein
      obtain ⟨i, hi, rfl⟩ := List.mem_iff_getElem.1 hein
      have hi' : i < es.toList.length := by simpa using hi
      simp only [List.getElem_modify] at hek ⊢
      have hs' := hs _ (List.getElem_mem hi')
      by_cases hij : j = i
      · subst hij
        simp only [if_true] at hek ⊢
        have hkk : k = k' := ok.inj _ _ hek
        subst hkk
        refine hs' k ?_
        have hjs : j < es.size := by simpa using hi'
        rw [Array.getElem?_eq_getElem hjs] at h1j
        simp at h1j
        simp [h1j.1, hpj]
      · simp only [hij, if_false] at hek ⊢
        exact hs' k' hek
    · intro k' s hks v' hin
      -- the old pair at k'
      have hpair : ∃ v0, (k', v0) ∈ d ∧ (k' = k → v' = v) ∧ (k' ≠ k → v' = v0) := by
        simp only [upd, hk, if_true] at hin
        obtain ⟨q, hq, hqe⟩ := List.mem_map.1 hin
        by_cases hqk : q.1 = k
        · simp only [hqk, if_true, Prod.mk.injEq] at hqe
          exact ⟨q.2, by rw [← hqe.1, ← hqk]; exact hq, fun _ => hqe.2.symm, fun h => absurd hqe.1.symm h⟩
        · simp only [hqk, if_false] at hqe
          subst hqe
          exact ⟨v', hq, fun h => absurd h hqk, fun _ => rfl⟩
      obtain ⟨v0, hin0, hsame, hother⟩ := hpair
      obtain ⟨b, hb, e, hein, heb, hek, hev⟩ := hl k' s hks v0 hin0
      obtain ⟨i, hi, rfl⟩ := List.mem_iff_getElem.1 hein
      by_cases hij : j = i
      · subst hij
        have hjs : j < es.size := by simpa using hi
        rw [Array.getElem?_eq_getElem hjs] at h1j
        simp at h1j
        have hkk : k' = k := ok.inj _ _ (by rw [← hek, Array.getElem_toList, h1j.1, hpj])
        refine ⟨b, hb, { es.toList[j] with key := mk k, val := v }, ?_, ?_, ?_, ?_⟩
        · rw [Array.toList_modify, List.mem_iff_getElem]
          exact ⟨j, by simpa using hi, by simp⟩
        · exact heb
        · rw [hkk]
        · exact (hsame hkk).symm
      · have hkk : k' ≠ k := by
          intro e
          subst e
          have hkeys : es.toList.map (·.key) = d.map (fun p => mk p.1) := by
            have := congrArg (fun l => l.map (·.1)) he.1
            simpa [List.map_map, Function.comp_def] using this
          have hnd' : (es.toList.map (·.key)).Nodup := by
            rw [hkeys]
            have : d.map (fun p => mk p.1) = (d.map (·.1)).map mk := by simp [List.map_map, Function.comp_def]
            rw [this]
            exact List.Pairwise.map _ (fun a b hab e => hab (ok.inj _ _ e)) he.2.1
          have hjl : j < es.toList.length := by
            have := congrArg List.length he.1
            simp at this ⊢; omega
          have hjs : j < es.size := by simpa using hjl
          rw [Array.getElem?_eq_getElem hjs] at h1j
          simp at h1j
          apply hij
          have h1 : (es.toList.map (·.key))[j]'(by simpa using hjl) = (es.toList.map (·.key))[i]'(by simpa using hi) := by
            simp only [List.getElem_map]
            rw [hek, Array.getElem_toList, h1j.1, hpj]
          exact (List.getElem_inj hnd').1 h1
        refine ⟨b, hb, es.toList[i], ?_, heb, hek, ?_⟩
        · rw [Array.toList_modify, List.mem_iff_getElem]
          exact ⟨i, by simpa using hi, by simp [hij]⟩
        · rw [hev, hother hkk]

theorem del_eraseIdx {d : List (K × Value)} {k : K} {j : Nat} (hn : (d.map (·.1)).Nodup) (hf : d.findIdx? (fun p => decide (p.1 = k)) = some j) : del d k = d.eraseIdx j := by
  induction d generalizing j with
  | nil => simp at hf
  | cons p d ih =>
    simp only [List.map_cons, List.nodup_cons] at hn
    simp only [List.findIdx?_cons] at hf
    by_cases hp : p.1 = k
    · simp only [hp, decide_true, if_true, Option.some.injEq] at hf
      subst hf
      have : del d k = d := by
        unfold del
        rw [List.filter_eq_self]
        intro q hq
        have : q.1 ≠ k := fun e => hn.1 (by rw [hp, ← e]; exact List.mem_map_of_mem hq)
        simp [this]
      simp only [del] at this
      simp [del, hp, this]
    · simp only [hp, decide_false, Bool.false_eq_true, if_false] at hf
      cases hf' : d.findIdx? (fun p => decide (p.1 = k)) with
      | none => rw [hf'] at hf; simp at hf
      | some i =>
        rw [hf'] at hf
        simp at hf
        subst hf
        have := ih hn.2 hf'
        simp only [del] at this
        simp [del, hp, this]

/-- A delete while the map is ranged over. -/
theorem run_delete_iter {t e ty kt' : TypeId} {seen : List K} (ok : KeyOk P kt mk) (ht : P.underlying t = some (.map kt e)) (h : IterAt w mk m r d seen) (k : K) :
    ∃ w', (Builtin.delete_ #[t, kt'] ty #[.map (some m), mk k]).run P w = .ok (.tuple #[]) w' ∧ IterAt w' mk m r (del d k) seen ∧ Mod (Eq m) w w' ∧ w'.heap.size = w.heap.size := by
  obtain ⟨es, clock, sn, hh, he, hr, hne, hs, hl⟩ := h
  have hlt := lt_of_at hh
  have hdel := he.del k
  simp only [Builtin.delete_, List.getElem?_toArray, List.getElem?_cons_zero, List.getElem?_cons_succ, Sem.run_bind, run_underlying ht, Result.andThen_ok, run_getObj_map hh, run_checkKey ok, findKey_run ok k es clock he]
  have hdsub : ∀ p, p ∈ del d k → p ∈ d ∧ p.1 ≠ k := by
    intro p hp
    unfold del at hp
    rw [List.mem_filter] at hp
    exact ⟨hp.1, by simpa using hp.2⟩
  cases hf : d.findIdx? (fun p => decide (p.1 = k)) with
  | none =>
    rw [hf] at hdel
    simp only [Option.map_none]
    simp only [Sem.run_bind, run_setObj_map hh, Result.andThen_ok, Sem.run_pure]
    refine ⟨_, rfl, ⟨es, clock, sn, by simp [hlt], hdel, by simp [Ne.symm hne, hr], hne, hs, ?_⟩, Mod.setBlock (fun _ => rfl) _, by simp⟩
    intro k' s hks v' hin
    exact hl k' s hks v' (hdsub _ hin).1
  | some j =>
    rw [hf] at hdel
    simp only [Option.map_some]
    simp only [Sem.run_bind, run_setObj_map hh, Result.andThen_ok, Sem.run_pure]
    have hjl : j < es.size := by
      obtain ⟨hlt', _, _⟩ := List.findIdx?_eq_some_iff_getElem.1 hf
      have := congrArg List.length he.1
      simp at this
      omega
    have het : (es.eraseIdxIfInBounds j).toList = es.toList.eraseIdx j := by
      simp [Array.eraseIdxIfInBounds, hjl]
    refine ⟨_, rfl, ⟨_, _, sn, by simp [hlt], hdel, by simp [Ne.symm hne, hr], hne, ?_, ?_⟩, Mod.setBlock (fun _ => rfl) _, by simp⟩
    · intro e hein k' hek
      rw [het] at hein
      exact hs e ((List.eraseIdx_sublist _ _).subset hein) k' hek
    · intro k' s hks v' hin
      obtain ⟨hin0, hkk⟩ := hdsub _ hin
      obtain ⟨b, hb, e, hein, heb, hek, hev⟩ := hl k' s hks v' hin0
      refine ⟨b, hb, e, ?_, heb, hek, hev⟩
      rw [het]
      obtain ⟨i, hi, rfl⟩ := List.mem_iff_getElem.1 hein
      have hij : i ≠ j := by
        intro e
        subst e
        have h1j := congrArg (fun l => l[i]?) he.1
        simp only [List.getElem?_map] at h1j
        obtain ⟨hlt', hpj, _⟩ := List.findIdx?_eq_some_iff_getElem.1 hf
        simp at hpj
        rw [List.getElem?_eq_getElem hlt', List.getElem?_eq_getElem hi] at h1j
        simp at h1j
        exact hkk (ok.inj _ _ (by rw [← hek, Array.getElem_toList, h1j.1, hpj]))
      rw [List.mem_iff_getElem]
      by_cases hlt2 : i < j
      · exact ⟨i, by rw [List.length_eraseIdx]; split <;> omega, by rw [List.getElem_eraseIdx, dif_pos hlt2]⟩
      · have hi2 : i - 1 + 1 = i := by omega
        refine ⟨i - 1, by rw [List.length_eraseIdx]; split <;> omega, ?_⟩
        rw [List.getElem_eraseIdx, dif_neg (by omega)]
        simp only [hi2]

end
end Cdk
/-
  Slices read as rows of cells, over any program.
-/
namespace Cdk
open Go Go.RowKit

/-- From the address ao on lie the cells cs. -/
def RowIs (w : World) (ao : Option Addr) (cs : List Value) : Prop :=
  ∀ j u, cs[j]? = some u → ∃ b off, ao = some ⟨b, off, none⟩ ∧ w.cell? ⟨b, off + j, none⟩ = some u

theorem RowIs.nil (w : World) (ao : Option Addr) : RowIs w ao [] := fun j u h => by simp at h

theorem RowIs.at {w : World} {ao : Option Addr} {cs : List Value} (h : RowIs w ao cs) (hpos : 0 < cs.length) : ∃ b off, ao = some ⟨b, off, none⟩ ∧ ∀ j u, cs[j]? = some u → w.cell? ⟨b, off + j, none⟩ = some u := by
  obtain ⟨b, off, rfl, _⟩ := h 0 cs[0] (List.getElem?_eq_getElem hpos)
  refine ⟨b, off, rfl, fun j u hu => ?_⟩
  obtain ⟨b', off', he, hc⟩ := h j u hu
  simp only [Option.some.injEq, Addr.mk.injEq, and_true] at he
  rw [he.1, he.2]; exact hc

theorem RowIs.mod {S : Nat → Prop} {w w' : World} {ao : Option Addr} {cs : List Value} (h : RowIs w ao cs) (hm : Mod S w w') (hs : ∀ b off, ao = some ⟨b, off, none⟩ → ¬ S b) : RowIs w' ao cs := by
  intro j u hu
  obtain ⟨b, off, he, hc⟩ := h j u hu
  exact ⟨b, off, he, hm.cell hc (hs b off he)⟩

theorem RowIs.ext {w w' : World} {ao : Option Addr} {cs : List Value} (h : RowIs w ao cs) (hm : Ext w w') : RowIs w' ao cs := h.mod hm (fun _ _ _ h => h)

/-- A block that has just been made. -/
theorem RowIs.new (w : World) (cs : List Value) (e : TypeId) : RowIs (w.alloc (.cells cs.toArray e)) (some ⟨w.heap.size, 0, none⟩) cs := by
  intro j u hu
  refine ⟨w.heap.size, 0, rfl, ?_⟩
  have : (w.alloc (.cells cs.toArray e)).heap[w.heap.size]? = some (.cells cs.toArray e) := heap_alloc_new w _
  unfold World.cell?
  simp only [this]
  simpa using hu

/-- The cells of a list of elements, each 'size' cells. -/
theorem flat_get {α : Type} (f : α → List Value) (size : Nat) (hf : ∀ x, (f x).length = size) : ∀ (xs : List α) (i j : Nat) (x : α), xs[i]? = some x → j < size → (xs.flatMap f)[i * size + j]? = (f x)[j]?
  | [], _, _, _, h, _ => by simp at h
  | y :: xs, 0, j, x, h, hj => by
    simp at h; subst h
    simp only [List.flatMap_cons, Nat.zero_mul, Nat.zero_add]
    rw [List.getElem?_append_left (by rw [hf]; exact hj)]
  | y :: xs, i + 1, j, x, h, hj => by
    simp only [List.getElem?_cons_succ] at h
    simp only [List.flatMap_cons]
    rw [List.getElem?_append_right (by rw [hf, Nat.add_mul]; omega), hf]
    rw [show (i + 1) * size + j - size = i * size + j from by rw [Nat.add_mul]; omega]
    exact flat_get f size hf xs i j x h hj

theorem flat_length {α : Type} (f : α → List Value) (size : Nat) (hf : ∀ x, (f x).length = size) (xs : List α) : (xs.flatMap f).length = xs.length * size := by
  induction xs with
  | nil => simp
  | cons x xs ih => simp [ih, hf, Nat.add_mul]; omega

end Cdk
/-
  The laws on maps in the form that the walk takes.
-/
namespace Cdk
open Go Go.RowKit
set_option linter.unusedSectionVars false

section
variable {K : Type} [DecidableEq K] {P : Program} {kt : TypeId} {mk : K → Value} {ops : Array Oper} {rest : List Oper} {o : Oper} {a : Act} {Q : Exit → Act → World → Prop} {w : World} {mb r : Nat} {d : List (K × Value)} {seen : List K}

theorem wpList_update (hg : o.guard = none) (m x v : Operand) (t e : TypeId) (hop : o.op = Op.mapUpdate t m x v) (ok : KeyOk P kt mk) (ht : P.underlying t = some (.map kt e))
    (h : MapAt w mk mb d) (k : K) (val : Value) (hm : a.eval m = .map (some mb)) (hx : a.eval x = mk k) (hv : a.eval v = val)
    (hK : ∀ w', Hid (MapAt w' mk mb (upd d k val) ∧ Mod (Eq mb) w w' ∧ w'.heap.size = w.heap.size) → wpList P ops Q rest (a.put o.dst undef) w') : wpList P ops Q (o :: rest) a w := by
  refine wpList_plain hg fun K' hK' => ?_
  obtain ⟨w', hrun, r1, r2, r3⟩ := run_updateM ok ht h k val
  unfold Oper.wp
  simp [execOp, hop, hm, hx, hv, hrun, Result.andThen]
  exact hK' _ _ (hK w' ⟨r1, r2, r3⟩)

theorem wpList_update_iter (hg : o.guard = none) (m x v : Operand) (t e : TypeId) (hop : o.op = Op.mapUpdate t m x v) (ok : KeyOk P kt mk) (ht : P.underlying t = some (.map kt e))
    (h : IterAt w mk mb r d seen) (k : K) (val : Value) (hin : (assoc d k).isSome = true) (hm : a.eval m = .map (some mb)) (hx : a.eval x = mk k) (hv : a.eval v = val)
    (hK : ∀ w', Hid (IterAt w' mk mb r (upd d k val) seen ∧ Mod (Eq mb) w w' ∧ w'.heap.size = w.heap.size) → wpList P ops Q rest (a.put o.dst undef) w') : wpList P ops Q (o :: rest) a w := by
  refine wpList_plain hg fun K' hK' => ?_
  obtain ⟨w', hrun, r1, r2, r3⟩ := run_update_iter ok ht h k val hin
  unfold Oper.wp
  simp [execOp, hop, hm, hx, hv, hrun, Result.andThen]
  exact hK' _ _ (hK w' ⟨r1, r2, r3⟩)

theorem wpList_delete (hg : o.guard = none) (m x : Operand) (t e kt' : TypeId) (hop : o.op = Op.call { callee := Callee.builtin Builtin.delete, args := #[m, x], argTypes := #[t, kt'] }) (ok : KeyOk P kt mk) (ht : P.underlying t = some (.map kt e))
    (h : MapAt w mk mb d) (k : K) (hm : a.eval m = .map (some mb)) (hx : a.eval x = mk k)
    (hK : ∀ w', Hid (MapAt w' mk mb (del d k) ∧ Mod (Eq mb) w w' ∧ w'.heap.size = w.heap.size) → wpList P ops Q rest (a.put o.dst (.tuple #[])) w') : wpList P ops Q (o :: rest) a w := by
  refine wpList_plain hg fun K' hK' => ?_
  obtain ⟨w', hrun, r1, r2, r3⟩ := run_deleteM (ty := o.type) (kt' := kt') ok ht h k
  unfold Oper.wp
  simp [execOp, hop, resolve, invoke, builtin, hm, hx, hrun, Result.andThen]
  exact hK' _ _ (hK w' ⟨r1, r2, r3⟩)

theorem wpList_delete_iter (hg : o.guard = none) (m x : Operand) (t e kt' : TypeId) (hop : o.op = Op.call { callee := Callee.builtin Builtin.delete, args := #[m, x], argTypes := #[t, kt'] }) (ok : KeyOk P kt mk) (ht : P.underlying t = some (.map kt e))
    (h : IterAt w mk mb r d seen) (k : K) (hm : a.eval m = .map (some mb)) (hx : a.eval x = mk k)
    (hK : ∀ w', Hid (IterAt w' mk mb r (del d k) seen ∧ Mod (Eq mb) w w' ∧ w'.heap.size = w.heap.size) → wpList P ops Q rest (a.put o.dst (.tuple #[])) w') : wpList P ops Q (o :: rest) a w := by
  refine wpList_plain hg fun K' hK' => ?_
  obtain ⟨w', hrun, r1, r2, r3⟩ := run_delete_iter (ty := o.type) (kt' := kt') ok ht h k
  unfold Oper.wp
  simp [execOp, hop, resolve, invoke, builtin, hm, hx, hrun, Result.andThen]
  exact hK' _ _ (hK w' ⟨r1, r2, r3⟩)

theorem wpList_range (hg : o.guard = none) (m : Operand) (t e : TypeId) (hop : o.op = Op.range t m) (ht : P.underlying t = some (.map kt e))
    (h : MapAt w mk mb d) (hm : a.eval m = .map (some mb))
    (hK : ∀ w', Hid (IterAt w' mk mb w.heap.size d [] ∧ Ext w w' ∧ w'.heap.size = w.heap.size + 1) → wpList P ops Q rest (a.put o.dst (.pointer (some ⟨w.heap.size, 0, none⟩))) w') : wpList P ops Q (o :: rest) a w := by
  refine wpList_plain hg fun K' hK' => ?_
  obtain ⟨w', hrun, r1, r2, r3⟩ := run_rangeM (P := P) ht h
  unfold Oper.wp
  simp [execOp, hop, hm, hrun, Result.andThen]
  exact hK' _ _ (hK w' ⟨r1, r2, r3⟩)

theorem wpList_next (hg : o.guard = none) (it : Operand) (hop : o.op = Op.next it false) (inj : ∀ a b, mk a = mk b → a = b)
    (h : IterAt w mk mb r d seen) (hm : a.eval it = .pointer (some ⟨r, 0, none⟩))
    (hover : Hid (∀ p ∈ d, p.1 ∈ seen) → wpList P ops Q rest (a.put o.dst (.tuple #[.bool false])) w)
    (hnext : ∀ k v w', Hid ((k, v) ∈ d ∧ k ∉ seen ∧ IterAt w' mk mb r d (k :: seen) ∧ Mod (Eq r) w w' ∧ w'.heap.size = w.heap.size) → wpList P ops Q rest (a.put o.dst (.tuple #[.bool true, mk k, v])) w') : wpList P ops Q (o :: rest) a w := by
  refine wpList_plain hg fun K' hK' => ?_
  rcases run_nextM (P := P) h inj o.type with ⟨hall, hrun⟩ | ⟨k, v, w', h1, h2, hrun, h3, h4, h5⟩
  · unfold Oper.wp
    simp [execOp, hop, hm, hrun, Result.andThen]
    exact hK' _ _ (hover hall)
  · unfold Oper.wp
    simp [execOp, hop, hm, hrun, Result.andThen]
    exact hK' _ _ (hnext k v w' ⟨h1, h2, h3, h4, h5⟩)

/-- The pairs come of a list of data. -/
theorem wpList_nextL {α : Type} {l : List α} {f : α → K × Value} (hg : o.guard = none) (it : Operand) (hop : o.op = Op.next it false) (inj : ∀ a b, mk a = mk b → a = b)
    (h : IterAt w mk mb r (l.map f) seen) (hm : a.eval it = .pointer (some ⟨r, 0, none⟩))
    (hover : Hid (∀ q ∈ l, (f q).1 ∈ seen) → wpList P ops Q rest (a.put o.dst (.tuple #[.bool false])) w)
    (hnext : ∀ q w', Hid (q ∈ l ∧ (f q).1 ∉ seen ∧ IterAt w' mk mb r (l.map f) ((f q).1 :: seen) ∧ Mod (Eq r) w w' ∧ w'.heap.size = w.heap.size) → wpList P ops Q rest (a.put o.dst (.tuple #[.bool true, mk (f q).1, (f q).2])) w') : wpList P ops Q (o :: rest) a w := by
  refine wpList_next hg it hop inj h hm (fun H => hover fun q hq => H.out _ (List.mem_map_of_mem hq)) (fun k v w' H => ?_)
  obtain ⟨h1, h2, h3, h4, h5⟩ := H.out
  obtain ⟨q, hq, he⟩ := List.mem_map.1 h1
  have e1 : (f q).1 = k := by rw [he]
  have e2 : (f q).2 = v := by rw [he]
  subst e1; subst e2
  exact hnext q w' ⟨hq, h2, h3, h4, h5⟩

theorem entryL {α : Type} {l : List α} {f : α → K × Value} {q : α} (h : IterAt w mk mb r (l.map f) ((f q).1 :: seen)) (hq : q ∈ l) :
    (Instr.entry (.pointer (some ⟨r, 0, none⟩))).run P w = .ok (.tuple #[mk (f q).1, (f q).2]) w := run_entryM h (List.mem_map_of_mem hq)

/-- How many are still to come. -/
def restL {α : Type} (l : List α) (f : α → K × Value) (seen : List K) : Nat := (l.filter (fun q => !decide ((f q).1 ∈ seen))).length
theorem restL_lt {α : Type} {l : List α} {f : α → K × Value} {q : α} (hq : q ∈ l) (hn : (f q).1 ∉ seen) : restL l f ((f q).1 :: seen) < restL l f seen := by
  unfold restL
  have : l.filter (fun p => !decide ((f p).1 ∈ (f q).1 :: seen)) = (l.filter (fun p => !decide ((f p).1 ∈ seen))).filter (fun p => !decide ((f p).1 = (f q).1)) := by
    rw [List.filter_filter]
    apply List.filter_congr
    intro p _
    by_cases h1 : (f p).1 = (f q).1 <;> by_cases h2 : (f p).1 ∈ seen <;> simp [h1, h2]
  rw [this]
  apply List.length_filter_lt_length_iff_exists.2
  exact ⟨q, List.mem_filter.2 ⟨hq, by simpa using hn⟩, by simp⟩

end
end Cdk
/-
  'append' onto a slice of the call's own, in a form of our own: the slice holds the elements xs, 'f' gives an element's cells.
-/
namespace Cdk
open Go Go.RowKit

/-- The element type's row of the table. -/
structure El (P : Program) (e : TypeId) (z : Value) (size bytes : Nat) : Prop where
  row : (P.info? e).map (fun i => (i.zero, i.size, i.bytes)) = some (some z, size, bytes)
  cells : z.cells.size = size
  pos : 0 < size
  small : bytes ≤ 1024

section
variable {α : Type} {P : Program} {f : α → List Value} {base : Nat} {e : TypeId} {z : Value} {size bytes : Nat} {w w' : World} {v : Value} {xs : List α}

/-- v is a slice of the call's own (from block 'base' on) that holds xs. -/
def Own (w : World) (base : Nat) (e : TypeId) (size : Nat) (f : α → List Value) (v : Value) (xs : List α) : Prop := w.ownsRow base e size v xs.length (xs.flatMap f)

theorem Own.nil (w : World) (base : Nat) (e : TypeId) (size : Nat) (f : α → List Value) : Own w base e size f (.slice none 0 0) [] := World.ownsRow_nil w base e size

/-- An empty slice that is not nil. -/
theorem Own.empty {w : World} {base : Nat} {e : TypeId} {size : Nat} (f : α → List Value) (h : base ≤ w.heap.size) : Own (w.alloc (.cells #[] e)) base e size f (.slice (some ⟨w.heap.size, 0, none⟩) 0 0) [] :=
  World.ownsRow_made w #[] 0 h (Nat.zero_le _) (by simp)

theorem Own.weaken {base' : Nat} (h : Own w base e size f v xs) (hb : base' ≤ base) : Own w base' e size f v xs := by
  refine ⟨h.1, ?_⟩
  rcases h.2 with h2 | ⟨g, cap, cur, rfl, h3, h4⟩
  · exact .inl h2
  · exact .inr ⟨g, cap, cur, rfl, Nat.le_trans hb h3, h4⟩

theorem Own.mod {S : Nat → Prop} (h : Own w base e size f v xs) (hm : Mod S w w') (hs : ∀ k, v.ownBlock = some k → ¬ S k) : Own w' base e size f v xs := by
  refine ⟨h.1, ?_⟩
  rcases h.2 with h2 | ⟨g, cap, cur, rfl, h3, h4, h5⟩
  · exact .inl h2
  · exact .inr ⟨g, cap, cur, rfl, h3, hm.at h4 (hs g rfl), h5⟩

theorem Own.ext (h : Own w base e size f v xs) (hm : Ext w w') : Own w' base e size f v xs := h.mod hm (fun _ _ h => h)

theorem Own.block (h : Own w base e size f v xs) : ∀ k, v.ownBlock = some k → base ≤ k ∧ k < w.heap.size := World.ownsRow.lt h

/-- The value, and its cells. -/
theorem Own.row (h : Own w base e size f v xs) : ∃ ao cap, v = .slice ao xs.length cap ∧ RowIs w ao (xs.flatMap f) ∧ ∀ b off, ao = some ⟨b, off, none⟩ → v.ownBlock = some b := by
  rcases h.2 with ⟨rfl, hn⟩ | ⟨g, cap, cur, rfl, hb, hg, hle, hcm, hcs, ht⟩
  · have : xs = [] := List.eq_nil_of_length_eq_zero hn
    subst this
    exact ⟨none, 0, rfl, RowIs.nil _ _, by simp⟩
  · refine ⟨some ⟨g, 0, none⟩, cap, rfl, ?_, ?_⟩
    · intro j u hu
      refine ⟨g, 0, rfl, ?_⟩
      have := World.ownsRow.cells h (g := g) rfl j u hu
      rw [Addr.add_lit] at this
      exact this
    · intro b off he
      simp at he
      simp [Value.ownBlock, he.1]

/-- A block of cells is no map, and no iterator. -/
theorem Own.cells (h : Own w base e size f v xs) {k : Nat} (hk : v.ownBlock = some k) : ∃ c, w.heap[k]? = some (.cells c e (0, 0)) := by
  rcases h.2 with ⟨rfl, _⟩ | ⟨g, cap, cur, rfl, _, hg, _⟩
  · simp [Value.ownBlock] at hk
  · simp [Value.ownBlock] at hk; subst hk; exact ⟨cur, hg⟩

theorem Own.ne_map {K : Type} [DecidableEq K] {mk : K → Value} {m : Nat} {d : List (K × Value)} (h : Own w base e size f v xs) (hm : MapAt w mk m d) : v.ownBlock ≠ some m := by
  intro hk
  obtain ⟨c, hc⟩ := h.cells hk
  obtain ⟨es, cl, hh, _⟩ := hm
  rw [hc] at hh; simp at hh

theorem Own.ne_iter {K : Type} [DecidableEq K] {mk : K → Value} {m r : Nat} {d : List (K × Value)} {seen : List K} (h : Own w base e size f v xs) (hm : IterAt w mk m r d seen) : v.ownBlock ≠ some r := by
  intro hk
  obtain ⟨c, hc⟩ := h.cells hk
  obtain ⟨es, cl, sn, _, _, hh, _⟩ := hm
  rw [hc] at hh; simp at hh

theorem wp_app {o : Oper} {a : Act} {K : Act → World → Prop} {Q : Exit → Act → World → Prop} (s x : Operand) (t : TypeId)
    (ho : o.op = .call { callee := .builtin .append, args := #[s, x], argTypes := #[t, t] }) (ht : P.underlying t = some (.slice e)) (el : El P e z size bytes)
    (hs : a.eval s = v) (hown : Own w base e size f v xs) (ao : Option Addr) (m c : Nat) (hx : a.eval x = .slice ao m c) (ys : List α) (hm : ys.length = m) (hrow : RowIs w ao (ys.flatMap f))
    (hf : ∀ y, (f y).length = size) (h1 : ∀ y ∈ ys, ∀ u ∈ f y, u.oneCell' = true) (hlen : xs.length + ys.length ≤ 137438953472) (hbase : base ≤ w.heap.size) (hc : ao = none → c = 0)
    (hK : ∀ v' w', Hid (Own w' base e size f v' (xs ++ ys) ∧ Mod (fun k => v.ownBlock = some k) w w') → K (a.put o.dst v') w') : o.wp P a w K Q := by
  obtain ⟨i0, hi, hz0, hz1, hz2⟩ := info_parts el.row
  have hflat := fun l : List α => flat_length f size hf l
  cases ao with
  | some ad =>
    have hcells : ∀ j u, (ys.flatMap f)[j]? = some u → w.cell? (ad.add j) = some u := by
      intro j u hu
      obtain ⟨b, off, he, hcc⟩ := hrow j u hu
      simp only [Option.some.injEq] at he
      subst he
      rw [Addr.add_lit]
      exact hcc
    have hb : (xs.length + m) * bytes ≤ 140737488355328 := by
      have h1 := el.small
      have : (xs.length + m) * bytes ≤ 137438953472 * 1024 := Nat.mul_le_mul (by omega) h1
      omega
    refine wp_append_own w s x t ho base e i0 z size bytes ht hi hz0 hz1 hz2 el.cells el.pos v xs.length (xs.flatMap f) hs hown ad m c (ys.flatMap f) hx (by rw [hflat, hm]) hcells ?_ (by simp only [maxLen]; omega) hb hbase ?_
    · intro u hu
      obtain ⟨y, hy, hu⟩ := List.mem_flatMap.1 hu
      exact h1 y hy u hu
    · intro v' w' h2 h3 _
      refine hK v' w' ⟨?_, Mod.ofGrown h3 (fun k hk => hk)⟩
      subst hm
      unfold Own
      rw [List.length_append, List.flatMap_append]
      exact h2
  | none =>
    have hy : ys = [] := by
      cases ys with
      | nil => rfl
      | cons y ys =>
        exfalso
        have hp : 0 < ((y :: ys).flatMap f).length := by rw [hflat]; exact Nat.mul_pos (by simp) el.pos
        obtain ⟨b, off, he, _⟩ := hrow.at hp
        simp at he
    subst hy
    simp at hm
    subst hm
    have hc0 := hc rfl
    subst hc0
    have hrun := run_append_owned_none (P := P) w base t o.type e i0 size ht hi v xs.length (xs.flatMap f) hown
    unfold Oper.wp
    simp [execOp, ho, resolve, invoke, builtin, hs, hx, hrun, Result.andThen]
    exact hK v w ⟨by simpa using hown, Mod.refl _ _⟩

/-- In a walk. -/
theorem wpList_app {ops : Array Oper} {rest : List Oper} {o : Oper} {a : Act} {Q : Exit → Act → World → Prop} (hg : o.guard = none) (s x : Operand) (t : TypeId)
    (ho : o.op = .call { callee := .builtin .append, args := #[s, x], argTypes := #[t, t] }) (ht : P.underlying t = some (.slice e)) (el : El P e z size bytes)
    (hs : a.eval s = v) (hown : Own w base e size f v xs) (ao : Option Addr) (m c : Nat) (hx : a.eval x = .slice ao m c) (ys : List α) (hm : ys.length = m) (hrow : RowIs w ao (ys.flatMap f))
    (hf : ∀ y, (f y).length = size) (h1 : ∀ y ∈ ys, ∀ u ∈ f y, u.oneCell' = true) (hlen : xs.length + ys.length ≤ 137438953472) (hbase : base ≤ w.heap.size) (hc : ao = none → c = 0)
    (hK : ∀ v' w', Hid (Own w' base e size f v' (xs ++ ys) ∧ Mod (fun k => v.ownBlock = some k) w w') → wpList P ops Q rest (a.put o.dst v') w') : wpList P ops Q (o :: rest) a w :=
  wpList_plain hg fun _ hK' => wp_app s x t ho ht el hs hown ao m c hx ys hm hrow hf h1 hlen hbase hc (fun v' w' H => hK' _ _ (hK v' w' H))

/-- In a region that draws its order. -/
theorem step_app {ops : Array Oper} {o : Oper} {a : Act} {K : Act → World → Prop} {Q : Exit → Act → World → Prop} (hg : o.guard = none) (s x : Operand) (t : TypeId)
    (ho : o.op = .call { callee := .builtin .append, args := #[s, x], argTypes := #[t, t] }) (ht : P.underlying t = some (.slice e)) (el : El P e z size bytes)
    (hs : a.eval s = v) (hown : Own w base e size f v xs) (ao : Option Addr) (m c : Nat) (hx : a.eval x = .slice ao m c) (ys : List α) (hm : ys.length = m) (hrow : RowIs w ao (ys.flatMap f))
    (hf : ∀ y, (f y).length = size) (h1 : ∀ y ∈ ys, ∀ u ∈ f y, u.oneCell' = true) (hlen : xs.length + ys.length ≤ 137438953472) (hbase : base ≤ w.heap.size) (hc : ao = none → c = 0)
    (hK : ∀ v' w', Hid (Own w' base e size f v' (xs ++ ys) ∧ Mod (fun k => v.ownBlock = some k) w w') → K (a.put o.dst v') w') :
    if Region.wanted o (yielded ops a.tmps) = true then o.wp P a w K Q else K (a.put o.dst undef) w := by
  rw [if_pos (by simp [Region.wanted, hg])]
  exact wp_app s x t ho ht el hs hown ao m c hx ys hm hrow hf h1 hlen hbase hc hK

end
end Cdk
/-
  A region that draws its order, walked in ONE order that is named beforehand: an operation marked true yields the same value in every world of the class C, one marked false is the only one that may come up next.
-/
namespace Cdk
open Go Go.RowKit

def schedOk (md : Region.Mode) (ops : Array Oper) : List (Nat × Bool) → Array Bool → Bool
  | [], listed => (Region.ready md ops listed).isEmpty
  | (i, true) :: r, listed => (Region.ready md ops listed).contains i && Region.free md ops listed i && schedOk md ops r (listed.setIfInBounds i true)
  | (i, false) :: r, listed => Region.ready md ops listed == [i] && schedOk md ops r (listed.setIfInBounds i true)

section
variable {P : Program} {ops : Array Oper} {C : World → Prop} {Q : Exit → Act → World → Prop}

def wpS (P : Program) (ops : Array Oper) (C : World → Prop) (Q : Exit → Act → World → Prop) : List (Oper × Bool) → Act → World → Prop
  | [], a, w => Q .normal a w
  | (o, true) :: r, a, w => ∃ v, YieldsIf P ops C o v a ∧ wpS P ops C Q r (a.put o.dst v) w
  | (o, false) :: r, a, w =>
    if Region.wanted o (yielded ops a.tmps) = true then o.wp P a w (fun a' w' => C w' ∧ wpS P ops C Q r a' w') Q else wpS P ops C Q r (a.put o.dst undef) w

def schedOps (ops : List Oper) (sch : List (Nat × Bool)) : List (Oper × Bool) := sch.map fun p => (ops.getD p.1 default, p.2)

theorem wpS_sound {md : Region.Mode} {l : List Oper} (hno : Region.noSelect l.toArray = true) (hQ : ∀ c a d v w, Q (.panic c) (Act.put a d v) w → Q (.panic c) a w) :
    ∀ (sch : List (Nat × Bool)) (fuel : Nat) (listed : Array Bool) (a : Act) (w : World), sch.length ≤ fuel → schedOk md l.toArray sch listed = true → C w →
      wpS P l.toArray C Q (schedOps l sch) a w → wpAnyH P md l.toArray Q C fuel listed a w
  | [], fuel, listed, a, w, _, hok, hC, h => by
    simp only [schedOk, List.isEmpty_iff] at hok
    exact wpAnyH_done hok h fuel
  | (i, true) :: r, 0, listed, a, w, hf, hok, hC, h => by simp at hf
  | (i, false) :: r, 0, listed, a, w, hf, hok, hC, h => by simp at hf
  | (i, true) :: r, fuel + 1, listed, a, w, hf, hok, hC, h => by
    simp only [schedOk, Bool.and_eq_true] at hok
    obtain ⟨⟨hr, hfree⟩, hok⟩ := hok
    obtain ⟨v, hy, h⟩ := h
    have hi : l.toArray[i]? = some (l.getD i default) := by
      have hm : i ∈ Region.ready md l.toArray listed := by simpa using hr
      have : i < l.length := by
        simp only [Region.ready, List.mem_filter, List.mem_range] at hm
        simpa using hm.1
      simp [List.getD, this]
    exact wpAnyH_take hi hno hfree hr (fun c a w h => hQ c a _ v w h) hy hC (wpS_sound hno hQ r fuel _ _ _ (by simpa using hf) hok hC h)
  | (i, false) :: r, fuel + 1, listed, a, w, hf, hok, hC, h => by
    simp only [schedOk, Bool.and_eq_true, beq_iff_eq] at hok
    obtain ⟨hr, hok⟩ := hok
    refine wpAnyH_all hr (by simp) ?_
    intro j hj
    simp at hj
    subst hj
    have hi : l.toArray[j]? = some (l.getD j default) := by
      have hm : j ∈ Region.ready md l.toArray listed := by rw [hr]; simp
      have : j < l.length := by
        simp only [Region.ready, List.mem_filter, List.mem_range] at hm
        simpa using hm.1
      simp [List.getD, this]
    unfold wpOp
    simp only [hi]
    simp only [schedOps, List.map_cons, wpS] at h
    by_cases hw : Region.wanted (l.getD j default) (yielded l.toArray a.tmps) = true
    · rw [if_pos hw] at h ⊢
      exact .inl (Oper.wp_mono (fun a' w' ⟨hC', h'⟩ => ⟨hC', wpS_sound hno hQ r fuel _ _ _ (by simpa using hf) hok hC' h'⟩) h)
    · rw [if_neg hw] at h ⊢
      exact ⟨hC, wpS_sound hno hQ r fuel _ _ _ (by simpa using hf) hok hC h⟩

/-- THE LAW. sch: the order, each number with its mark. -/
theorem wp_region_sched {id : Nat} {l : List Oper} {a : Act} {w : World} (C : World → Prop) (sch : List (Nat × Bool)) (hm : P.follows .mixedOrders = true)
    (hno : Region.noSelect l.toArray = true) (hok : schedOk .any l.toArray sch (Array.replicate l.length false) = true) (hlen : sch.length ≤ l.length)
    (hC : C w.drew) (h : wpS P l.toArray C (NoPanic Q) (schedOps l sch) a w.drew) : (Code.region id l.toArray true).wp P Q a w := by
  refine wp_region_noPanic (wp_region_held (S := C) hm ?_)
  have := wpS_sound (md := .any) hno (fun _ _ _ _ _ h => h) sch l.length (Array.replicate l.length false) a w.drew hlen hok hC h
  exact this

theorem wpS_nil {a : Act} {w : World} (h : Q .normal a w) : wpS P ops C (NoPanic Q) [] a w := h
theorem wpS_q {o : Oper} {r : List (Oper × Bool)} {a : Act} {w : World} (hg : Region.wanted o (yielded ops a.tmps) = true) (v : Value) (h1 : ∀ w', C w' → (execOp a.eval o).run P w' = .ok (.value v) w')
    (h2 : wpS P ops C Q r (a.put o.dst v) w) : wpS P ops C Q ((o, true) :: r) a w := ⟨v, .inl ⟨hg, h1⟩, h2⟩
theorem wpS_no {o : Oper} {r : List (Oper × Bool)} {a : Act} {w : World} {b : Bool} (hg : Region.wanted o (yielded ops a.tmps) = false) (h2 : wpS P ops C Q r (a.put o.dst undef) w) : wpS P ops C Q ((o, b) :: r) a w := by
  cases b
  · simp only [wpS, hg]; exact h2
  · exact ⟨undef, .inr ⟨hg, rfl⟩, h2⟩
/-- The way back into the region, closed to the walk. -/
theorem wpS_c {o : Oper} {r : List (Oper × Bool)} {a : Act} {w : World} (hg : Region.wanted o (yielded ops a.tmps) = true)
    (h : ∀ K : Act → World → Prop, Hid (∀ a' w', C w' → wpS P ops C Q r a' w' → K a' w') → o.wp P a w K Q) : wpS P ops C Q ((o, false) :: r) a w := by
  simp only [wpS, hg, if_true]
  exact h _ (fun a' w' h1 h2 => ⟨h1, h2⟩)

end
end Cdk
/-
  A region that draws its order and ends in ONE operation that waits for all others (a store): as in Sched, but that last operation may leave the class C.
-/
namespace Cdk
open Go Go.RowKit

/-- An operation that does not ask the world. -/
def pureOp (o : Oper) : Bool :=
  match o.op with
  | .move _ => true
  | .nilCheck _ => true
  | .fieldAddr _ _ _ => true
  | _ => false

/-- Operation j waits for all others that ask the world. -/
def lastOp (md : Region.Mode) (ops : Array Oper) (j : Nat) : Bool :=
  match ops[j]? with
  | some o => (List.range ops.size).all fun i => i == j || (ops[i]?.map pureOp).getD false || o.after.any (fun e => Region.binds md e && e.on == i)
  | none => false

section
variable {P : Program} {ops : Array Oper} {Q : Exit → Act → World → Prop} {md : Region.Mode} {S : World → Prop}

theorem lastOp_spec {j i : Nat} {oj oi : Oper} (h : lastOp md ops j = true) (hj : ops[j]? = some oj) (hi : ops[i]? = some oi) (hp : pureOp oi = false) (hne : j ≠ i) : ∃ e ∈ oj.after, Region.binds md e = true ∧ e.on = i := by
  unfold lastOp at h
  rw [hj] at h
  simp only [List.all_eq_true, List.mem_range, Bool.or_eq_true, beq_iff_eq] at h
  rcases h i (Array.getElem?_eq_some_iff.1 hi).1 with (h | h) | h
  · exact absurd h.symm hne
  · rw [hi] at h; simp [hp] at h
  · rw [Array.any_eq_true'] at h
    obtain ⟨e, he, h⟩ := h
    simp only [Bool.and_eq_true, beq_iff_eq] at h
    exact ⟨e, he, h.1, h.2⟩

def wpAnyL (P : Program) (md : Region.Mode) (ops : Array Oper) (Q : Exit → Act → World → Prop) (S : World → Prop) : Nat → Array Bool → Act → World → Prop
  | 0, listed, a, w => Region.ready md ops listed = [] ∧ Q .normal a w
  | fuel + 1, listed, a, w =>
    (Region.ready md ops listed = [] → Q .normal a w) ∧
    ∀ i ∈ Region.ready md ops listed, wpOp P ops Q i (fun a' w' => (S w → lastOp md ops i = true ∨ S w') ∧ wpAnyL P md ops Q S fuel (listed.setIfInBounds i true) a' w') a w

theorem wpAny_of_last : ∀ (fuel : Nat) (listed : Array Bool) (a : Act) (w : World), wpAnyL P md ops Q S fuel listed a w → wpAny P md ops Q fuel listed a w
  | 0, _, _, _, h => h
  | fuel + 1, _, _, _, h => ⟨h.1, fun i hi => wpOp_mono (fun a' w' h' => wpAny_of_last fuel _ a' w' h'.2) (h.2 i hi)⟩

theorem wpAnyL_first {i : Nat} {oi : Oper} {v : Value} (hi : ops[i]? = some oi) (hp : pureOp oi = false) (hsel : ∀ (j : Nat) (o : Oper) cs b, ops[j]? = some o → o.op ≠ .select cs b)
    (hQ : ∀ c a w, Q (.panic c) (a.put oi.dst v) w → Q (.panic c) a w) :
    ∀ (fuel : Nat) (listed : Array Bool) (a : Act) (w : World),
      (∀ j oj, ops[j]? = some oj → j ≠ i → listed.getD j true = false → (∀ e ∈ oj.after, Region.binds md e = true → e.on ≠ i) → oi.apart ops oj = true) →
      i ∈ Region.ready md ops listed → YieldsIf P ops S oi v a → S w →
      wpAnyL P md ops Q S fuel (listed.setIfInBounds i true) (a.put oi.dst v) w → wpAnyL P md ops Q S (fuel + 1) listed a w := by
  intro fuel
  induction fuel with
  | zero =>
    intro listed a w _ hr hy hS H
    refine ⟨fun h => (by rw [h] at hr; cases hr), fun j hj => ?_⟩
    by_cases hji : j = i
    · subst hji; exact hy.wpOp hi hS ⟨.inr, H⟩
    · have := ready_mono hj hji
      rw [H.1] at this
      cases this
  | succ fuel ih =>
    intro listed a w hfree hr hy hS H
    refine ⟨fun h => (by rw [h] at hr; cases hr), fun j hj => ?_⟩
    by_cases hji : j = i
    · subst hji; exact hy.wpOp hi hS ⟨.inr, H⟩
    · have h1 := H.2 j (ready_mono hj hji)
      obtain ⟨hjun, oj, hoj, hall⟩ := mem_ready.1 hj
      have hnot : ∀ e ∈ oj.after, Region.binds md e = true → e.on ≠ i := fun e he hb heq => by
        have h1 := hall e he hb
        have h0 := (mem_ready.1 hr).1
        rw [heq] at h1
        rcases Nat.lt_or_ge i listed.size with h' | h'
        · simp [h'] at h0 h1; rw [h0] at h1; cases h1
        · simp [Array.getElem?_eq_none h'] at h1
      have hnl : ∀ w' : World, (S w → lastOp md ops j = true ∨ S w') → S w' := fun w' h => by
        rcases h hS with h | h
        · obtain ⟨e, he, hb, ho⟩ := lastOp_spec h hoj hi hp hji
          exact absurd ho (hnot e he hb)
        · exact h
      have h2 := wpOp_putIf hoj (hfree j oj hoj hji hjun hnot) (fun cs b => hsel i oi cs b hi) (fun cs b => hsel j oj cs b hoj) hQ hy h1
      have hfree' : ∀ k ok, ops[k]? = some ok → k ≠ i → (listed.setIfInBounds j true).getD k true = false →
          (∀ e ∈ ok.after, Region.binds md e = true → e.on ≠ i) → oi.apart ops ok = true := fun k ok hk hki hun hno => by
        refine hfree k ok hk hki ?_ hno
        by_cases hjk : j = k
        · subst hjk; exact hjun
        · rw [getD_set_ne true hjk] at hun; exact hun
      refine wpOp_mono (fun a' w' h3 => ⟨fun _ => .inr (hnl w' h3.2.1), ih (listed.setIfInBounds j true) a' w' hfree' (ready_mono hr (Ne.symm hji)) h3.1 (hnl w' h3.2.1) ?_⟩) h2
      rw [Array.setIfInBounds_comm _ _ hji]
      exact h3.2.2

theorem wpAnyL_firstP {i : Nat} {oi : Oper} {v : Value} (hi : ops[i]? = some oi) (hsel : ∀ (j : Nat) (o : Oper) cs b, ops[j]? = some o → o.op ≠ .select cs b)
    (hQ : ∀ c a w, Q (.panic c) (a.put oi.dst v) w → Q (.panic c) a w) :
    ∀ (fuel : Nat) (listed : Array Bool) (a : Act) (w : World),
      (∀ j oj, ops[j]? = some oj → j ≠ i → listed.getD j true = false → (∀ e ∈ oj.after, Region.binds md e = true → e.on ≠ i) → oi.apart ops oj = true) →
      i ∈ Region.ready md ops listed → YieldsIf P ops (fun _ => True) oi v a →
      wpAnyL P md ops Q S fuel (listed.setIfInBounds i true) (a.put oi.dst v) w → wpAnyL P md ops Q S (fuel + 1) listed a w := by
  intro fuel
  induction fuel with
  | zero =>
    intro listed a w _ hr hy H
    refine ⟨fun h => (by rw [h] at hr; cases hr), fun j hj => ?_⟩
    by_cases hji : j = i
    · subst hji; exact hy.wpOp hi trivial ⟨.inr, H⟩
    · have := ready_mono hj hji
      rw [H.1] at this
      cases this
  | succ fuel ih =>
    intro listed a w hfree hr hy H
    refine ⟨fun h => (by rw [h] at hr; cases hr), fun j hj => ?_⟩
    by_cases hji : j = i
    · subst hji; exact hy.wpOp hi trivial ⟨.inr, H⟩
    · have h1 := H.2 j (ready_mono hj hji)
      obtain ⟨hjun, oj, hoj, hall⟩ := mem_ready.1 hj
      have hnot : ∀ e ∈ oj.after, Region.binds md e = true → e.on ≠ i := fun e he hb heq => by
        have h1 := hall e he hb
        have h0 := (mem_ready.1 hr).1
        rw [heq] at h1
        rcases Nat.lt_or_ge i listed.size with h' | h'
        · simp [h'] at h0 h1; rw [h0] at h1; cases h1
        · simp [Array.getElem?_eq_none h'] at h1
      have h2 := wpOp_putIf hoj (hfree j oj hoj hji hjun hnot) (fun cs b => hsel i oi cs b hi) (fun cs b => hsel j oj cs b hoj) hQ hy h1
      have hfree' : ∀ k ok, ops[k]? = some ok → k ≠ i → (listed.setIfInBounds j true).getD k true = false →
          (∀ e ∈ ok.after, Region.binds md e = true → e.on ≠ i) → oi.apart ops ok = true := fun k ok hk hki hun hno => by
        refine hfree k ok hk hki ?_ hno
        by_cases hjk : j = k
        · subst hjk; exact hjun
        · rw [getD_set_ne true hjk] at hun; exact hun
      refine wpOp_mono (fun a' w' h3 => ⟨h3.2.1, ih (listed.setIfInBounds j true) a' w' hfree' (ready_mono hr (Ne.symm hji)) h3.1 ?_⟩) h2
      rw [Array.setIfInBounds_comm _ _ hji]
      exact h3.2.2

theorem wpAnyL_take {i : Nat} {oi : Oper} {v : Value} {fuel : Nat} {listed : Array Bool} {a : Act} {w : World} (hi : ops[i]? = some oi)
    (hs : Region.noSelect ops = true) (hf : Region.free md ops listed i = true) (hr : (Region.ready md ops listed).contains i = true)
    (hQ : ∀ c a w, Q (.panic c) (a.put oi.dst v) w → Q (.panic c) a w) (hy : YieldsIf P ops (fun _ => True) oi v a ∨ (pureOp oi = false ∧ YieldsIf P ops S oi v a ∧ S w))
    (h : wpAnyL P md ops Q S fuel (listed.setIfInBounds i true) (a.put oi.dst v) w) : wpAnyL P md ops Q S (fuel + 1) listed a w :=
by
  rcases hy with hy | ⟨hp, hy, hS⟩
  · exact wpAnyL_firstP hi (Region.noSelect_spec hs) hQ fuel listed a w (Region.free_spec hi hf) (by simpa using hr) hy h
  · exact wpAnyL_first hi hp (Region.noSelect_spec hs) hQ fuel listed a w (Region.free_spec hi hf) (by simpa using hr) hy hS h

theorem wpAnyL_all {rs : List Nat} {fuel : Nat} {listed : Array Bool} {a : Act} {w : World} (hr : Region.ready md ops listed = rs) (hne : rs ≠ [])
    (h : ∀ i ∈ rs, wpOp P ops Q i (fun a' w' => (S w → lastOp md ops i = true ∨ S w') ∧ wpAnyL P md ops Q S fuel (listed.setIfInBounds i true) a' w') a w) : wpAnyL P md ops Q S (fuel + 1) listed a w :=
  ⟨fun h0 => absurd (hr ▸ h0) hne, hr ▸ h⟩

theorem wpAnyL_done {listed : Array Bool} {a : Act} {w : World} (hr : Region.ready md ops listed = []) (h : Q .normal a w) :
    ∀ fuel, wpAnyL P md ops Q S fuel listed a w
  | 0 => ⟨hr, h⟩
  | _ + 1 => ⟨fun _ => h, by rw [hr]; simp⟩
end

def schedOkL (md : Region.Mode) (ops : Array Oper) : List (Nat × Bool) → Array Bool → Bool
  | [], listed => (Region.ready md ops listed).isEmpty
  | (i, true) :: r, listed => (Region.ready md ops listed).contains i && Region.free md ops listed i && schedOkL md ops r (listed.setIfInBounds i true)
  | (i, false) :: r, listed => Region.ready md ops listed == [i] && (!r.isEmpty || lastOp md ops i) && schedOkL md ops r (listed.setIfInBounds i true)

section
variable {P : Program} {ops : Array Oper} {C : World → Prop} {Q : Exit → Act → World → Prop}

def wpT (P : Program) (ops : Array Oper) (C : World → Prop) (Q : Exit → Act → World → Prop) : List (Oper × Bool) → Act → World → Prop
  | [], a, w => Q .normal a w
  | (o, true) :: r, a, w => ∃ v, (YieldsIf P ops (fun _ => True) o v a ∨ (pureOp o = false ∧ YieldsIf P ops C o v a)) ∧ wpT P ops C Q r (a.put o.dst v) w
  | (o, false) :: r, a, w =>
    if Region.wanted o (yielded ops a.tmps) = true then o.wp P a w (fun a' w' => (r = [] ∨ C w') ∧ wpT P ops C Q r a' w') Q else wpT P ops C Q r (a.put o.dst undef) w

theorem wpT_sound {md : Region.Mode} {l : List Oper} (hno : Region.noSelect l.toArray = true) (hQ : ∀ c a d v w, Q (.panic c) (Act.put a d v) w → Q (.panic c) a w) :
    ∀ (sch : List (Nat × Bool)) (fuel : Nat) (listed : Array Bool) (a : Act) (w : World), sch.length ≤ fuel → schedOkL md l.toArray sch listed = true → C w →
      wpT P l.toArray C Q (schedOps l sch) a w → wpAnyL P md l.toArray Q C fuel listed a w
  | [], fuel, listed, a, w, _, hok, hC, h => by
    simp only [schedOkL, List.isEmpty_iff] at hok
    exact wpAnyL_done hok h fuel
  | (i, true) :: r, 0, listed, a, w, hf, hok, hC, h => by simp at hf
  | (i, false) :: r, 0, listed, a, w, hf, hok, hC, h => by simp at hf
  | (i, true) :: r, fuel + 1, listed, a, w, hf, hok, hC, h => by
    simp only [schedOkL, Bool.and_eq_true] at hok
    obtain ⟨⟨hr, hfree⟩, hok⟩ := hok
    obtain ⟨v, hy, h⟩ := h
    have hi : l.toArray[i]? = some (l.getD i default) := by
      have hm : i ∈ Region.ready md l.toArray listed := by simpa using hr
      have : i < l.length := by
        simp only [Region.ready, List.mem_filter, List.mem_range] at hm
        simpa using hm.1
      simp [List.getD, this]
    exact wpAnyL_take hi hno hfree hr (fun c a w h => hQ c a _ v w h) (hy.imp id (fun h => ⟨h.1, h.2, hC⟩)) (wpT_sound hno hQ r fuel _ _ _ (by simpa using hf) hok hC h)
  | (i, false) :: r, fuel + 1, listed, a, w, hf, hok, hC, h => by
    simp only [schedOkL, Bool.and_eq_true, beq_iff_eq] at hok
    obtain ⟨⟨hr, hlast⟩, hok⟩ := hok
    refine wpAnyL_all hr (by simp) ?_
    intro j hj
    simp at hj
    subst hj
    have hi : l.toArray[j]? = some (l.getD j default) := by
      have hm : j ∈ Region.ready md l.toArray listed := by rw [hr]; simp
      have : j < l.length := by
        simp only [Region.ready, List.mem_filter, List.mem_range] at hm
        simpa using hm.1
      simp [List.getD, this]
    unfold wpOp
    simp only [hi]
    simp only [schedOps, List.map_cons, wpT] at h
    by_cases hw : Region.wanted (l.getD j default) (yielded l.toArray a.tmps) = true
    · rw [if_pos hw] at h ⊢
      refine .inl (Oper.wp_mono (fun a' w' ⟨hC', h'⟩ => ⟨fun _ => hC'.imp (fun h0 => by cases r with | nil => simpa using hlast | cons x r => simp at h0) id, ?_⟩) h)
      cases r with
      | nil => exact wpAnyL_done (by simpa [schedOkL, List.isEmpty_iff] using hok) h' fuel
      | cons x r => exact wpT_sound hno hQ (x :: r) fuel _ _ _ (by simpa using hf) hok (hC'.resolve_left (by simp)) h'
    · rw [if_neg hw] at h ⊢
      exact ⟨.inr, wpT_sound hno hQ r fuel _ _ _ (by simpa using hf) hok hC h⟩

/-- THE LAW. sch: the order, each number with its mark. -/
theorem wp_region_schedE {id : Nat} {l : List Oper} {a : Act} {w : World} (C : World → Prop) (sch : List (Nat × Bool)) (hm : P.follows .mixedOrders = true)
    (hno : Region.noSelect l.toArray = true) (hok : schedOkL .any l.toArray sch (Array.replicate l.length false) = true) (hlen : sch.length ≤ l.length)
    (hC : C w.drew) (h : wpT P l.toArray C (NoPanic Q) (schedOps l sch) a w.drew) : (Code.region id l.toArray true).wp P Q a w := by
  refine wp_region_noPanic (wp_region_any hm (wpAny_of_last (S := C) _ _ _ _ ?_))
  have := wpT_sound (md := .any) hno (fun _ _ _ _ _ h => h) sch l.length (Array.replicate l.length false) a w.drew hlen hok hC h
  exact this

theorem wpT_nil {a : Act} {w : World} (h : Q .normal a w) : wpT P ops C (NoPanic Q) [] a w := h
theorem wpT_q {o : Oper} {r : List (Oper × Bool)} {a : Act} {w : World} (hp : pureOp o = false) (hg : Region.wanted o (yielded ops a.tmps) = true) (v : Value) (h1 : ∀ w', C w' → (execOp a.eval o).run P w' = .ok (.value v) w')
    (h2 : wpT P ops C Q r (a.put o.dst v) w) : wpT P ops C Q ((o, true) :: r) a w := ⟨v, .inr ⟨hp, .inl ⟨hg, h1⟩⟩, h2⟩
theorem wpT_p {o : Oper} {r : List (Oper × Bool)} {a : Act} {w : World} (_hp : pureOp o = true) (hg : Region.wanted o (yielded ops a.tmps) = true) (v : Value) (h1 : ∀ w', True → (execOp a.eval o).run P w' = .ok (.value v) w')
    (h2 : wpT P ops C Q r (a.put o.dst v) w) : wpT P ops C Q ((o, true) :: r) a w := ⟨v, .inl (.inl ⟨hg, h1⟩), h2⟩
theorem wpT_no {o : Oper} {r : List (Oper × Bool)} {a : Act} {w : World} {b : Bool} (hg : Region.wanted o (yielded ops a.tmps) = false) (h2 : wpT P ops C Q r (a.put o.dst undef) w) : wpT P ops C Q ((o, b) :: r) a w := by
  cases b
  · simp only [wpT, hg]; exact h2
  · exact ⟨undef, .inl (.inr ⟨hg, rfl⟩), h2⟩
/-- The way back into the region, closed to the walk. -/
theorem wpT_c {o : Oper} {r : List (Oper × Bool)} {a : Act} {w : World} (hg : Region.wanted o (yielded ops a.tmps) = true)
    (h : ∀ K : Act → World → Prop, Hid (∀ a' w', C w' → wpT P ops C Q r a' w' → K a' w') → o.wp P a w K Q) : wpT P ops C Q ((o, false) :: r) a w := by
  simp only [wpT, hg, if_true]
  exact h _ (fun a' w' h1 h2 => ⟨.inr h1, h2⟩)
/-- The last operation. -/
theorem wpT_e {o : Oper} {a : Act} {w : World} (hg : Region.wanted o (yielded ops a.tmps) = true)
    (h : ∀ K : Act → World → Prop, Hid (∀ a' w', Q .normal a' w' → K a' w') → o.wp P a w K (NoPanic Q)) : wpT P ops C (NoPanic Q) [(o, false)] a w := by
  simp only [wpT, hg, if_true]
  exact h _ (fun a' w' h1 => ⟨.inl trivial, h1⟩)

end
end Cdk
/-
  A region that draws its order, walked along a TREE of orders that is named beforehand: a node says which quiet operation is taken next, or all operations that may come up next; a class of worlds may be made narrower on the way.
-/
namespace Cdk
open Go Go.RowKit

inductive Tr
  | done
  | q (i : Nat) (t : Tr)
  | c1 (i : Nat) (t : Tr)
  | c2 (i : Nat) (t : Tr) (j : Nat) (u : Tr)
  | c3 (i : Nat) (t : Tr) (j : Nat) (u : Tr) (k : Nat) (v : Tr)
  | s (t : Tr)

def trOk (md : Region.Mode) (ops : Array Oper) : Tr → Array Bool → Bool
  | .done, L => (Region.ready md ops L).isEmpty
  | .q i t, L => (Region.ready md ops L).contains i && Region.free md ops L i && trOk md ops t (L.setIfInBounds i true)
  | .c1 i t, L => Region.ready md ops L == [i] && trOk md ops t (L.setIfInBounds i true)
  | .c2 i t j u, L => Region.ready md ops L == [i, j] && trOk md ops t (L.setIfInBounds i true) && trOk md ops u (L.setIfInBounds j true)
  | .c3 i t j u k v, L => Region.ready md ops L == [i, j, k] && trOk md ops t (L.setIfInBounds i true) && trOk md ops u (L.setIfInBounds j true) && trOk md ops v (L.setIfInBounds k true)
  | .s t, L => trOk md ops t L

def trLen : Tr → Nat
  | .done => 0
  | .q _ t => trLen t + 1
  | .c1 _ t => trLen t + 1
  | .c2 _ t _ u => max (trLen t) (trLen u) + 1
  | .c3 _ t _ u _ v => max (trLen t) (max (trLen u) (trLen v)) + 1
  | .s t => trLen t

section
variable {P : Program} {Q : Exit → Act → World → Prop}

def wpN (P : Program) (ops : Array Oper) (C : World → Prop) (Q : Exit → Act → World → Prop) (o : Oper) (R : Act → World → Prop) (a : Act) (w : World) : Prop :=
  if Region.wanted o (yielded ops a.tmps) = true then o.wp P a w (fun a' w' => C w' ∧ R a' w') Q else R (a.put o.dst undef) w

def wpTr (P : Program) (l : List Oper) (Q : Exit → Act → World → Prop) : Tr → (World → Prop) → Act → World → Prop
  | .done, _, a, w => Q .normal a w
  | .q i t, C, a, w => ∃ v, YieldsIf P l.toArray C (l.getD i default) v a ∧ wpTr P l Q t C (a.put (l.getD i default).dst v) w
  | .c1 i t, C, a, w => wpN P l.toArray C Q (l.getD i default) (wpTr P l Q t C) a w
  | .c2 i t j u, C, a, w => wpN P l.toArray C Q (l.getD i default) (wpTr P l Q t C) a w ∧ wpN P l.toArray C Q (l.getD j default) (wpTr P l Q u C) a w
  | .c3 i t j u k v, C, a, w => wpN P l.toArray C Q (l.getD i default) (wpTr P l Q t C) a w ∧ wpN P l.toArray C Q (l.getD j default) (wpTr P l Q u C) a w ∧ wpN P l.toArray C Q (l.getD k default) (wpTr P l Q v C) a w
  | .s t, C, a, w => ∃ C' : World → Prop, (∀ w', C' w' → C w') ∧ C' w ∧ wpTr P l Q t C' a w

theorem wpAnyH_mono {md : Region.Mode} {ops : Array Oper} {C C' : World → Prop} (hC : ∀ w, C' w → C w) : ∀ (fuel : Nat) (L : Array Bool) (a : Act) (w : World), wpAnyH P md ops Q C' fuel L a w → wpAnyH P md ops Q C fuel L a w
  | 0, _, _, _, h => h
  | fuel + 1, _, _, _, h => ⟨h.1, fun i hi => wpOp_mono (fun _ _ h' => ⟨hC _ h'.1, wpAnyH_mono hC fuel _ _ _ h'.2⟩) (h.2 i hi)⟩

theorem wpN_op {md : Region.Mode} {l : List Oper} {L : Array Bool} {C : World → Prop} {i : Nat} {R R' : Act → World → Prop} {a : Act} {w : World} (hm : i ∈ Region.ready md l.toArray L) (hC : C w) (h : wpN P l.toArray C Q (l.getD i default) R a w)
    (hR : ∀ a' w', C w' → R a' w' → R' a' w') : wpOp P l.toArray Q i (fun a' w' => C w' ∧ R' a' w') a w := by
  have hi : l.toArray[i]? = some (l.getD i default) := by
    have : i < l.length := by
      simp only [Region.ready, List.mem_filter, List.mem_range] at hm
      simpa using hm.1
    simp [List.getD, this]
  unfold wpOp
  simp only [hi]
  unfold wpN at h
  by_cases hw : Region.wanted (l.getD i default) (yielded l.toArray a.tmps) = true
  · rw [if_pos hw] at h ⊢
    exact .inl (Oper.wp_mono (fun a' w' ⟨hC', h'⟩ => ⟨hC', hR a' w' hC' h'⟩) h)
  · rw [if_neg hw] at h ⊢
    exact ⟨hC, hR _ _ hC h⟩

theorem wpTr_sound {md : Region.Mode} {l : List Oper} (hno : Region.noSelect l.toArray = true) (hQ : ∀ c a d v w, Q (.panic c) (Act.put a d v) w → Q (.panic c) a w) :
    ∀ (t : Tr) (C : World → Prop) (fuel : Nat) (L : Array Bool) (a : Act) (w : World), trLen t ≤ fuel → trOk md l.toArray t L = true → C w → wpTr P l Q t C a w → wpAnyH P md l.toArray Q C fuel L a w
  | .done, C, fuel, L, a, w, _, hok, _, h => by
    simp only [trOk, List.isEmpty_iff] at hok
    exact wpAnyH_done hok h fuel
  | .s t, C, fuel, L, a, w, hf, hok, _, h => by
    obtain ⟨C', h1, h2, h3⟩ := h
    exact wpAnyH_mono h1 fuel L a w (wpTr_sound hno hQ t C' fuel L a w hf hok h2 h3)
  | .q i t, C, 0, L, a, w, hf, _, _, _ => by simp [trLen] at hf
  | .c1 i t, C, 0, L, a, w, hf, _, _, _ => by simp [trLen] at hf
  | .c2 i t j u, C, 0, L, a, w, hf, _, _, _ => by simp [trLen] at hf
  | .c3 i t j u k v, C, 0, L, a, w, hf, _, _, _ => by simp [trLen] at hf
  | .q i t, C, fuel + 1, L, a, w, hf, hok, hC, h => by
    simp only [trOk, Bool.and_eq_true] at hok
    obtain ⟨⟨hr, hfree⟩, hok⟩ := hok
    obtain ⟨v, hy, h⟩ := h
    have hi : l.toArray[i]? = some (l.getD i default) := by
      have hm : i ∈ Region.ready md l.toArray L := by simpa using hr
      have : i < l.length := by
        simp only [Region.ready, List.mem_filter, List.mem_range] at hm
        simpa using hm.1
      simp [List.getD, this]
    simp only [trLen] at hf
    exact wpAnyH_take hi hno hfree hr (fun c a w h => hQ c a _ v w h) hy hC (wpTr_sound hno hQ t C fuel _ _ _ (by omega) hok hC h)
  | .c1 i t, C, fuel + 1, L, a, w, hf, hok, hC, h => by
    simp only [trOk, Bool.and_eq_true, beq_iff_eq] at hok
    simp only [trLen] at hf
    refine wpAnyH_all hok.1 (by simp) ?_
    intro j hj
    simp only [List.mem_singleton] at hj
    subst hj
    exact wpN_op (by rw [hok.1]; simp) hC h (fun a' w' hC' h' => wpTr_sound hno hQ t C fuel _ _ _ (by omega) hok.2 hC' h')
  | .c2 i t j u, C, fuel + 1, L, a, w, hf, hok, hC, h => by
    simp only [trOk, Bool.and_eq_true, beq_iff_eq] at hok
    obtain ⟨⟨hr, h1⟩, h2⟩ := hok
    simp only [trLen] at hf
    refine wpAnyH_all hr (by simp) ?_
    intro x hx
    simp only [List.mem_cons, List.not_mem_nil, or_false] at hx
    rcases hx with rfl | rfl
    · exact wpN_op (by rw [hr]; simp) hC h.1 (fun a' w' hC' h' => wpTr_sound hno hQ t C fuel _ _ _ (by omega) h1 hC' h')
    · exact wpN_op (by rw [hr]; simp) hC h.2 (fun a' w' hC' h' => wpTr_sound hno hQ u C fuel _ _ _ (by omega) h2 hC' h')
  | .c3 i t j u k v, C, fuel + 1, L, a, w, hf, hok, hC, h => by
    simp only [trOk, Bool.and_eq_true, beq_iff_eq] at hok
    obtain ⟨⟨⟨hr, h1⟩, h2⟩, h3⟩ := hok
    simp only [trLen] at hf
    refine wpAnyH_all hr (by simp) ?_
    intro x hx
    simp only [List.mem_cons, List.not_mem_nil, or_false] at hx
    rcases hx with rfl | rfl | rfl
    · exact wpN_op (by rw [hr]; simp) hC h.1 (fun a' w' hC' h' => wpTr_sound hno hQ t C fuel _ _ _ (by omega) h1 hC' h')
    · exact wpN_op (by rw [hr]; simp) hC h.2.1 (fun a' w' hC' h' => wpTr_sound hno hQ u C fuel _ _ _ (by omega) h2 hC' h')
    · exact wpN_op (by rw [hr]; simp) hC h.2.2 (fun a' w' hC' h' => wpTr_sound hno hQ v C fuel _ _ _ (by omega) h3 hC' h')

/-- THE LAW. t: the tree. -/
theorem wp_region_tree {id : Nat} {l : List Oper} {a : Act} {w : World} (t : Tr) (hm : P.follows .mixedOrders = true)
    (hno : Region.noSelect l.toArray = true) (hok : trOk .any l.toArray t (Array.replicate l.length false) = true) (hlen : trLen t ≤ l.length)
    (h : wpTr P l (NoPanic Q) t (fun _ => True) a w.drew) : (Code.region id l.toArray true).wp P Q a w := by
  refine wp_region_noPanic (wp_region_held (S := fun _ => True) hm ?_)
  have := wpTr_sound (md := .any) hno (fun _ _ _ _ _ h => h) t (fun _ => True) l.length (Array.replicate l.length false) a w.drew hlen hok trivial h
  exact this

theorem wpTr_done {l : List Oper} {C : World → Prop} {a : Act} {w : World} (h : Q .normal a w) : wpTr P l (NoPanic Q) .done C a w := h
theorem wpTr_q {l : List Oper} {C : World → Prop} {i : Nat} {t : Tr} {a : Act} {w : World} (o : Oper) (ho : l.getD i default = o) (hg : Region.wanted o (yielded l.toArray a.tmps) = true) (v : Value) (h1 : ∀ w', C w' → (execOp a.eval o).run P w' = .ok (.value v) w')
    (h2 : wpTr P l Q t C (a.put o.dst v) w) : wpTr P l Q (.q i t) C a w := by
  subst ho
  exact ⟨v, .inl ⟨hg, h1⟩, h2⟩
theorem wpTr_s {l : List Oper} {C : World → Prop} {t : Tr} {a : Act} {w : World} (C' : World → Prop) (h1 : ∀ w', C' w' → C w') (h2 : C' w) (h3 : wpTr P l Q t C' a w) : wpTr P l Q (.s t) C a w := ⟨C', h1, h2, h3⟩
/-- The way back into the region, closed to the walk. -/
theorem wpN_c {ops : Array Oper} {C : World → Prop} {o : Oper} {R : Act → World → Prop} {a : Act} {w : World} (hg : Region.wanted o (yielded ops a.tmps) = true)
    (h : ∀ K : Act → World → Prop, Hid (∀ a' w', C w' → R a' w' → K a' w') → o.wp P a w K Q) : wpN P ops C Q o R a w := by
  unfold wpN
  rw [if_pos hg]
  exact h _ (fun a' w' h1 h2 => ⟨h1, h2⟩)
theorem wpTr_c1 {l : List Oper} {C : World → Prop} {i : Nat} {t : Tr} {a : Act} {w : World} (o : Oper) (ho : l.getD i default = o) (h : wpN P l.toArray C Q o (wpTr P l Q t C) a w) : wpTr P l Q (.c1 i t) C a w := by subst ho; exact h
theorem wpTr_c2 {l : List Oper} {C : World → Prop} {i j : Nat} {t u : Tr} {a : Act} {w : World} (o1 o2 : Oper) (ho1 : l.getD i default = o1) (ho2 : l.getD j default = o2) (h1 : wpN P l.toArray C Q o1 (wpTr P l Q t C) a w) (h2 : wpN P l.toArray C Q o2 (wpTr P l Q u C) a w) : wpTr P l Q (.c2 i t j u) C a w := by
  subst ho1; subst ho2; exact ⟨h1, h2⟩
theorem wpTr_c3 {l : List Oper} {C : World → Prop} {i j k : Nat} {t u v : Tr} {a : Act} {w : World} (o1 o2 o3 : Oper) (ho1 : l.getD i default = o1) (ho2 : l.getD j default = o2) (ho3 : l.getD k default = o3) (h1 : wpN P l.toArray C Q o1 (wpTr P l Q t C) a w) (h2 : wpN P l.toArray C Q o2 (wpTr P l Q u C) a w) (h3 : wpN P l.toArray C Q o3 (wpTr P l Q v C) a w) : wpTr P l Q (.c3 i t j u k v) C a w := by
  subst ho1; subst ho2; subst ho3; exact ⟨h1, h2, h3⟩
end
end Cdk
namespace Cdk
open Go Go.ChangeShapes Go.WideShapes Go.ChangeAt Go.RowKit

theorem carried {P : Program} (hl : laidOutB P = true) {H : Type} {enc : TypeId × Value → H} {W W' : World} (hx : Ext W W') : ∀ (ts : List TypeId) (vs : List Value) (ds : List (DataW H)) (ps : List MemPlace),
    ts.all (fun t => P.readableRec t && decide (t < P.types.size)) = true → DataW.TrodAll enc P W 0 (fun _ => true) true ts vs ds ps →
    DataW.TrodAll enc P W' 0 (fun b => decide (b < W.heap.size)) true ts vs ds ps
  | [], _, _, _, _, h => by
    obtain ⟨rfl, rfl, rfl⟩ := trodAll_nil h
    rfl
  | t :: ts, _, _, _, hr, h => by
    have hlt := DataW.TrodAll.lt h
    obtain ⟨v, vs, d, ds, p, q, rfl, rfl, rfl, h1, h2⟩ := trodAll_cons h
    rw [List.all_cons, Bool.and_eq_true, Bool.and_eq_true, decide_eq_true_eq] at hr
    exact ⟨p, q, Below.trod hl hr.1.1 hr.1.2 h1 (hx.below (Nat.le_refl _) (fun _ hk => nomatch hk)) (fun x hp => hlt x (List.mem_append_left _ hp)), carried hl hx ts vs ds q hr.2 h2, rfl⟩

theorem post_true {P : Program} (hl : laidOutB P = true) {tb : TypeId} (htb : P.underlying tb = some .bool) {H : Type} {enc : TypeId × Value → H} {f : Func} {s : ChangeSpec} {apart fresh handsOn : Bool} {W W' : World} {args : Array Value} {ds gs : List (DataW H)} {before : List MemPlace}
    (hW : DataW.Whole enc P f.params.toList s.vars apart W args.toList ds gs before) (hr : f.params.toList.all (fun t => P.readableRec t && decide (t < P.types.size)) = true)
    (hv : s.vars = []) (hf : f.resultTypes = #[tb]) (h1 : (s.fn H (ds ++ gs)).results = [.lit (.bool true)]) (h2 : (s.fn H (ds ++ gs)).args = ds) (h3 : (s.fn H (ds ++ gs)).vars = []) (hx : Ext W W') :
    s.post enc P f apart fresh handsOn false W args (.bool true) W' := by
  have hW' := hW
  obtain ⟨p, q, hA, hV, rfl, -, -⟩ := hW
  refine ⟨ds, gs, _, [], p, [], hW', ?_, ?_, ?_, Below.frame (hx.below (Nat.le_refl _) (fun _ hk => nomatch hk)) _, fun h => nomatch h⟩
  · rw [h1, hf]
    exact trodAll_mk1 (shut_bool htb true)
  · rw [h2]
    exact carried hl hx _ _ _ _ hr hA
  · rw [hv, h3]
    rfl
end Cdk
