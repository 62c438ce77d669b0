/-
  A map's block read as a list of pairs, over any program: look-up, store, delete, len, range, next, entry. 'mk' makes a key's value: Value.string, Value.int .i64.
-/
import Derived.Test.YtpgniljgaknlpaaDoorBase
namespace Cdk
open Go Go.RowKit

set_option linter.unusedSectionVars false

theorem ba_beq (a b : ByteArray) : (a == b) = decide (a = b) := by
  cases a with | mk a => cases b with | mk b =>
  show (a == b) = _
  simp only [ByteArray.mk.injEq]
  by_cases h : a = b
  · subst h; simp
  · have : (a == b) = false := by simp [h]
    rw [this]; simp [h]

instance : LawfulBEq ByteArray where
  eq_of_beq := fun {a b} h => by rw [ba_beq] at h; simpa using h
  rfl := fun {a} => by rw [ba_beq]; simp

theorem filterMap_congr' {α β : Type} {f g : α → Option β} : ∀ {l : List α}, (∀ x ∈ l, f x = g x) → l.filterMap f = l.filterMap g
  | [], _ => rfl
  | x :: l, h => by
    simp only [List.filterMap_cons, h x (by simp)]
    rw [filterMap_congr' (fun y hy => h y (by simp [hy]))]

/-- '==' on strings, as the walk writes it. -/
theorem sEq_true {a b : ByteArray} (h : a = b) : (a.toList == b.toList) = true := by subst h; simp
theorem sEq_false {a b : ByteArray} (h : a ≠ b) : (a.toList == b.toList) = false := by
  rw [beq_eq_false_iff_ne]
  intro e
  apply h
  have e' : a.data.toList = b.data.toList := by rw [← ByteArray.toList_eq, ← ByteArray.toList_eq]; exact e
  cases a; cases b
  simp only [ByteArray.mk.injEq]
  exact Array.toList_inj.1 e'

theorem map_eraseIdx' {α β : Type} (f : α → β) : ∀ (l : List α) (j : Nat), (l.eraseIdx j).map f = (l.map f).eraseIdx j
  | [], _ => by simp
  | _ :: _, 0 => by simp
  | _ :: l, j + 1 => by simp [map_eraseIdx' f l j]

section
variable {K : Type} [DecidableEq K]

/-- The keys of this type are one cell that is compared by its value. -/
structure KeyOk (P : Program) (kt : TypeId) (mk : K → Value) : Prop where
  inj : ∀ a b, mk a = mk b → a = b
  und : ∃ desc, P.underlying kt = some desc ∧ (∀ a b, Instr.sameNow desc (mk a) (mk b) = some (decide (a = b))) ∧
    (∀ (e : Bool) (n : Nat) (a : K) (w : World), (Instr.checkKey e (n + 1) kt (mk a)).run P w = .ok () w)
  bits : ∀ a, Instr.sameBits 10000 (mk a) (mk a) = true

theorem keyOk_string {P : Program} {kt : TypeId} (h : P.underlying kt = some .string) : KeyOk P kt Value.string where
  inj := fun a b e => by injection e
  und := ⟨.string, h, fun a b => by
    simp only [Instr.sameNow, ba_beq], fun e n a w => by simp [Instr.checkKey, run_underlying h]⟩
  bits := fun a => by simp [Instr.sameBits]

theorem keyOk_int {P : Program} {kt : TypeId} {k : IntKind} (h : P.underlying kt = some (.int k)) : KeyOk P kt (Value.int k) where
  inj := fun a b e => by injection e
  und := ⟨.int k, h, fun a b => by
    simp only [Instr.sameNow, if_true]
    congr 1, fun e n a w => by simp [Instr.checkKey, run_underlying h]⟩
  bits := fun a => by simp [Instr.sameBits]

/-- Block m is a map that holds the pairs d, in the order in which they came. -/
def EntriesAre (mk : K → Value) (es : Array MapEntry) (clock : Nat) (d : List (K × Value)) : Prop :=
  es.toList.map (fun e => (e.key, e.val)) = d.map (fun p => (mk p.1, p.2)) ∧ (d.map (·.1)).Nodup ∧ (es.toList.map (·.born)).Nodup ∧ ∀ e ∈ es.toList, e.born < clock

def MapAt (w : World) (mk : K → Value) (m : Nat) (d : List (K × Value)) : Prop :=
  ∃ es clock, w.heap[m]? = some (.map es clock) ∧ EntriesAre mk es clock d

def assoc (d : List (K × Value)) (k : K) : Option Value := (d.find? (fun p => decide (p.1 = k))).map (·.2)

def upd (d : List (K × Value)) (k : K) (v : Value) : List (K × Value) :=
  if (assoc d k).isSome then d.map (fun p => if p.1 = k then (p.1, v) else p) else d ++ [(k, v)]

def del (d : List (K × Value)) (k : K) : List (K × Value) := d.filter (fun p => !decide (p.1 = k))

variable {P : Program} {kt : TypeId} {mk : K → Value} {w w' : World} {m : Nat} {d : List (K × Value)}

theorem MapAt.mod {S : Nat → Prop} (h : MapAt w mk m d) (hm : Mod S w w') (hs : ¬ S m) : MapAt w' mk m d := by
  obtain ⟨es, c, hh, he⟩ := h
  exact ⟨es, c, hm.at hh hs, he⟩

theorem MapAt.lt (h : MapAt w mk m d) : m < w.heap.size := by
  obtain ⟨es, c, hh, he⟩ := h
  exact lt_of_at hh

theorem MapAt.made (w : World) (mk : K → Value) : MapAt (w.alloc (.map #[] 0)) mk w.heap.size ([] : List (K × Value)) :=
  ⟨#[], 0, heap_alloc_new w _, by simp, by simp, by simp, by simp⟩

/-- The search among the entries finds the place that the list of pairs gives. -/
theorem findNow_list {desc : TypeDesc} (hsame : ∀ a b, Instr.sameNow desc (mk a) (mk b) = some (decide (a = b))) (k : K) :
    ∀ (es : List MapEntry) (d : List (K × Value)) (i : Nat), es.map (fun e => (e.key, e.val)) = d.map (fun p => (mk p.1, p.2)) →
      Instr.findNow desc (mk k) es i = some ((d.findIdx? (fun p => decide (p.1 = k))).map (fun j => (i + j, ((d[j]?).map (·.2)).getD undef)))
  | [], [], _, _ => by simp [Instr.findNow]
  | [], _ :: _, _, h => by simp at h
  | _ :: _, [], _, h => by simp at h
  | e :: es, p :: d, i, h => by
    simp only [List.map_cons, List.cons.injEq, Prod.mk.injEq] at h
    obtain ⟨⟨hk, hv⟩, ht⟩ := h
    simp only [Instr.findNow, hk, hsame]
    by_cases hkp : k = p.1
    · simp [hkp, List.findIdx?_cons, hv]
    · have hpk : ¬ p.1 = k := fun e => hkp e.symm
      simp only [hkp, decide_false]
      rw [findNow_list hsame k es d (i + 1) ht]
      simp only [List.findIdx?_cons, hpk, decide_false]
      cases hfi : d.findIdx? (fun p => decide (p.1 = k)) with
      | none => simp
      | some j => simp; omega

theorem assoc_findIdx (d : List (K × Value)) (k : K) :
    assoc d k = (d.findIdx? (fun p => decide (p.1 = k))).map (fun j => ((d[j]?).map (·.2)).getD undef) := by
  induction d with
  | nil => simp [assoc]
  | cons p d ih =>
    by_cases h : p.1 = k
    · simp [assoc, List.findIdx?_cons, h]
    · simp only [assoc, List.find?_cons, h, decide_false, List.findIdx?_cons]
      simp only [assoc] at ih
      rw [ih]
      cases hfi : d.findIdx? (fun p => decide (p.1 = k)) with
      | none => simp
      | some j => simp

theorem findKey_run (ok : KeyOk P kt mk) (k : K) (es : Array MapEntry) (clock : Nat) (he : EntriesAre mk es clock d) (w : World) :
    (Instr.findKey kt (mk k) es.toList).run P w = .ok ((d.findIdx? (fun p => decide (p.1 = k))).map (fun j => (j, ((d[j]?).map (·.2)).getD undef))) w := by
  obtain ⟨desc, hu, hs, _⟩ := ok.und
  simp [Instr.findKey, run_underlying hu, findNow_list hs k es.toList d 0 he.1]

theorem run_checkKey (ok : KeyOk P kt mk) (e : Bool) (k : K) (w : World) : (Instr.checkKey e 10000 kt (mk k)).run P w = .ok () w := by
  obtain ⟨desc, hu, hs, hc⟩ := ok.und
  exact hc e 9999 k w

theorem run_getObj_map {es : Array MapEntry} {clock : Nat} (h : w.heap[m]? = some (.map es clock)) : (getObj m).run P w = .ok (.map es clock) w := by
  simp [getObj, Sem.run, h]

theorem run_setObj_map {es es' : Array MapEntry} {clock clock' : Nat} (h : w.heap[m]? = some (.map es clock)) :
    (setObj m (.map es' clock')).run P w = .ok () { w with heap := w.heap.setIfInBounds m (.map es' clock') } := by
  simp [setObj, Sem.run, h]

theorem Mod.setBlock {S : Nat → Prop} (hs : m < w.heap.size → S m) (o : Obj) : Mod S w { w with heap := w.heap.setIfInBounds m o } :=
  ⟨rfl, rfl, rfl, by simp, fun k hk hn => by
    have : m ≠ k := fun e => hn (e ▸ hs (e ▸ hk))
    simp [this]⟩

/-- 'v, ok := x[k]' and 'x[k]'. -/
theorem run_lookupM {t e : TypeId} (ok : KeyOk P kt mk) (ht : P.underlying t = some (.map kt e)) (h : MapAt w mk m d) (k : K) {z : Value} (hz : (zeroValue e).run P w = .ok z w) (c : Bool) :
    (Instr.lookup t (.map (some m)) (mk k) c).run P w = .ok (if c then .tuple #[(assoc d k).getD z, .bool (assoc d k).isSome] else (assoc d k).getD z) w := by
  obtain ⟨es, clock, hh, he⟩ := h
  rw [assoc_findIdx]
  simp only [Instr.lookup, Sem.run_bind, run_underlying ht, Result.andThen_ok, run_getObj_map hh, Sem.run_pure, run_checkKey ok, findKey_run ok k es clock he]
  cases hfi : d.findIdx? (fun p => decide (p.1 = k)) with
  | none => cases c <;> simp [hz]
  | some j => cases c <;> simp

theorem run_lenM {t e ty : TypeId} (ht : P.underlying t = some (.map kt e)) (h : MapAt w mk m d) : (Builtin.len_ #[t] ty #[.map (some m)]).run P w = .ok (.int .i64 d.length) w := by
  obtain ⟨es, clock, hh, he⟩ := h
  have hl : es.size = d.length := by
    have := congrArg List.length he.1
    simpa using this
  simp [Builtin.len_, run_underlying ht, run_getObj_map hh, goInt, hl]

theorem map_fst_upd (d : List (K × Value)) (k : K) (v : Value) : (upd d k v).map (·.1) = if (assoc d k).isSome then d.map (·.1) else d.map (·.1) ++ [k] := by
  unfold upd
  split
  · rw [List.map_map]
    apply List.map_congr_left
    intro p _
    simp only [Function.comp]
    split <;> rfl
  · simp

theorem assoc_none_iff (d : List (K × Value)) (k : K) : assoc d k = none ↔ k ∉ d.map (·.1) := by
  simp only [assoc, Option.map_eq_none_iff, List.find?_eq_none, decide_eq_true_eq, List.mem_map, not_exists, not_and]

theorem findIdx_nodup : ∀ (d : List (K × Value)) (k : K) (v : Value) (j : Nat), (d.map (·.1)).Nodup → d.findIdx? (fun p => decide (p.1 = k)) = some j →
    d.map (fun p => if p.1 = k then (p.1, v) else p) = d.modify j (fun p => (p.1, v))
  | [], _, _, _, _, h => by simp at h
  | p :: d, k, v, j, hn, h => by
    simp only [List.findIdx?_cons] at h
    simp only [List.map_cons, List.nodup_cons] at hn
    by_cases hp : p.1 = k
    · simp only [hp, decide_true, if_true, Option.some.injEq] at h
      subst h
      simp only [List.map_cons, hp, if_true, List.modify_zero_cons]
      congr 1
      conv => rhs; rw [← List.map_id d]
      apply List.map_congr_left
      intro q hq
      have : q.1 ≠ k := fun e => hn.1 (by rw [hp, ← e]; exact List.mem_map_of_mem hq)
      simp [this]
    · simp only [hp, decide_false, Bool.false_eq_true, if_false] at h
      cases hf : d.findIdx? (fun p => decide (p.1 = k)) with
      | none => rw [hf] at h; simp at h
      | some i =>
        rw [hf] at h
        simp at h
        subst h
        simp only [List.map_cons, hp, if_false, List.modify_succ_cons]
        rw [findIdx_nodup d k v i hn.2 hf]

theorem EntriesAre.upd {es : Array MapEntry} {clock : Nat} (he : EntriesAre mk es clock d) (k : K) (v : Value) :
    match d.findIdx? (fun p => decide (p.1 = k)) with
    | some j => EntriesAre mk (es.modify j (fun e => { e with key := mk k, val := v })) clock (upd d k v)
    | none => EntriesAre mk (es.push { key := mk k, val := v, born := clock }) (clock + 1) (upd d k v) := by
  obtain ⟨h1, h2, h3, h4⟩ := he
  cases hf : d.findIdx? (fun p => decide (p.1 = k)) with
  | none =>
    have ha : assoc d k = none := by rw [assoc_findIdx, hf]; rfl
    have hu : Cdk.upd d k v = d ++ [(k, v)] := by simp [Cdk.upd, ha]
    simp only [hu]
    refine ⟨by simp [h1], ?_, ?_, ?_⟩
    · rw [List.map_append, List.nodup_append]
      refine ⟨h2, by simp, ?_⟩
      intro a ha' b hb
      simp at hb
      subst hb
      intro e
      subst e
      exact (assoc_none_iff d _).1 ha ha'
    · simp only [Array.toList_push, List.map_append, List.map_cons, List.map_nil]
      rw [List.nodup_append]
      refine ⟨h3, by simp, ?_⟩
      intro a ha' b hb
      simp at hb
      subst hb
      obtain ⟨e, he, rfl⟩ := List.mem_map.1 ha'
      exact Nat.ne_of_lt (h4 e he)
    · intro e he
      simp only [Array.toList_push, List.mem_append, List.mem_singleton] at he
      rcases he with he | rfl
      · exact Nat.lt_succ_of_lt (h4 e he)
      · exact Nat.lt_succ_self _
  | some j =>
    have ha : (assoc d k).isSome = true := by rw [assoc_findIdx, hf]; rfl
    have hu : Cdk.upd d k v = d.modify j (fun p => (p.1, v)) := by
      simp only [Cdk.upd, ha, if_true]
      exact findIdx_nodup d k v j h2 hf
    have hkey : ∀ p, d[j]? = some p → p.1 = k := by
      intro p hp
      have := List.findIdx?_eq_some_iff_getElem.1 hf
      obtain ⟨hlt, hpj, _⟩ := this
      rw [List.getElem?_eq_getElem hlt] at hp
      simp at hp hpj
      rw [← hp]; exact hpj
    refine ⟨?_, ?_, ?_, ?_⟩
    · rw [hu, Array.toList_modify]
      apply List.ext_getElem?
      intro i
      have h1i := congrArg (fun l => l[i]?) h1
      simp only [List.getElem?_map] at h1i
      simp only [List.getElem?_map, List.getElem?_modify]
      by_cases hij : j = i
      · subst hij
        cases he : es.toList[j]? with
        | none =>
          rw [he] at h1i
          cases hd : d[j]? with
          | none => simp
          | some p => rw [hd] at h1i; simp at h1i
        | some e =>
          rw [he] at h1i
          cases hd : d[j]? with
          | none => rw [hd] at h1i; simp at h1i
          | some p => simp [hkey p hd]
      · simp only [hij, if_false]
        simpa using h1i
    · rw [map_fst_upd, if_pos ha]; exact h2
    · have : (es.modify j (fun e => { e with key := mk k, val := v })).toList.map (·.born) = es.toList.map (·.born) := by
        rw [Array.toList_modify]
        apply List.ext_getElem?
        intro i
        simp only [List.getElem?_map, List.getElem?_modify]
        by_cases hij : j = i
        · subst hij; cases es.toList[j]? <;> simp
        · simp [hij]
      rw [this]; exact h3
    · intro e he
      rw [Array.toList_modify] at he
      obtain ⟨i, hi, rfl⟩ := List.mem_iff_getElem.1 he
      simp only [List.getElem_modify]
      have hi' : i < es.toList.length := by simpa using hi
      have h4' := h4 _ (List.getElem_mem hi')
      split
      · exact h4'
      · exact h4'

/-- 'x[k] = v'. -/
theorem run_updateM {t e : TypeId} (ok : KeyOk P kt mk) (ht : P.underlying t = some (.map kt e)) (h : MapAt w mk m d) (k : K) (v : Value) :
    ∃ w', (Instr.mapUpdate t (.map (some m)) (mk k) v).run P w = .ok () w' ∧ MapAt w' mk m (upd d k v) ∧ Mod (Eq m) w w' ∧ w'.heap.size = w.heap.size := by
  obtain ⟨es, clock, hh, he⟩ := h
  have hlt := lt_of_at hh
  have hupd := he.upd k v
  simp only [Instr.mapUpdate, Sem.run_bind, run_underlying ht, Result.andThen_ok, run_getObj_map hh, run_checkKey ok, findKey_run ok k es clock he]
  cases hf : d.findIdx? (fun p => decide (p.1 = k)) with
  | none =>
    rw [hf] at hupd
    simp only [Option.map_none]
    rw [run_setObj_map hh]
    exact ⟨_, rfl, ⟨_, _, by simp [hlt], hupd⟩, Mod.setBlock (fun _ => rfl) _, by simp⟩
  | some j =>
    rw [hf] at hupd
    simp only [Option.map_some]
    have hold : ((es[j]?).map (·.key)).getD (mk k) = mk k := by
      have h1j := congrArg (fun l => l[j]?) he.1
      simp only [List.getElem?_map, Array.getElem?_toList] at h1j
      obtain ⟨hlt', hpj, _⟩ := List.findIdx?_eq_some_iff_getElem.1 hf
      rw [List.getElem?_eq_getElem hlt'] at h1j
      simp at hpj
      cases hes : es[j]? with
      | none => rfl
      | some x => rw [hes] at h1j; simp at h1j; simp [h1j.1, hpj]
    have hstay : (Instr.keyThatStays (((es[j]?).map (·.key)).getD (mk k)) (mk k)).run P w = .ok (mk k) w := by
      rw [hold]; simp [Instr.keyThatStays, ok.bits]
    simp only [Sem.run_bind, hstay, Result.andThen_ok]
    rw [run_setObj_map hh]
    exact ⟨_, rfl, ⟨_, _, by simp [hlt], hupd⟩, Mod.setBlock (fun _ => rfl) _, by simp⟩

theorem EntriesAre.del {es : Array MapEntry} {clock : Nat} (he : EntriesAre mk es clock d) (k : K) :
    match d.findIdx? (fun p => decide (p.1 = k)) with
    | some j => EntriesAre mk (es.eraseIdxIfInBounds j) clock (del d k)
    | none => EntriesAre mk es clock (del d k) := by
  obtain ⟨h1, h2, h3, h4⟩ := he
  cases hf : d.findIdx? (fun p => decide (p.1 = k)) with
  | none =>
    have : Cdk.del d k = d := by
      unfold Cdk.del
      rw [List.filter_eq_self]
      intro p hp
      rw [List.findIdx?_eq_none_iff] at hf
      simpa using hf p hp
    simp only [this]
    exact ⟨h1, h2, h3, h4⟩
  | some j =>
    have hd : Cdk.del d k = d.eraseIdx j := by
      clear h1 h3 h4
      induction d generalizing j with
      | nil => simp at hf
      | cons p d ih =>
        simp only [List.map_cons, List.nodup_cons] at h2
        simp only [List.findIdx?_cons] at hf
        by_cases hp : p.1 = k
        · simp only [hp, decide_true, if_true, Option.some.injEq] at hf
          subst hf
          have : Cdk.del d k = d := by
            unfold Cdk.del
            rw [List.filter_eq_self]
            intro q hq
            have : q.1 ≠ k := fun e => h2.1 (by rw [hp, ← e]; exact List.mem_map_of_mem hq)
            simp [this]
          simp only [Cdk.del] at this
          simp [Cdk.del, hp, this]
        · simp only [hp, decide_false, Bool.false_eq_true, if_false] at hf
          cases hf' : d.findIdx? (fun p => decide (p.1 = k)) with
          | none => rw [hf'] at hf; simp at hf
          | some i =>
            rw [hf'] at hf
            simp at hf
            subst hf
            have := ih h2.2 i hf'
            simp only [Cdk.del] at this
            simp [Cdk.del, hp, this]
    have hjl : j < es.size := by
      obtain ⟨hlt', _, _⟩ := List.findIdx?_eq_some_iff_getElem.1 hf
      have := congrArg List.length h1
      simp at this
      omega
    have het : (es.eraseIdxIfInBounds j).toList = es.toList.eraseIdx j := by
      simp [Array.eraseIdxIfInBounds, hjl]
    refine ⟨?_, ?_, ?_, ?_⟩
    · rw [het, hd, map_eraseIdx', map_eraseIdx', h1]
    · unfold Cdk.del
      exact (List.Sublist.map _ List.filter_sublist).nodup h2
    · rw [het]
      exact (List.Sublist.map _ (List.eraseIdx_sublist _ _)).nodup h3
    · rw [het]
      intro e he
      exact h4 e ((List.eraseIdx_sublist _ _).subset he)

/-- 'delete(x, k)'. -/
theorem run_deleteM {t e ty kt' : TypeId} (ok : KeyOk P kt mk) (ht : P.underlying t = some (.map kt e)) (h : MapAt w mk m d) (k : K) :
    ∃ w', (Builtin.delete_ #[t, kt'] ty #[.map (some m), mk k]).run P w = .ok (.tuple #[]) w' ∧ MapAt w' mk m (del d k) ∧ Mod (Eq m) w w' ∧ w'.heap.size = w.heap.size := by
  obtain ⟨es, clock, hh, he⟩ := h
  have hlt := lt_of_at hh
  have hdel := he.del k
  simp only [Builtin.delete_, List.getElem?_toArray, List.getElem?_cons_zero, List.getElem?_cons_succ, Sem.run_bind, run_underlying ht, Result.andThen_ok, run_getObj_map hh, run_checkKey ok, findKey_run ok k es clock he]
  cases hf : d.findIdx? (fun p => decide (p.1 = k)) with
  | none =>
    rw [hf] at hdel
    simp only [Option.map_none]
    simp only [Sem.run_bind, run_setObj_map hh, Result.andThen_ok, Sem.run_pure]
    exact ⟨_, rfl, ⟨_, _, by simp [hlt], hdel⟩, Mod.setBlock (fun _ => rfl) _, by simp⟩
  | some j =>
    rw [hf] at hdel
    simp only [Option.map_some]
    simp only [Sem.run_bind, run_setObj_map hh, Result.andThen_ok, Sem.run_pure]
    exact ⟨_, rfl, ⟨_, _, by simp [hlt], hdel⟩, Mod.setBlock (fun _ => rfl) _, by simp⟩

end
end Cdk
