/-
  'for k, v := range x' over a map, over any program: the iterator's block 'r', what has been seen, 'next' and 'entry'. No key is added to the map meanwhile; deletes and stores at keys that are there are allowed.
-/
import Derived.Test.YtpgniljgaknlpaaDoorMaps
namespace Cdk
open Go Go.RowKit
set_option linter.unusedSectionVars false

section
variable {K : Type} [DecidableEq K]
variable {P : Program} {kt : TypeId} {mk : K → Value} {w w' : World} {m r : Nat} {d : List (K × Value)}

/-- Block r iterates over the map in block m, which holds d; the keys in 'seen' have come up (the last one at the head). -/
def IterAt (w : World) (mk : K → Value) (m r : Nat) (d : List (K × Value)) (seen : List K) : Prop :=
  ∃ es clock sn, w.heap[m]? = some (.map es clock) ∧ EntriesAre mk es clock d ∧ w.heap[r]? = some (.mapIter (some m) clock sn clock) ∧ r ≠ m ∧
    (∀ e ∈ es.toList, ∀ k, e.key = mk k → (e.born ∈ sn.toList ↔ k ∈ seen)) ∧
    (∀ k s, seen = k :: s → ∀ v, (k, v) ∈ d → ∃ b, sn.back? = some b ∧ ∃ e ∈ es.toList, e.born = b ∧ e.key = mk k ∧ e.val = v)

theorem IterAt.mapAt {seen : List K} (h : IterAt w mk m r d seen) : MapAt w mk m d := by
  obtain ⟨es, c, sn, h1, h2, _⟩ := h
  exact ⟨es, c, h1, h2⟩

theorem IterAt.mod {S : Nat → Prop} {seen : List K} (h : IterAt w mk m r d seen) (hm : Mod S w w') (hs : ¬ S m) (hr : ¬ S r) : IterAt w' mk m r d seen := by
  obtain ⟨es, c, sn, h1, h2, h3, h4, h5⟩ := h
  exact ⟨es, c, sn, hm.at h1 hs, h2, hm.at h3 hr, h4, h5⟩

theorem IterAt.lt {seen : List K} (h : IterAt w mk m r d seen) : r < w.heap.size ∧ m < w.heap.size ∧ r ≠ m := by
  obtain ⟨es, c, sn, h1, h2, h3, h4, _⟩ := h
  exact ⟨lt_of_at h3, lt_of_at h1, h4⟩

theorem run_rangeM {t e : TypeId} (ht : P.underlying t = some (.map kt e)) (h : MapAt w mk m d) :
    ∃ w', (Instr.range t (.map (some m))).run P w = .ok (.pointer (some ⟨w.heap.size, 0, none⟩)) w' ∧ IterAt w' mk m w.heap.size d [] ∧ Ext w w' ∧ w'.heap.size = w.heap.size + 1 := by
  obtain ⟨es, clock, hh, he⟩ := h
  have hlt := lt_of_at hh
  refine ⟨w.alloc (.mapIter (some m) clock #[] clock), ?_, ⟨es, clock, #[], ?_, he, heap_alloc_new w _, by omega, by simp, by simp⟩, (Mod.refl _ w).alloc _, by simp⟩
  · simp [Instr.range, run_underlying ht, run_getObj_map hh]
  · rw [Below.heap_alloc w _ m hlt]; exact hh

theorem run_range_nil {t e : TypeId} (ht : P.underlying t = some (.map kt e)) (w : World) :
    (Instr.range t (.map none)).run P w = .ok (.pointer (some ⟨w.heap.size, 0, none⟩)) (w.alloc (.mapIter none 0 #[] 0)) := by
  simp [Instr.range, run_underlying ht]

theorem run_next_nil {ty : TypeId} (h : w.heap[r]? = some (.mapIter none 0 #[] 0)) : (Instr.next (.pointer (some ⟨r, 0, none⟩)) false ty).run P w = .ok (.tuple #[.bool false]) w := by
  have hg : (getObj r).run P w = .ok (.mapIter none 0 #[] 0) w := by simp [getObj, Sem.run, h]
  simp [Instr.next, hg]

theorem run_getObj_iter {mm : Option Nat} {s c : Nat} {sn : Array Nat} (h : w.heap[r]? = some (.mapIter mm s sn c)) : (getObj r).run P w = .ok (.mapIter mm s sn c) w := by
  simp [getObj, Sem.run, h]

/-- The next step of the loop: over, or a pair that has not been seen. -/
theorem run_nextM {seen : List K} (h : IterAt w mk m r d seen) (inj : ∀ a b, mk a = mk b → a = b) (ty : TypeId) :
    ((∀ p ∈ d, p.1 ∈ seen) ∧ (Instr.next (.pointer (some ⟨r, 0, none⟩)) false ty).run P w = .ok (.tuple #[.bool false]) w) ∨
    (∃ k v w', (k, v) ∈ d ∧ k ∉ seen ∧ (Instr.next (.pointer (some ⟨r, 0, none⟩)) false ty).run P w = .ok (.tuple #[.bool true, mk k, v]) w' ∧
      IterAt w' mk m r d (k :: seen) ∧ Mod (Eq r) w w' ∧ w'.heap.size = w.heap.size) := by
  obtain ⟨es, clock, sn, hh, he, hr, hne, hs, hl⟩ := h
  have hpairs : ∀ e ∈ es.toList, ∃ p ∈ d, e.key = mk p.1 ∧ e.val = p.2 := by
    intro e hin
    have h1 : (e.key, e.val) ∈ es.toList.map (fun e => (e.key, e.val)) := List.mem_map_of_mem hin
    rw [he.1] at h1
    obtain ⟨p, hp, hpe⟩ := List.mem_map.1 h1
    simp only [Prod.mk.injEq] at hpe
    exact ⟨p, hp, hpe.1.symm, hpe.2.symm⟩
  have hpairs' : ∀ p ∈ d, ∃ e ∈ es.toList, e.key = mk p.1 ∧ e.val = p.2 := by
    intro p hp
    have h1 : (mk p.1, p.2) ∈ d.map (fun p => (mk p.1, p.2)) := List.mem_map_of_mem hp
    rw [← he.1] at h1
    obtain ⟨e, hin, hpe⟩ := List.mem_map.1 h1
    simp only [Prod.mk.injEq] at hpe
    exact ⟨e, hin, hpe.1, hpe.2⟩
  have hold : ∀ e ∈ es.toList, e.born < clock := he.2.2.2
  have hcheck : (!sn.isEmpty && !es.isEmpty && es.all (fun e => decide (e.born ≥ clock))) = false := by
    cases hemp : es.isEmpty with
    | true => simp
    | false =>
      have : es.all (fun e => decide (e.born ≥ clock)) = false := by
        rw [Bool.eq_false_iff]
        intro hall
        rw [Array.all_eq_true_iff_forall_mem] at hall
        have hne' : es ≠ #[] := by intro e; subst e; simp at hemp
        obtain ⟨x, hx⟩ := Array.exists_mem_of_ne_empty es hne'
        have h1 := hall x hx
        have h2 := hold x (Array.mem_toList_iff.2 hx)
        simp at h1
        omega
      simp [this]
  have hnew : ∀ l : Array MapEntry, (∀ e ∈ l, e.born < clock) → l.filter (fun e => decide (e.born ≥ clock)) = #[] := by
    intro l hl'
    rw [Array.filter_eq_empty_iff]
    intro e hin
    have := hl' e hin
    simp; omega
  have holdf : ∀ l : Array MapEntry, (∀ e ∈ l, e.born < clock) → l.filter (fun e => decide (e.born < clock)) = l := by
    intro l hl'
    rw [Array.filter_eq_self]
    intro e hin
    simpa using hl' e hin
  have hleftlt : ∀ e ∈ es.filter (fun e => !sn.contains e.born), e.born < clock := by
    intro e hin
    exact hold e (Array.mem_toList_iff.2 (Array.mem_filter.1 hin).1)
  have hrun : (Instr.next (.pointer (some ⟨r, 0, none⟩)) false ty).run P w =
      ((choose (.mapNext ((if (es.filter (fun e : MapEntry => !sn.contains e.born)).isEmpty then #[none] else #[]) ++ (es.filter (fun e : MapEntry => !sn.contains e.born)).map some : Array (Option MapEntry)).size)).run P w).andThen fun c w1 =>
        (match ((if (es.filter (fun e : MapEntry => !sn.contains e.born)).isEmpty then #[none] else #[]) ++ (es.filter (fun e : MapEntry => !sn.contains e.born)).map some : Array (Option MapEntry))[c]? with
          | some (some e) => (do setObj r (.mapIter (some m) clock (sn.push e.born) clock); pure (.tuple #[.bool true, e.key, e.val]) : Sem Value)
          | some none => pure (.tuple #[.bool false])
          | none => stuck "Next: no such candidate").run P w1 := by
    simp only [Instr.next, Sem.run_bind, run_getObj_iter hr, Result.andThen_ok, run_getObj_map hh]
    simp only [hcheck, Bool.false_eq_true, if_false, Sem.run_bind]
    rw [holdf _ hleftlt, hnew _ hleftlt]
    simp only [Array.append_empty]
    rfl
  rw [hrun]
  by_cases hemp : (es.filter (fun e => !sn.contains e.born)).isEmpty = true
  · left
    have hnil : es.filter (fun e => !sn.contains e.born) = #[] := by simpa using hemp
    refine ⟨?_, ?_⟩
    · intro p hp
      obtain ⟨e, hin, hk, _⟩ := hpairs' p hp
      rw [Array.filter_eq_empty_iff] at hnil
      have h1 := hnil e (Array.mem_toList_iff.1 hin)
      simp only [Bool.not_eq_true', Bool.not_eq_false, Array.contains_iff_mem] at h1
      exact (hs e hin p.1 hk).1 (Array.mem_toList_iff.2 (by simpa using h1))
    · rw [hnil]
      simp [Question.forced]
  · right
    generalize hleft : es.filter (fun e => !sn.contains e.born) = left at *
    have hpos : 0 < left.size := by
      rcases Nat.eq_zero_or_pos left.size with h | h
      · exfalso; apply hemp; simp [Array.isEmpty, h]
      · exact h
    simp only [hemp, Bool.false_eq_true, if_false, Array.empty_append]
    have pick : ∀ (c : Nat) (w1 : World), c < left.size → w1.heap = w.heap → Mod (Eq r) w w1 →
        ∃ k v w', (k, v) ∈ d ∧ k ∉ seen ∧
          ((match (left.map some)[c]? with
            | some (some e) => (do setObj r (.mapIter (some m) clock (sn.push e.born) clock); pure (.tuple #[.bool true, e.key, e.val]) : Sem Value)
            | some none => pure (.tuple #[.bool false])
            | none => stuck "Next: no such candidate").run P w1) = .ok (.tuple #[.bool true, mk k, v]) w' ∧
          IterAt w' mk m r d (k :: seen) ∧ Mod (Eq r) w w' ∧ w'.heap.size = w.heap.size := by
      intro c w1 hc hheap hmod
      have hget : (left.map some)[c]? = some (some left[c]) := by simp [hc]
      rw [hget]
      have hmem : left[c] ∈ es.filter (fun e => !sn.contains e.born) := by rw [hleft]; exact Array.getElem_mem hc
      obtain ⟨hin, hnot⟩ := Array.mem_filter.1 hmem
      have hin' := Array.mem_toList_iff.2 hin
      obtain ⟨p, hp, hk, hv⟩ := hpairs _ hin'
      have hr1 : w1.heap[r]? = some (.mapIter (some m) clock sn clock) := by rw [hheap]; exact hr
      have hset : (setObj r (.mapIter (some m) clock (sn.push left[c].born) clock)).run P w1 = .ok () { w1 with heap := w1.heap.setIfInBounds r (.mapIter (some m) clock (sn.push left[c].born) clock) } := by
        simp [setObj, Sem.run, hr1]
      have hrl : r < w1.heap.size := lt_of_at hr1
      refine ⟨p.1, p.2, { w1 with heap := w1.heap.setIfInBounds r (.mapIter (some m) clock (sn.push left[c].born) clock) }, hp, ?_, ?_, ?_, ?_, ?_⟩
      · intro hseen
        have := (hs _ hin' p.1 hk).2 hseen
        rw [Array.mem_toList_iff] at this
        simp at hnot
        exact hnot this
      · simp only [Sem.run_bind, hset, Result.andThen_ok, Sem.run_pure, hk, hv]
      · refine ⟨es, clock, sn.push left[c].born, ?_, he, by simp [hrl], hne, ?_, ?_⟩
        · simp [hne, hheap, hh]
        · intro e hein k hek
          simp only [Array.toList_push, List.mem_append, List.mem_cons, List.not_mem_nil, or_false]
          constructor
          · rintro (h | h)
            · exact .inr ((hs e hein k hek).1 h)
            · left
              have hee : e = left[c] := by
                have hnd := he.2.2.1
                obtain ⟨i, hi, rfl⟩ := List.mem_iff_getElem.1 hein
                obtain ⟨j, hj, hje⟩ := List.mem_iff_getElem.1 hin'
                have : i = j := by
                  have h1 : (es.toList.map (·.born))[i]'(by simpa using hi) = (es.toList.map (·.born))[j]'(by simpa using hj) := by
                    simp only [List.getElem_map]; rw [hje]; exact h
                  exact (List.getElem_inj hnd).1 h1
                subst this
                exact hje
              rw [hee, hk] at hek
              exact inj _ _ hek.symm
          · rintro (h | h)
            · right
              have hee : e = left[c] := by
                have hnd := he.2.1
                subst h
                obtain ⟨i, hi, rfl⟩ := List.mem_iff_getElem.1 hein
                obtain ⟨j, hj, hje⟩ := List.mem_iff_getElem.1 hin'
                have hkeys : es.toList.map (·.key) = d.map (fun p => mk p.1) := by
                  have := congrArg (fun l => l.map (·.1)) he.1
                  simpa [List.map_map, Function.comp_def] using this
                have hnd' : (es.toList.map (·.key)).Nodup := by
                  rw [hkeys]
                  have : d.map (fun p => mk p.1) = (d.map (·.1)).map mk := by simp [List.map_map, Function.comp_def]
                  rw [this]
                  exact List.Pairwise.map _ (fun a b hab e => hab (inj _ _ e)) hnd
                have : i = j := by
                  have h1 : (es.toList.map (·.key))[i]'(by simpa using hi) = (es.toList.map (·.key))[j]'(by simpa using hj) := by
                    simp only [List.getElem_map]; rw [hje, hek, hk]
                  exact (List.getElem_inj hnd').1 h1
                subst this
                exact hje
              rw [hee]
            · exact .inl ((hs e hein k hek).2 h)
        · intro k s hks v hkv
          injection hks with hk1 hk2
          subst hk1
          refine ⟨left[c].born, by simp, left[c], hin', rfl, hk, ?_⟩
          have hnd := he.2.1
          have : p = (p.1, v) := by
            obtain ⟨i, hi, hie⟩ := List.mem_iff_getElem.1 hp
            obtain ⟨j, hj, hje⟩ := List.mem_iff_getElem.1 hkv
            have : i = j := by
              have h1 : (d.map (·.1))[i]'(by simpa using hi) = (d.map (·.1))[j]'(by simpa using hj) := by
                simp only [List.getElem_map]; rw [hje, hie]
              exact (List.getElem_inj hnd).1 h1
            subst this
            rw [hie] at hje; exact hje
          rw [hv, this]
      · exact hmod.trans (Mod.setBlock (fun _ => rfl) _)
      · simp [hheap]
    simp only [run_choose]
    by_cases hf : (Question.mapNext (left.map some).size).forced = true
    · simp only [hf, if_true, Result.andThen_ok]
      exact pick 0 w hpos rfl (Mod.refl _ w)
    · simp only [hf, Bool.false_eq_true, if_false, Result.andThen_ok]
      refine pick _ _ ?_ rfl ⟨rfl, rfl, rfl, Nat.le_refl _, fun _ _ _ => rfl⟩
      have := Nat.mod_lt (w.tape w.drawn (.mapNext (left.map some).size)) hpos
      simpa [Question.cut] using this

/-- The pair at hand, read again. -/
theorem run_entryM {k : K} {v : Value} {seen : List K} (h : IterAt w mk m r d (k :: seen)) (hin : (k, v) ∈ d) :
    (Instr.entry (.pointer (some ⟨r, 0, none⟩))).run P w = .ok (.tuple #[mk k, v]) w := by
  obtain ⟨es, clock, sn, hh, he, hr, hne, hs, hl⟩ := h
  obtain ⟨b, hb, e, hein, heb, hek, hev⟩ := hl k seen rfl v hin
  have hfind : es.find? (fun x => x.born == b) = some e := by
    rw [← Array.find?_toList]
    have hnd := he.2.2.1
    have : ∀ l : List MapEntry, (l.map (·.born)).Nodup → e ∈ l → l.find? (fun x => x.born == b) = some e := by
      intro l
      induction l with
      | nil => intro _ h; cases h
      | cons x l ih =>
        intro hn hm
        simp only [List.map_cons, List.nodup_cons] at hn
        rcases List.mem_cons.1 hm with rfl | hm
        · simp [heb]
        · have hxb : ¬ x.born = b := fun hxb => hn.1 (by rw [hxb, ← heb]; exact List.mem_map_of_mem hm)
          simp only [List.find?_cons]
          have : (x.born == b) = false := by simpa using hxb
          rw [this]
          exact ih hn.2 hm
    exact this _ hnd hein
  simp only [Instr.entry, Sem.run_bind, run_getObj_iter hr, Result.andThen_ok, hb, run_getObj_map hh]
  simp [hfind, hek, hev]

/-- A store at a key that is there, while the map is ranged over. -/
theorem run_update_iter {t e : TypeId} {seen : List K} (ok : KeyOk P kt mk) (ht : P.underlying t = some (.map kt e)) (h : IterAt w mk m r d seen) (k : K) (v : Value) (hk : (assoc d k).isSome = true) :
    ∃ w', (Instr.mapUpdate t (.map (some m)) (mk k) v).run P w = .ok () w' ∧ IterAt w' mk m r (upd d k v) seen ∧ Mod (Eq m) w w' ∧ w'.heap.size = w.heap.size := by
  obtain ⟨es, clock, sn, hh, he, hr, hne, hs, hl⟩ := h
  have hlt := lt_of_at hh
  have hupd := he.upd k v
  simp only [Instr.mapUpdate, Sem.run_bind, run_underlying ht, Result.andThen_ok, run_getObj_map hh, run_checkKey ok, findKey_run ok k es clock he]
  cases hf : d.findIdx? (fun p => decide (p.1 = k)) with
  | none => rw [assoc_findIdx, hf] at hk; simp at hk
  | some j =>
    rw [hf] at hupd
    simp only [Option.map_some]
    obtain ⟨hlt', hpj, _⟩ := List.findIdx?_eq_some_iff_getElem.1 hf
    simp at hpj
    have h1j := congrArg (fun l => l[j]?) he.1
    simp only [List.getElem?_map, Array.getElem?_toList] at h1j
    rw [List.getElem?_eq_getElem hlt'] at h1j
    have hold : ((es[j]?).map (·.key)).getD (mk k) = mk k := by
      cases hes : es[j]? with
      | none => rfl
      | some x => rw [hes] at h1j; simp at h1j; simp [h1j.1, hpj]
    have hstay : (Instr.keyThatStays (((es[j]?).map (·.key)).getD (mk k)) (mk k)).run P w = .ok (mk k) w := by
      rw [hold]; simp [Instr.keyThatStays, ok.bits]
    simp only [Sem.run_bind, hstay, Result.andThen_ok]
    rw [run_setObj_map hh]
    refine ⟨_, rfl, ⟨_, _, sn, by simp [hlt], hupd, by simp [Ne.symm hne, hr], hne, ?_, ?_⟩, Mod.setBlock (fun _ => rfl) _, by simp⟩
    · intro e hein k' hek
      rw [Array.toList_modify] at hein
      obtain ⟨i, hi, rfl⟩ := List.mem_iff_getElem.1 hein
      have hi' : i < es.toList.length := by simpa using hi
      simp only [List.getElem_modify] at hek ⊢
      have hs' := hs _ (List.getElem_mem hi')
      by_cases hij : j = i
      · subst hij
        simp only [if_true] at hek ⊢
        have hkk : k = k' := ok.inj _ _ hek
        subst hkk
        refine hs' k ?_
        have hjs : j < es.size := by simpa using hi'
        rw [Array.getElem?_eq_getElem hjs] at h1j
        simp at h1j
        simp [h1j.1, hpj]
      · simp only [hij, if_false] at hek ⊢
        exact hs' k' hek
    · intro k' s hks v' hin
      -- the old pair at k'
      have hpair : ∃ v0, (k', v0) ∈ d ∧ (k' = k → v' = v) ∧ (k' ≠ k → v' = v0) := by
        simp only [upd, hk, if_true] at hin
        obtain ⟨q, hq, hqe⟩ := List.mem_map.1 hin
        by_cases hqk : q.1 = k
        · simp only [hqk, if_true, Prod.mk.injEq] at hqe
          exact ⟨q.2, by rw [← hqe.1, ← hqk]; exact hq, fun _ => hqe.2.symm, fun h => absurd hqe.1.symm h⟩
        · simp only [hqk, if_false] at hqe
          subst hqe
          exact ⟨v', hq, fun h => absurd h hqk, fun _ => rfl⟩
      obtain ⟨v0, hin0, hsame, hother⟩ := hpair
      obtain ⟨b, hb, e, hein, heb, hek, hev⟩ := hl k' s hks v0 hin0
      obtain ⟨i, hi, rfl⟩ := List.mem_iff_getElem.1 hein
      by_cases hij : j = i
      · subst hij
        have hjs : j < es.size := by simpa using hi
        rw [Array.getElem?_eq_getElem hjs] at h1j
        simp at h1j
        have hkk : k' = k := ok.inj _ _ (by rw [← hek, Array.getElem_toList, h1j.1, hpj])
        refine ⟨b, hb, { es.toList[j] with key := mk k, val := v }, ?_, ?_, ?_, ?_⟩
        · rw [Array.toList_modify, List.mem_iff_getElem]
          exact ⟨j, by simpa using hi, by simp⟩
        · exact heb
        · rw [hkk]
        · exact (hsame hkk).symm
      · have hkk : k' ≠ k := by
          intro e
          subst e
          have hkeys : es.toList.map (·.key) = d.map (fun p => mk p.1) := by
            have := congrArg (fun l => l.map (·.1)) he.1
            simpa [List.map_map, Function.comp_def] using this
          have hnd' : (es.toList.map (·.key)).Nodup := by
            rw [hkeys]
            have : d.map (fun p => mk p.1) = (d.map (·.1)).map mk := by simp [List.map_map, Function.comp_def]
            rw [this]
            exact List.Pairwise.map _ (fun a b hab e => hab (ok.inj _ _ e)) he.2.1
          have hjl : j < es.toList.length := by
            have := congrArg List.length he.1
            simp at this ⊢; omega
          have hjs : j < es.size := by simpa using hjl
          rw [Array.getElem?_eq_getElem hjs] at h1j
          simp at h1j
          apply hij
          have h1 : (es.toList.map (·.key))[j]'(by simpa using hjl) = (es.toList.map (·.key))[i]'(by simpa using hi) := by
            simp only [List.getElem_map]
            rw [hek, Array.getElem_toList, h1j.1, hpj]
          exact (List.getElem_inj hnd').1 h1
        refine ⟨b, hb, es.toList[i], ?_, heb, hek, ?_⟩
        · rw [Array.toList_modify, List.mem_iff_getElem]
          exact ⟨i, by simpa using hi, by simp [hij]⟩
        · rw [hev, hother hkk]

theorem del_eraseIdx {d : List (K × Value)} {k : K} {j : Nat} (hn : (d.map (·.1)).Nodup) (hf : d.findIdx? (fun p => decide (p.1 = k)) = some j) : del d k = d.eraseIdx j := by
  induction d generalizing j with
  | nil => simp at hf
  | cons p d ih =>
    simp only [List.map_cons, List.nodup_cons] at hn
    simp only [List.findIdx?_cons] at hf
    by_cases hp : p.1 = k
    · simp only [hp, decide_true, if_true, Option.some.injEq] at hf
      subst hf
      have : del d k = d := by
        unfold del
        rw [List.filter_eq_self]
        intro q hq
        have : q.1 ≠ k := fun e => hn.1 (by rw [hp, ← e]; exact List.mem_map_of_mem hq)
        simp [this]
      simp only [del] at this
      simp [del, hp, this]
    · simp only [hp, decide_false, Bool.false_eq_true, if_false] at hf
      cases hf' : d.findIdx? (fun p => decide (p.1 = k)) with
      | none => rw [hf'] at hf; simp at hf
      | some i =>
        rw [hf'] at hf
        simp at hf
        subst hf
        have := ih hn.2 hf'
        simp only [del] at this
        simp [del, hp, this]

/-- A delete while the map is ranged over. -/
theorem run_delete_iter {t e ty kt' : TypeId} {seen : List K} (ok : KeyOk P kt mk) (ht : P.underlying t = some (.map kt e)) (h : IterAt w mk m r d seen) (k : K) :
    ∃ w', (Builtin.delete_ #[t, kt'] ty #[.map (some m), mk k]).run P w = .ok (.tuple #[]) w' ∧ IterAt w' mk m r (del d k) seen ∧ Mod (Eq m) w w' ∧ w'.heap.size = w.heap.size := by
  obtain ⟨es, clock, sn, hh, he, hr, hne, hs, hl⟩ := h
  have hlt := lt_of_at hh
  have hdel := he.del k
  simp only [Builtin.delete_, List.getElem?_toArray, List.getElem?_cons_zero, List.getElem?_cons_succ, Sem.run_bind, run_underlying ht, Result.andThen_ok, run_getObj_map hh, run_checkKey ok, findKey_run ok k es clock he]
  have hdsub : ∀ p, p ∈ del d k → p ∈ d ∧ p.1 ≠ k := by
    intro p hp
    unfold del at hp
    rw [List.mem_filter] at hp
    exact ⟨hp.1, by simpa using hp.2⟩
  cases hf : d.findIdx? (fun p => decide (p.1 = k)) with
  | none =>
    rw [hf] at hdel
    simp only [Option.map_none]
    simp only [Sem.run_bind, run_setObj_map hh, Result.andThen_ok, Sem.run_pure]
    refine ⟨_, rfl, ⟨es, clock, sn, by simp [hlt], hdel, by simp [Ne.symm hne, hr], hne, hs, ?_⟩, Mod.setBlock (fun _ => rfl) _, by simp⟩
    intro k' s hks v' hin
    exact hl k' s hks v' (hdsub _ hin).1
  | some j =>
    rw [hf] at hdel
    simp only [Option.map_some]
    simp only [Sem.run_bind, run_setObj_map hh, Result.andThen_ok, Sem.run_pure]
    have hjl : j < es.size := by
      obtain ⟨hlt', _, _⟩ := List.findIdx?_eq_some_iff_getElem.1 hf
      have := congrArg List.length he.1
      simp at this
      omega
    have het : (es.eraseIdxIfInBounds j).toList = es.toList.eraseIdx j := by
      simp [Array.eraseIdxIfInBounds, hjl]
    refine ⟨_, rfl, ⟨_, _, sn, by simp [hlt], hdel, by simp [Ne.symm hne, hr], hne, ?_, ?_⟩, Mod.setBlock (fun _ => rfl) _, by simp⟩
    · intro e hein k' hek
      rw [het] at hein
      exact hs e ((List.eraseIdx_sublist _ _).subset hein) k' hek
    · intro k' s hks v' hin
      obtain ⟨hin0, hkk⟩ := hdsub _ hin
      obtain ⟨b, hb, e, hein, heb, hek, hev⟩ := hl k' s hks v' hin0
      refine ⟨b, hb, e, ?_, heb, hek, hev⟩
      rw [het]
      obtain ⟨i, hi, rfl⟩ := List.mem_iff_getElem.1 hein
      have hij : i ≠ j := by
        intro e
        subst e
        have h1j := congrArg (fun l => l[i]?) he.1
        simp only [List.getElem?_map] at h1j
        obtain ⟨hlt', hpj, _⟩ := List.findIdx?_eq_some_iff_getElem.1 hf
        simp at hpj
        rw [List.getElem?_eq_getElem hlt', List.getElem?_eq_getElem hi] at h1j
        simp at h1j
        exact hkk (ok.inj _ _ (by rw [← hek, Array.getElem_toList, h1j.1, hpj]))
      rw [List.mem_iff_getElem]
      by_cases hlt2 : i < j
      · exact ⟨i, by rw [List.length_eraseIdx]; split <;> omega, by rw [List.getElem_eraseIdx, dif_pos hlt2]⟩
      · have hi2 : i - 1 + 1 = i := by omega
        refine ⟨i - 1, by rw [List.length_eraseIdx]; split <;> omega, ?_⟩
        rw [List.getElem_eraseIdx, dif_neg (by omega)]
        simp only [hi2]

end
end Cdk
