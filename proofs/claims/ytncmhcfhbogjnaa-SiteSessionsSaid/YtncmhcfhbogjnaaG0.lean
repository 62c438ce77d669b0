import Derived.Test.YtncmhcfhbogjnaaD0
namespace Go.Proofs.Ytncmhcfhbogjnaa
open Go.RowKit Cdk

/-- A session that has just been opened reads what the class's readers get. -/
theorem Read_opened {st : SiteSt} (hok : st.ok) {c : Int} (hc : isClassB c = true) (a : ByteArray) : ReadR (openSt st c) (st.last + 1) a = GetR (openSt st c) c a := by
  unfold ReadR GetR openSt
  have hn : st.ses.find? (fun p => decide (p.1 = st.last + 1)) = none := by
    rw [List.find?_eq_none]
    intro q hq
    have := hok.num q hq
    simp
    omega
  simp only [List.find?_append, hn, Option.none_or, List.find?_cons, decide_true, hc, if_true]

theorem filter_find {l : List (Int × Int × Nat)} {n x : Int} (h : x ≠ n) : (l.filter (fun p => !decide (p.1 = n))).find? (fun p => decide (p.1 = x)) = l.find? (fun p => decide (p.1 = x)) := by
  rw [List.find?_filter]
  congr 1
  funext p
  by_cases e : p.1 = x
  · simp [e, h]
  · simp [e]

/-- What a call that opens no session changes of what sessions read. -/
theorem Did.reads {B : Nat} {st st' : SiteSt} {o : OpI} {v opened n e : Int} (h : Did B st o v opened n e st') (hc : st.cls) (hf : ∀ N, B ≤ N → ∀ p, st.live p → p ≠ N) {of : List Int} (hof : OfOk st of)
    (hno : pickI o.kind 4 ≠ 2 ∨ e = 250) (x : Int) (a : ByteArray) :
    ReadR st' x a = ReadR st x a ∨ (pickI o.kind 4 = 3 ∧ x = sessionI o.num opened) ∨ (pickI o.kind 4 = 1 ∧ 1 ≤ x ∧ of[(x - 1).toNat]? = some (classI o.cls)) := by
  cases h with
  | bad => exact .inl rfl
  | opn hk => rcases hno with h | h
              · exact absurd hk h
              · cases h
  | full => exact .inl rfl
  | cls hk =>
    by_cases he : x = sessionI o.num opened
    · exact .inr (.inl ⟨hk, he⟩)
    · left
      unfold ReadR closeSt
      simp only
      rw [filter_find he]
  | pub pg hk hcc N tb hN =>
    have hN' := hf N hN
    have hs : (pubAll st (classI o.cls) pg N tb (pagesL o.num v)).ses = st.ses := by cases pg <;> rfl
    unfold ReadR
    rw [hs]
    cases hfd : st.ses.find? (fun p => decide (p.1 = x)) with
    | none => exact .inl rfl
    | some q =>
      have hq := List.mem_of_find?_eq_some hfd
      have hq1 : q.1 = x := by simpa using List.find?_some hfd
      have hne : q.2.2 ≠ N := hN' _ (.inr ⟨q, hq, rfl⟩)
      cases pg with
      | false =>
        left
        simp only [pubAll, pubSt, Bool.false_eq_true, if_false, hne]
      | true =>
        by_cases hcl : q.2.1 = classI o.cls
        · obtain ⟨h1, h2⟩ := hof.at' q hq
          rw [hq1] at h1 h2
          rw [hcl] at h2
          exact .inr (.inr ⟨hk, h1, h2⟩)
        · left
          simp only [pubAll, pubSt, if_true, hne, if_false, purgedSt]
          rw [if_neg]
          intro hx
          obtain ⟨q', hq', hx'⟩ := List.any_eq_true.1 hx
          simp only [Bool.and_eq_true, decide_eq_true_eq] at hx'
          obtain ⟨f, -, f2⟩ := hc
          have e1 := f2 q hq
          have e2 := f2 q' hq'
          rw [hx'.2, hx'.1.2] at e2
          exact hcl (e1.symm.trans e2)
end Go.Proofs.Ytncmhcfhbogjnaa
