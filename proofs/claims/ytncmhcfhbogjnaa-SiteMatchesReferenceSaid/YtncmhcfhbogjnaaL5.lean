import Derived.Test.YtncmhcfhbogjnaaL4
namespace Go.Proofs.Ytncmhcfhbogjnaa
open Go.RowKit Cdk

/-! What a call does, without the program. -/

theorem pubT_size (n v : Int) : ∀ q ∈ pubT (pagesL n v), q.2.size ≤ 1000 := by
  intro q hq
  unfold pubT at hq
  obtain ⟨p, hp, rfl⟩ := List.mem_map.1 hq
  unfold pagesL at hp
  obtain ⟨i, hi, he⟩ := List.mem_filterMap.1 hp
  unfold pageOf at he
  split at he
  · simp at he; subst he
    simp only [List.mem_range] at hi
    have h1 : (markB v).size = 2 := by unfold markB; rw [strOfNums_size]; rfl
    have h2 : (addrs.getD i .empty).size ≤ 7 := by
      have : ∀ i, i < 5 → (addrs.getD i .empty).size ≤ 7 := by decide
      exact this i hi
    show (markB v ++ addrs.getD i .empty).size ≤ 1000
    rw [ByteArray.size_append]; omega
  · simp at he

theorem purgeD_size {d dn : Txt} (h : ∀ q ∈ dn, q.2.size ≤ 1000) : ∀ q ∈ purgeD d dn, q.2.size ≤ 1000 := by
  intro q hq
  have := look_pubD q hq
  unfold look at this
  obtain ⟨p, hp, he⟩ := Option.map_eq_some_iff.1 this
  rw [← he]
  exact h p (List.mem_of_find?_eq_some hp)

theorem Did.txt {B : Nat} {st st' : SiteSt} {o : OpI} {v opened n e : Int} (h : Did B st o v opened n e st') (ht : TxtOk st) : TxtOk st' := by
  cases h with
  | pub pg hk hc N tb hN =>
    intro p q hq
    simp only [pubAll, pubSt] at hq
    split at hq
    · exact pubT_size _ _ q hq
    · cases pg with
      | false => exact ht p q hq
      | true =>
        simp only [if_true, purgedSt] at hq
        split at hq
        · exact purgeD_size (pubT_size _ _) q hq
        · exact ht p q hq
  | bad => exact ht
  | opn => exact ht
  | full => exact ht
  | cls => exact ht

theorem Did.last {B : Nat} {st st' : SiteSt} {o : OpI} {v opened n e : Int} (h : Did B st o v opened n e st') : st.last ≤ st'.last ∧ st'.last ≤ st.last + 1 := by
  cases h with
  | pub pg hk hc N tb hN => cases pg <;> (constructor <;> simp [pubAll, pubSt, purgedSt] <;> omega)
  | bad => omega
  | opn => simp only [openSt]; omega
  | full => omega
  | cls => simp only [closeSt]; omega

theorem Did.ok {B : Nat} {st st' : SiteSt} {o : OpI} {v opened n e : Int} (h : Did B st o v opened n e st') (hs : st.ok) (hl : st.last < 900) : st'.ok := by
  obtain ⟨h1, h2, h3, h4⟩ := hs
  cases h with
  | pub pg hk hc N tb hN => cases pg <;> exact ⟨h1, h2, h3, h4⟩
  | bad => exact ⟨h1, h2, h3, h4⟩
  | opn hk hc hlt =>
    refine ⟨by simp only [openSt]; omega, by simp only [openSt]; omega, ?_, by simp only [openSt, List.length_append, List.length_cons, List.length_nil]; omega⟩
    intro q hq
    simp only [openSt] at hq ⊢
    rcases List.mem_append.1 hq with hq | hq
    · have := h3 q hq; omega
    · simp at hq; subst hq; constructor <;> simp <;> omega
  | full => exact ⟨h1, h2, h3, h4⟩
  | cls =>
    refine ⟨h1, h2, fun q hq => h3 q (List.mem_filter.1 hq).1, ?_⟩
    exact Nat.le_trans (List.length_filter_le _ _) h4

theorem newSt_ok (B : Nat) : (newSt B).ok := { lo := by simp [newSt], hi := by simp [newSt], num := (by intro q hq; cases hq), len := by simp [newSt] }
theorem newSt_txt (B : Nat) : TxtOk (newSt B) := by intro p q hq; cases hq

def opC (o : OpI) : List Value := [.int .i64 o.kind, .int .i64 o.cls, .int .i64 o.num]
theorem opC_len (o : OpI) : (opC o).length = 3 := rfl
theorem op_at {w : World} {ao : Option Addr} {l : List OpI} (hr : RowIs w ao (l.flatMap opC)) {k : Nat} (hk : k < l.length) :
    ∃ b off, ao = some ⟨b, off, none⟩ ∧ w.cell? ⟨b, off + k * 3, none⟩ = some (.int .i64 l[k].kind) ∧ w.cell? ⟨b, off + k * 3 + 1, none⟩ = some (.int .i64 l[k].cls) ∧ w.cell? ⟨b, off + k * 3 + 2, none⟩ = some (.int .i64 l[k].num) := by
  obtain ⟨b, off, rfl, hc⟩ := hr.at (by rw [flat_length _ 3 opC_len]; omega)
  have f := fun j => flat_get opC 3 opC_len l k j l[k] (List.getElem?_eq_getElem hk)
  exact ⟨b, off, rfl, hc (k * 3) _ (by simpa [opC] using f 0 (by omega)), by rw [Nat.add_assoc]; exact hc (k * 3 + 1) _ (by simpa [opC] using f 1 (by omega)),
    by rw [Nat.add_assoc]; exact hc (k * 3 + 2) _ (by simpa [opC] using f 2 (by omega))⟩

/-- What stands at the head of a law's loop. -/
structure Inv (w0 w : World) (F : Nat → Prop) (s : Nat) (st : SiteSt) (i : Nat) : Prop where
  site : SiteAt w F s st
  ok : st.ok
  txt : TxtOk st
  last : st.last ≤ i
  new : ∀ k, F k → w0.heap.size ≤ k
  ext : Ext w0 w

theorem Inv.step {w0 w w' : World} {F F' : Nat → Prop} {s : Nat} {st st' : SiteSt} {i : Nat} {o : OpI} {v opened n e : Int} (h : Inv w0 w F s st i) (hi : i < 500)
    (hm : Mod F w w') (hF : ∀ k, F' k → F k ∨ w.heap.size ≤ k) (hS : SiteAt w' F' s st') (hd : Did w.heap.size st o v opened n e st') : Inv w0 w' F' s st' (i + 1) where
  site := hS
  ok := hd.ok h.ok (by have := h.last; omega)
  txt := hd.txt h.txt
  last := by have := hd.last; have := h.last; omega
  new := fun k hk => by rcases hF k hk with h' | h'; exact h.new k h'; have := h.ext.size; omega
  ext := h.ext.then hm (fun k hk h' => by have := h.new k h'; omega)

theorem Inv.mod {w0 w w' : World} {F : Nat → Prop} {s : Nat} {st : SiteSt} {i : Nat} (h : Inv w0 w F s st i) (hm : Ext w w') : Inv w0 w' F s st i :=
  ⟨h.site.mod hm (fun _ _ h => h), h.ok, h.txt, h.last, h.new, h.ext.trans hm⟩

theorem ops_take {w : World} {ao : Option Addr} {l : List OpI} (hr : RowIs w ao (l.flatMap opC)) (n : Nat) : RowIs w ao ((l.take n).flatMap opC) := by
  intro j u hu
  apply hr j u
  have e : l.flatMap opC = (l.take n).flatMap opC ++ (l.drop n).flatMap opC := by rw [← List.flatMap_append, List.take_append_drop]
  rw [e]
  have hj := (List.getElem?_eq_some_iff.1 hu).1
  rw [List.getElem?_append_left hj]; exact hu

theorem snapsL_len (st : SiteSt) : 4 ≤ (snapsL st).length ∧ (snapsL st).length ≤ 4 + st.ses.length := by
  have h := Kept.snaps st
  have hb := h.bound
  obtain ⟨ex, he, _⟩ := h
  rw [List.length_map] at hb
  simp only [List.length_cons, List.length_nil] at hb
  constructor
  · rw [he]; simp
  · omega

/-- What is at hand behind the calls that every law begins with. -/
theorem inv0 {w w1 w2 : World} (hE : Ext w w1) (hE2 : Ext w1 w2) (h : SiteAt w2 (fun k => w1.heap.size ≤ k ∧ k < w1.heap.size + 10) (w1.heap.size + 1) (newSt w1.heap.size)) :
    Inv w w2 (fun k => w1.heap.size ≤ k ∧ k < w1.heap.size + 10) (w1.heap.size + 1) (newSt w1.heap.size) 0 :=
  ⟨h, newSt_ok _, newSt_txt _, by simp [newSt], fun k hk => by have := hE.size; omega, hE.trans hE2⟩

theorem close_none {st : SiteSt} {n : Int} (h : st.ses.find? (fun p => decide (p.1 = n)) = none) : closeSt st n = st := by
  unfold closeSt
  have : st.ses.filter (fun p => !decide (p.1 = n)) = st.ses := by
    rw [List.filter_eq_self]
    intro p hp
    have := List.find?_eq_none.1 h p hp
    simpa using this
  rw [this]

theorem filter_one {α : Type} {f : α → Int} : ∀ {l : List α} {n : Int} {q : α}, (l.map f).Nodup → q ∈ l → f q = n → (l.filter (fun p => !decide (f p = n))).length + 1 = l.length
  | [], _, _, _, h, _ => by cases h
  | x :: l, n, q, hn, hq, he => by
    simp only [List.map_cons, List.nodup_cons] at hn
    by_cases hx : f x = n
    · have : l.filter (fun p => !decide (f p = n)) = l := by
        rw [List.filter_eq_self]
        intro p hp
        have : f p ≠ n := fun e => hn.1 (by rw [hx, ← e]; exact List.mem_map_of_mem hp)
        simpa using this
      rw [List.filter_cons_of_neg (by simp [hx]), this]; simp
    · rcases List.mem_cons.1 hq with rfl | hq
      · exact absurd he hx
      · rw [List.filter_cons_of_pos (by simp [hx])]
        simp only [List.length_cons]
        rw [filter_one hn.2 hq he]

theorem Did.four {B : Nat} {st st' : SiteSt} {o : OpI} {v opened n e : Int} (h : Did B st o v opened n e st') (hn : (st.ses.map (·.1)).Nodup) :
    (e = 250 ∧ n = 0 ∧ st' = st) ∨
    (e = 0 ∧ n = 0 ∧ (pickI o.kind 4 = 0 ∨ pickI o.kind 4 = 1) ∧ st'.last = st.last ∧ st'.ses = st.ses) ∨
    (e = 0 ∧ n = st.last + 1 ∧ pickI o.kind 4 = 2 ∧ st' = openSt st (classI o.cls) ∧ isClassB (classI o.cls) = true) ∨
    (e = 0 ∧ n = 0 ∧ pickI o.kind 4 = 3 ∧ st' = closeSt st (sessionI o.num opened) ∧ st'.ses.length + 1 = st.ses.length) := by
  cases h with
  | pub pg hk hc N tb hN =>
    right; left
    cases pg with
    | false => exact ⟨rfl, rfl, .inl hk, rfl, rfl⟩
    | true => exact ⟨rfl, rfl, .inr hk, rfl, rfl⟩
  | bad => exact .inl ⟨rfl, rfl, rfl⟩
  | opn hk hc hlt => exact .inr (.inr (.inl ⟨rfl, rfl, hk, rfl, hc⟩))
  | full => exact .inl ⟨rfl, rfl, rfl⟩
  | cls hk =>
    unfold closeE
    cases hf : st.ses.find? (fun p => decide (p.1 = sessionI o.num opened)) with
    | none => exact .inl ⟨rfl, rfl, close_none hf⟩
    | some q =>
      refine .inr (.inr (.inr ⟨rfl, rfl, hk, rfl, ?_⟩))
      have h1 := List.mem_of_find?_eq_some hf
      have h2 : q.1 = sessionI o.num opened := by simpa using List.find?_some hf
      exact filter_one hn h1 h2
end Go.Proofs.Ytncmhcfhbogjnaa
