import Derived.Test.YtncmhcfhbogjnaaR7
import Derived.Test.YtncmhcfhbogjnaaC1
/-
  What the site and the reference's site have in common: plain laws, no program in sight.
-/
namespace Go.Proofs.Ytncmhcfhbogjnaa
open Go.RowKit Cdk

/-- μ: the number of the call that made the snapshot in a block; π: its pages. -/
structure Sim (μ : Nat → Int) (π : Nat → List Pg) (st : SiteSt) (R : RefSt) : Prop where
  cur : R.cur.map stripC = (List.range 4).map (fun c => (μ (st.cur c), π (st.cur c)))
  opn : R.opn.map strip = st.ses.map (fun q => (q.1, q.2.1, μ q.2.2, π q.2.2))
  txt : ∀ p, st.live p → st.txt p = pubT (π p)
  len : ∀ p, st.live p → (π p).length ≤ 5
  last : R.last = st.last
  inj : ∀ p q, st.live p → st.live q → μ p = μ q → p = q
  top : ∀ p, st.live p → μ p ≤ R.made
  lo : 0 ≤ R.made

section
variable {μ : Nat → Int} {π : Nat → List Pg} {st : SiteSt} {R : RefSt}

theorem Sim.at (h : Sim μ π st R) {j : Nat} (hj : j < 4) {x : Shot} (hx : R.cur[j]? = some x) : stripC x = (μ (st.cur j), π (st.cur j)) := by
  have h1 : (R.cur.map stripC)[j]? = some (stripC x) := by rw [List.getElem?_map, hx]; rfl
  rw [h.cur, List.getElem?_map, List.getElem?_range hj] at h1
  exact (Option.some.inj h1).symm

theorem Sim.four (h : Sim μ π st R) : R.cur.length = 4 := by
  have := congrArg List.length h.cur
  simpa using this

theorem Sim.get (h : Sim μ π st R) (c : Int) (a : ByteArray) : RGet R c a = GetR st c a := by
  unfold RGet GetR
  cases hc : isClassB c with
  | false => rfl
  | true =>
    obtain ⟨h0, h1⟩ := isClassB_iff.1 hc
    obtain ⟨j, rfl⟩ := Int.eq_ofNat_of_zero_le h0
    have hj : j < 4 := by omega
    have hjl : j < R.cur.length := by rw [h.four]; exact hj
    have hx := h.at hj (List.getElem?_eq_getElem hjl)
    simp only [Int.toNat_natCast, List.getElem?_eq_getElem hjl, if_true]
    have h2 : (R.cur[j]).2.2 = π (st.cur j) := congrArg Prod.snd hx
    rw [h2, h.txt _ (.inl ⟨j, hj, rfl⟩)]

theorem Sim.sessions (h : Sim μ π st R) : R.opn.length = st.ses.length := by
  have := congrArg List.length h.opn
  simpa using this

theorem Sim.find (h : Sim μ π st R) (n : Int) : (R.opn.find? (fun p => decide (p.1 = n))).map strip = (st.ses.find? (fun p => decide (p.1 = n))).map (fun q => (q.1, q.2.1, μ q.2.2, π q.2.2)) := by
  have h1 : (R.opn.map strip).find? (fun p => decide (p.1 = n)) = (st.ses.map (fun q => (q.1, q.2.1, μ q.2.2, π q.2.2))).find? (fun p => decide (p.1 = n)) := by rw [h.opn]
  rw [List.find?_map, List.find?_map] at h1
  exact h1

theorem Sim.read (h : Sim μ π st R) (n : Int) (a : ByteArray) : RRead R n a = ReadR st n a := by
  unfold RRead ReadR
  have h1 := h.find n
  cases ho : R.opn.find? (fun p => decide (p.1 = n)) with
  | none =>
    rw [ho] at h1
    cases hs : st.ses.find? (fun p => decide (p.1 = n)) with
    | none => rfl
    | some q => rw [hs] at h1; cases h1
  | some e =>
    rw [ho] at h1
    cases hs : st.ses.find? (fun p => decide (p.1 = n)) with
    | none => rw [hs] at h1; cases h1
    | some q =>
      rw [hs] at h1
      have h2 := Option.some.inj h1
      have h3 : e.2.2.2.2 = π q.2.2 := congrArg (fun x : Int × Int × Int × List Pg => x.2.2.2) h2
      simp only
      rw [h3, h.txt _ (.inr ⟨q, List.mem_of_find?_eq_some hs, rfl⟩)]

theorem Sim.hold (h : Sim μ π st R) : ∀ e ∈ R.opn, e.2.2.2.2.length ≤ 5 := by
  intro e he
  have h1 : strip e ∈ R.opn.map strip := List.mem_map_of_mem he
  rw [h.opn] at h1
  obtain ⟨q, hq, he'⟩ := List.mem_map.1 h1
  have h3 : π q.2.2 = e.2.2.2.2 := congrArg (fun x : Int × Int × Int × List Pg => x.2.2.2) he'
  rw [← h3]
  exact h.len _ (.inr ⟨q, hq, rfl⟩)

theorem Sim.small (h : Sim μ π st R) : R.small where
  opn := fun e he => by have := h.hold e he; omega
  cur := fun e he => by
    obtain ⟨j, hj, rfl⟩ := List.mem_iff_getElem.1 he
    have hj4 : j < 4 := by rw [← h.four]; exact hj
    have hx := h.at hj4 (List.getElem?_eq_getElem hj)
    have h2 : (R.cur[j]).2.2 = π (st.cur j) := congrArg Prod.snd hx
    rw [h2]
    have := h.len _ (.inl ⟨j, hj4, rfl⟩)
    omega

theorem fold_map (L K : List Nat) (hinj : ∀ p ∈ L ++ K, ∀ q ∈ L ++ K, μ p = μ q → p = q) : (L.map μ).foldl addI (K.map μ) = (L.foldl addN K).map μ := by
  induction L generalizing K with
  | nil => rfl
  | cons a L ih =>
    simp only [List.map_cons, List.foldl_cons]
    have hstep : addI (K.map μ) (μ a) = (addN K a).map μ := by
      unfold addI addN
      by_cases ha : a ∈ K
      · rw [if_pos ha, if_pos (List.mem_map_of_mem ha)]
      · rw [if_neg ha, if_neg]
        · simp
        · intro hm
          obtain ⟨b, hb, e⟩ := List.mem_map.1 hm
          have := hinj b (by simp [hb]) a (by simp) e
          rw [this] at hb; exact ha hb
    rw [hstep]
    have key : ∀ p, p ∈ L ++ addN K a → p ∈ a :: L ++ K := by
      intro p hp
      rcases List.mem_append.1 hp with h | h
      · simp [h]
      · unfold addN at h
        split at h
        · simp [h]
        · rcases List.mem_append.1 h with h | h
          · simp [h]
          · simp only [List.mem_singleton] at h; simp [h]
    exact ih (addN K a) (fun p hp q hq => hinj p (key p hp) q (key q hq))

theorem Sim.count (h : Sim μ π st R) : (RSnaps R).length = (snapsL st).length := by
  unfold RSnaps snapsL
  have h1 : R.opn.map (·.2.2.1) = (st.ses.map (·.2.2)).map μ := by
    have := congrArg (List.map (fun x : Int × Int × Int × List Pg => x.2.2.1)) h.opn
    rw [List.map_map, List.map_map] at this
    rw [List.map_map]; exact this
  have h2 : R.cur.map (·.1) = [st.cur 0, st.cur 1, st.cur 2, st.cur 3].map μ := by
    have := congrArg (List.map (fun x : Int × List Pg => x.1)) h.cur
    rw [List.map_map, List.map_map] at this
    exact this
  rw [h1, h2, fold_map, List.length_map]
  have hl : ∀ p ∈ st.ses.map (·.2.2) ++ [st.cur 0, st.cur 1, st.cur 2, st.cur 3], st.live p := by
    intro p hp
    rcases List.mem_append.1 hp with hp | hp
    · obtain ⟨q, hq, rfl⟩ := List.mem_map.1 hp; exact .inr ⟨q, hq, rfl⟩
    · simp only [List.mem_cons, List.not_mem_nil, or_false] at hp
      rcases hp with rfl | rfl | rfl | rfl
      · exact .inl ⟨0, by omega, rfl⟩
      · exact .inl ⟨1, by omega, rfl⟩
      · exact .inl ⟨2, by omega, rfl⟩
      · exact .inl ⟨3, by omega, rfl⟩
  exact fun p hp q hq e => h.inj p q (hl p hp) (hl q hq) e

theorem Sim.new (B : Nat) (cv ov : Value) : Sim (fun p => (((p - (B + 3)) / 2 + 1 : Nat) : Int)) (fun _ => []) (newSt B) ⟨cv, ov, curL 4, [], 0, 4⟩ where
  cur := by
    simp only [curL, List.map_map, newSt]
    apply List.map_congr_left
    intro c hc
    simp only [Function.comp, stripC]
    rw [show (B + 3 + 2 * c - (B + 3)) / 2 + 1 = c + 1 by omega]
    rfl
  opn := rfl
  txt := fun p _ => rfl
  len := fun p _ => by simp
  last := rfl
  inj := by
    intro p q hp hq e
    have key : ∀ p, (newSt B).live p → ∃ j, p = B + 3 + 2 * j := by
      rintro p (⟨c, hc, rfl⟩ | ⟨q, hq, _⟩)
      · exact ⟨c, rfl⟩
      · cases hq
    obtain ⟨i, rfl⟩ := key p hp
    obtain ⟨j, rfl⟩ := key q hq
    have e' : (((B + 3 + 2 * i - (B + 3)) / 2 + 1 : Nat) : Int) = (((B + 3 + 2 * j - (B + 3)) / 2 + 1 : Nat) : Int) := e
    omega
  top := by
    rintro p (⟨c, hc, rfl⟩ | ⟨q, hq, _⟩)
    · simp only [newSt]; omega
    · cases hq
  lo := by show (0 : Int) ≤ 4; decide

theorem Sim.open (h : Sim μ π st R) {c : Int} (hc : isClassB c = true) {x : Shot} (hx : R.cur[c.toNat]? = some x) (ov : Value) :
    Sim μ π (openSt st c) { R with ov := ov, opn := R.opn ++ [(R.last + 1, c, x)], last := R.last + 1 } := by
  obtain ⟨h0, h1⟩ := isClassB_iff.1 hc
  have hj : c.toNat < 4 := by omega
  have he := h.at hj hx
  have hl : ∀ p, (openSt st c).live p → st.live p := by
    rintro p (hp | ⟨q, hq, rfl⟩)
    · exact .inl hp
    · simp only [openSt, List.mem_append, List.mem_singleton] at hq
      rcases hq with hq | rfl
      · exact .inr ⟨q, hq, rfl⟩
      · exact .inl ⟨c.toNat, hj, rfl⟩
  refine ⟨h.cur, ?_, fun p hp => h.txt p (hl p hp), fun p hp => h.len p (hl p hp), ?_, fun p q hp hq => h.inj p q (hl p hp) (hl q hq), fun p hp => h.top p (hl p hp), h.lo⟩
  · simp only [openSt, List.map_append, List.map_cons, List.map_nil]
    rw [h.opn, h.last]
    congr 2
    have e1 : x.1 = μ (st.cur c.toNat) := congrArg Prod.fst he
    have e2 : x.2.2 = π (st.cur c.toNat) := congrArg Prod.snd he
    simp only [strip, e1, e2]
  · simp only [openSt]; rw [h.last]

theorem filter_erase {β : Type} {l : List β} {f : β → Int} (hn : (l.map f).Nodup) {k : Nat} (hk : k < l.length) : l.filter (fun p => !decide (f p = f l[k])) = l.take k ++ l.drop (k + 1) := by
  have hd : l.drop k = l[k] :: l.drop (k + 1) := List.drop_eq_getElem_cons hk
  have hs : l = l.take k ++ l[k] :: l.drop (k + 1) := by rw [← hd, List.take_append_drop]
  generalize hx : l[k] = x at *
  generalize l.take k = A at *
  generalize l.drop (k + 1) = C at *
  rw [hs, List.map_append, List.map_cons] at hn
  rw [List.nodup_append] at hn
  obtain ⟨-, h2, h3⟩ := hn
  rw [List.nodup_cons] at h2
  rw [hs, List.filter_append, List.filter_cons]
  simp only [decide_true, Bool.not_true, Bool.false_eq_true, if_false]
  congr 1
  · rw [List.filter_eq_self]
    intro a ha
    have := h3 (f a) (List.mem_map_of_mem ha) (f x) (by simp)
    simpa using this
  · rw [List.filter_eq_self]
    intro a ha
    have : f a ≠ f x := fun e => h2.1 (by rw [← e]; exact List.mem_map_of_mem ha)
    simpa using this

theorem Sim.close (h : Sim μ π st R) (hn : (st.ses.map (·.1)).Nodup) (ov : Value) {k : Nat} (hk : k < R.opn.length) :
    Sim μ π (closeSt st (R.opn[k]).1) { R with ov := ov, opn := R.opn.take k ++ R.opn.drop (k + 1) } := by
  have hks : k < st.ses.length := by rw [← h.sessions]; exact hk
  have hnum : (R.opn[k]).1 = (st.ses[k]).1 := by
    have h1 : (R.opn.map strip)[k]? = some (strip R.opn[k]) := by rw [List.getElem?_map, List.getElem?_eq_getElem hk]; rfl
    rw [h.opn, List.getElem?_map, List.getElem?_eq_getElem hks] at h1
    exact (congrArg (fun x : Int × Int × Int × List Pg => x.1) (Option.some.inj h1)).symm
  have hl : ∀ p, (closeSt st (R.opn[k]).1).live p → st.live p := fun p hp => closeSt_live hp
  refine ⟨h.cur, ?_, fun p hp => h.txt p (hl p hp), fun p hp => h.len p (hl p hp), h.last, fun p q hp hq => h.inj p q (hl p hp) (hl q hq), fun p hp => h.top p (hl p hp), h.lo⟩
  simp only [closeSt]
  rw [hnum, filter_erase (f := fun p : Int × Int × Nat => p.1) hn hks, List.map_append, List.map_append, List.map_take, List.map_take, List.map_drop, List.map_drop, h.opn]

theorem pubT_left (l ps : List Pg) : pubT (leftL l ps) = purgeD (pubT ps) (pubT l) := by
  induction ps with
  | nil => rfl
  | cons p ps ih =>
    unfold pubT leftL purgeD at ih ⊢
    simp only [List.map_cons, List.filterMap_cons]
    have hlk : look (l.map (fun p => (p.1, p.2.1))) p.1 = (l.find? (fun q => decide (q.1 = p.1))).map (·.2.1) := by
      unfold look
      rw [List.find?_map, Option.map_map]
      rfl
    rw [hlk]
    cases hf : l.find? (fun q => decide (q.1 = p.1)) with
    | none => simpa using ih
    | some q =>
      have hq : q.1 = p.1 := by simpa using List.find?_some hf
      simp only [Option.map_some, List.map_cons]
      rw [ih, hq]

theorem Sim.pub (h : Sim μ π st R) (hcl : st.cls) {c : Int} (hc : isClassB c = true) (pg : Bool) {N tb : Nat} (hN : ∀ p, st.live p → p ≠ N) {l : List Pg} (hl5 : l.length ≤ 5) {R' : RefSt}
    (hcur : R'.cur.map stripC = (R.cur.map stripC).set c.toNat (R.made + 1, l)) (hopn : R'.opn.map strip = (if pg then (R.opn.map strip).map (purgeS c l) else R.opn.map strip))
    (hlast : R'.last = R.last) (hmade : R'.made = R.made + 1) : ∃ μ' π', Sim μ' π' (pubAll st c pg N tb l) R' := by
  obtain ⟨h0, h1⟩ := isClassB_iff.1 hc
  have hj : c.toNat < 4 := by omega
  obtain ⟨f, hf1, hf2⟩ := hcl
  have hses : (pubAll st c pg N tb l).ses = st.ses := by cases pg <;> rfl
  have hcurr : ∀ k, (pubAll st c pg N tb l).cur k = if k = c.toNat then N else st.cur k := by intro k; cases pg <;> rfl
  have hlst : (pubAll st c pg N tb l).last = st.last := by cases pg <;> rfl
  let hit : Nat → Bool := fun p => pg && st.ses.any (fun q => decide (q.2.1 = c) && decide (q.2.2 = p))
  have hhit : ∀ q ∈ st.ses, hit q.2.2 = (pg && decide (q.2.1 = c)) := by
    intro q hq
    simp only [hit]
    congr 1
    rw [Bool.eq_iff_iff, List.any_eq_true, decide_eq_true_eq]
    constructor
    · rintro ⟨q', hq', hx⟩
      simp only [Bool.and_eq_true, decide_eq_true_eq] at hx
      have e1 := hf2 q hq
      have e2 := hf2 q' hq'
      rw [hx.2, hx.1] at e2
      exact e1.symm.trans e2
    · intro hqc
      exact ⟨q, hq, by simp [hqc]⟩
  have hhitc : ∀ k, k < 4 → k ≠ c.toNat → hit (st.cur k) = false := by
    intro k hk hne
    simp only [hit]
    rw [Bool.and_eq_false_iff]
    right
    rw [List.any_eq_false]
    intro q hq hx
    simp only [Bool.and_eq_true, decide_eq_true_eq] at hx
    have e1 := hf2 q hq
    have e2 := hf1 k hk
    rw [hx.2, hx.1, e2] at e1
    omega
  have htxt : ∀ p, p ≠ N → (pubAll st c pg N tb l).txt p = if hit p then purgeD (st.txt p) (pubT l) else st.txt p := by
    intro p hp
    cases pg with
    | false => simp [pubAll, pubSt, hp, hit]
    | true =>
      simp only [pubAll, pubSt, if_true, hp, if_false, purgedSt, hit, Bool.true_and]
      congr 2
      rw [Bool.eq_iff_iff, List.any_eq_true, List.any_eq_true]
      constructor
      · rintro ⟨q, hq, hx⟩
        simp only [Bool.and_eq_true, decide_eq_true_eq] at hx
        exact ⟨q, hq, by simp [hx.1.2, hx.2]⟩
      · rintro ⟨q, hq, hx⟩
        simp only [Bool.and_eq_true, decide_eq_true_eq] at hx
        refine ⟨q, hq, ?_⟩
        simp only [hx.1, hx.2, decide_true, Bool.and_true, decide_eq_true_eq]
        exact List.mem_map_of_mem hq
  have htxtN : (pubAll st c pg N tb l).txt N = pubT l := by cases pg <;> simp [pubAll, pubSt]
  have hlive : ∀ p, (pubAll st c pg N tb l).live p → p = N ∨ (st.live p ∧ p ≠ N) := by
    rintro p (⟨k, hk, rfl⟩ | ⟨q, hq, rfl⟩)
    · rw [hcurr]
      by_cases e : k = c.toNat
      · left; rw [if_pos e]
      · right; rw [if_neg e]; exact ⟨.inl ⟨k, hk, rfl⟩, hN _ (.inl ⟨k, hk, rfl⟩)⟩
    · right
      rw [hses] at hq
      exact ⟨.inr ⟨q, hq, rfl⟩, hN _ (.inr ⟨q, hq, rfl⟩)⟩
  refine ⟨fun p => if p = N then R.made + 1 else μ p, fun p => if p = N then l else if hit p then leftL l (π p) else π p, ?_, ?_, ?_, ?_, ?_, ?_, ?_, ?_⟩
  · rw [hcur, h.cur]
    apply List.ext_getElem?
    intro k
    by_cases hk : k < 4
    · by_cases e : k = c.toNat
      · subst e
        rw [List.getElem?_set_self (by simpa using hk), List.getElem?_map, List.getElem?_range hk]
        simp [hcurr]
      · rw [List.getElem?_set_ne (fun e' => e e'.symm), List.getElem?_map, List.getElem?_map, List.getElem?_range hk]
        have hp := hN _ (.inl ⟨k, hk, rfl⟩)
        simp [hcurr, e, hp, hhitc k hk e]
    · rw [List.getElem?_eq_none (by simp; omega), List.getElem?_eq_none (by simp; omega)]
  · rw [hopn, hses, h.opn]
    cases pg with
    | false =>
      simp only [Bool.false_eq_true, if_false]
      apply List.map_congr_left
      intro q hq
      have hp := hN _ (.inr ⟨q, hq, rfl⟩)
      simp [hp, hit]
    | true =>
      simp only [if_true, List.map_map]
      apply List.map_congr_left
      intro q hq
      have hp := hN _ (.inr ⟨q, hq, rfl⟩)
      have hh := hhit q hq
      simp only [Bool.true_and] at hh
      simp only [Function.comp, purgeS, hp, if_false, hh]
      by_cases e : q.2.1 = c
      · simp [e]
      · simp [e]
  · intro p hp
    rcases hlive p hp with rfl | ⟨hp', hne⟩
    · rw [htxtN, if_pos rfl]
    · rw [htxt p hne, if_neg hne, h.txt p hp']
      cases hit p
      · simp
      · simp only [if_true]; rw [pubT_left]
  · intro p hp
    rcases hlive p hp with rfl | ⟨hp', hne⟩
    · rw [if_pos rfl]; exact hl5
    · rw [if_neg hne]
      have h5 := h.len p hp'
      split
      · exact Nat.le_trans (leftL_len _ _) h5
      · exact h5
  · rw [hlast, h.last, hlst]
  · intro p q hp hq e
    rcases hlive p hp with rfl | ⟨hp', hne⟩ <;> rcases hlive q hq with rfl | ⟨hq', hne'⟩
    · rfl
    · simp only [if_true, hne', if_false] at e
      have := h.top q hq'; omega
    · simp only [if_true, hne, if_false] at e
      have := h.top p hp'; omega
    · simp only [hne, hne', if_false] at e
      exact h.inj p q hp' hq' e
  · intro p hp
    rcases hlive p hp with rfl | ⟨hp', hne⟩
    · rw [if_pos rfl, hmade]; omega
    · rw [if_neg hne, hmade]
      have := h.top p hp'; omega
  · rw [hmade]; have := h.lo; omega
end
end Go.Proofs.Ytncmhcfhbogjnaa
