import Derived.Test.YtncmhcfhbogjnaaC1
namespace Go.Proofs.Ytncmhcfhbogjnaa
open Go.RowKit Cdk

/-! The list of the sessions' classes. -/

structure OfOk (st : SiteSt) (of : List Int) : Prop where
  len : (of.length : Int) = st.last
  at' : ∀ q ∈ st.ses, 1 ≤ q.1 ∧ of[(q.1 - 1).toNat]? = some q.2.1

theorem Did.of {B : Nat} {st st' : SiteSt} {o : OpI} {v opened n e : Int} (h : Did B st o v opened n e st') {of : List Int} (hf : OfOk st of) :
    (pickI o.kind 4 = 2 ∧ e = 0 ∧ n = st.last + 1 ∧ st' = openSt st (classI o.cls) ∧ isClassB (classI o.cls) = true ∧ OfOk st' (of ++ [classI o.cls])) ∨ ((pickI o.kind 4 ≠ 2 ∨ e = 250) ∧ OfOk st' of ∧ st'.last = st.last) := by
  cases h with
  | pub pg hk hc N tb hN =>
    right
    cases pg with
    | false => exact ⟨.inl (by rw [hk]; decide), ⟨hf.len, hf.at'⟩, rfl⟩
    | true => exact ⟨.inl (by rw [hk]; decide), ⟨hf.len, hf.at'⟩, rfl⟩
  | bad hk => exact .inr ⟨.inl (by rcases hk with hk | hk <;> rw [hk] <;> decide), hf, rfl⟩
  | opn hk hc hl =>
    refine .inl ⟨hk, rfl, rfl, rfl, hc, ⟨by simp only [openSt, List.length_append, List.length_cons, List.length_nil]; have := hf.len; omega, ?_⟩⟩
    intro q hq
    rcases List.mem_append.1 hq with hq | hq
    · obtain ⟨h1, h2⟩ := hf.at' q hq
      refine ⟨h1, ?_⟩
      rw [List.getElem?_append_left (List.getElem?_eq_some_iff.1 h2).1]; exact h2
    · simp at hq; subst hq
      have := hf.len
      refine ⟨by simp only; omega, ?_⟩
      simp only
      rw [show (st.last + 1 - 1).toNat = of.length by omega]
      simp
  | full hk => exact .inr ⟨.inr rfl, hf, rfl⟩
  | cls hk => exact .inr ⟨.inl (by rw [hk]; decide), ⟨hf.len, fun q hq => hf.at' q (List.mem_filter.1 hq).1⟩, rfl⟩

theorem newSt_of (B : Nat) : OfOk (newSt B) [] := ⟨rfl, fun q hq => by cases hq⟩

def intC (n : Int) : List Value := [.int .i64 n]
theorem intC_len (n : Int) : (intC n).length = 1 := rfl
theorem intC_one : ∀ y : Int, ∀ u ∈ intC y, u.oneCell' = true := fun y u hu => by simp [intC] at hu; subst hu; rfl
theorem el3 : El Try.prog 3 (.int .i64 0) 1 8 := ⟨by kernel_rfl, rfl, by decide, by decide⟩
theorem int_at {w : World} {ao : Option Addr} {l : List Int} (hr : RowIs w ao (l.flatMap intC)) {k : Nat} (hk : k < l.length) :
    ∃ b off, ao = some ⟨b, off, none⟩ ∧ w.cell? ⟨b, off + k, none⟩ = some (.int .i64 l[k]) := by
  obtain ⟨b, off, rfl, hc⟩ := hr.at (by rw [flat_length _ 1 intC_len]; omega)
  refine ⟨b, off, rfl, hc k _ ?_⟩
  have := flat_get intC 1 intC_len l k 0 l[k] (List.getElem?_eq_getElem hk) (by omega)
  simpa [intC] using this

/-! The site's blocks, and no more. -/

def SiteSt.foot (st : SiteSt) (s : Nat) (k : Nat) : Prop := k = s ∨ k = st.m ∨ ∃ p, st.live p ∧ (k = p ∨ k = st.tm p)

theorem SiteAt.foot {w : World} {F : Nat → Prop} {s : Nat} {st : SiteSt} (h : SiteAt w F s st) {k : Nat} (hk : st.foot s k) : F k := by
  rcases hk with rfl | rfl | ⟨p, hp, rfl | rfl⟩
  · exact h.own.1
  · exact h.own.2
  · exact (h.shot _ hp).1
  · exact (h.shot _ hp).2.1

theorem SiteAt.tight {w : World} {F : Nat → Prop} {s : Nat} {st : SiteSt} (h : SiteAt w F s st) : SiteAt w (st.foot s) s st where
  lt := fun k hk => h.lt k (h.foot hk)
  own := ⟨.inl rfl, .inr (.inl rfl)⟩
  top := h.top
  ses := h.ses
  shot := fun p hp => let ⟨_, _, c, d, e⟩ := h.shot p hp; ⟨.inr (.inr ⟨p, hp, .inl rfl⟩), .inr (.inr ⟨p, hp, .inr rfl⟩), c, d, e⟩
  apart := h.apart

theorem SiteAt.clear {w : World} {F : Nat → Prop} {s : Nat} {st : SiteSt} (h : SiteAt w F s st) {α : Type} {base : Nat} {size : Nat} {f : α → List Value} {v : Value} {xs : List α} (ho : Own w base 3 size f v xs) :
    ∀ k, v.ownBlock = some k → ¬ st.foot s k := by
  intro k hk hf
  rcases ho.2 with ⟨rfl, -⟩ | ⟨g, cap, cur, rfl, hb, hg, hle, hcm, hcs, ht⟩
  · cases hk
  · have e : g = k := Option.some.inj hk
    subst e
    rcases hf with rfl | rfl | ⟨p, hp, rfl | rfl⟩
    · rw [h.top] at hg; injection hg with hg; injection hg with _ hg; cases hg
    · obtain ⟨es, c, hh, _⟩ := h.ses
      rw [hh] at hg; cases hg
    · rw [(h.shot _ hp).2.2.2.1] at hg; injection hg with hg; injection hg with _ hg; cases hg
    · obtain ⟨es, c, hh, _⟩ := (h.shot _ hp).2.2.2.2
      rw [hh] at hg; cases hg

theorem Inv.tight {w0 w : World} {F : Nat → Prop} {s : Nat} {st : SiteSt} {i : Nat} (h : Inv w0 w F s st i) : Inv w0 w (st.foot s) s st i :=
  ⟨h.site.tight, h.ok, h.txt, h.last, fun k hk => h.new k (h.site.foot hk), h.ext⟩

theorem Inv.other {w0 w w' : World} {F S : Nat → Prop} {s : Nat} {st : SiteSt} {i : Nat} (h : Inv w0 w F s st i) (hm : Mod S w w') (hS : ∀ k, S k → ¬ F k) (hN : ∀ k, S k → w0.heap.size ≤ k) : Inv w0 w' F s st i :=
  ⟨h.site.mod hm (fun k hk hs => hS k hs hk), h.ok, h.txt, h.last, h.new, h.ext.then hm (fun k hk h' => by have := hN k h'; omega)⟩

/-! What a purge leaves to be read. -/

def wantF (L : List Pg) (a : ByteArray) : ByteArray := L.foldl (fun w p => if p.1 = a then p.2.1 else w) .empty

theorem wantF_succ (L : List Pg) (a : ByteArray) {j : Nat} (hj : j < L.length) : wantF (L.take (j + 1)) a = if L[j].1 = a then L[j].2.1 else wantF (L.take j) a := by
  unfold wantF
  rw [take_succ' hj, List.foldl_append]
  rfl

theorem foldl_none (L : List Pg) (a w : ByteArray) (h : a ∉ L.map (·.1)) : L.foldl (fun w p => if p.1 = a then p.2.1 else w) w = w := by
  induction L generalizing w with
  | nil => rfl
  | cons p L ih =>
    simp only [List.map_cons, List.mem_cons, not_or] at h
    simp only [List.foldl_cons]
    rw [if_neg (fun e => h.1 e.symm)]
    exact ih w h.2

theorem wantF_look (L : List Pg) (a : ByteArray) (hn : (L.map (·.1)).Nodup) : wantF L a = (look (pubT L) a).getD .empty := by
  unfold wantF look pubT
  induction L with
  | nil => rfl
  | cons p L ih =>
    simp only [List.map_cons, List.nodup_cons] at hn
    simp only [List.foldl_cons, List.map_cons, List.find?_cons]
    by_cases e : p.1 = a
    · rw [if_pos e, foldl_none L a _ (by rw [← e]; exact hn.1)]
      simp [e]
    · rw [if_neg e]
      simp only [e, decide_false]
      exact ih hn.2

theorem look_pages {n v : Int} {a t : ByteArray} (h : look (pubT (pagesL n v)) a = some t) : t ≠ .empty := by
  unfold look at h
  obtain ⟨p, hp, rfl⟩ := Option.map_eq_some_iff.1 h
  have hp := List.mem_of_find?_eq_some hp
  unfold pubT at hp
  obtain ⟨q, hq, rfl⟩ := List.mem_map.1 hp
  unfold pagesL at hq
  obtain ⟨i, hi, he⟩ := List.mem_filterMap.1 hq
  unfold pageOf at he
  split at he
  · simp at he; subst he
    intro e
    have h1 : (markB v).size = 2 := by unfold markB; rw [strOfNums_size]; rfl
    have h2 : (markB v ++ addrs.getD i .empty).size = 0 := by
      have := congrArg ByteArray.size e
      exact this
    rw [ByteArray.size_append] at h2
    omega
  · simp at he

theorem getR_look (d : Txt) (a : ByteArray) : getR d a = match look d a with | some t => (t, 0) | none => (.empty, 251) := by
  unfold getR look
  cases d.find? (fun p => decide (p.1 = a)) <;> rfl

theorem getR_purge {d dn : Txt} {a u : ByteArray} (h : getR (purgeD d dn) a = (u, 0)) : look dn a = some u := by
  unfold getR at h
  cases hf : (purgeD d dn).find? (fun p => decide (p.1 = a)) with
  | none => rw [hf] at h; simp at h
  | some p =>
    rw [hf] at h
    simp at h
    have h1 := look_pubD p (List.mem_of_find?_eq_some hf)
    have h2 : p.1 = a := by simpa using List.find?_some hf
    rw [← h2, ← h]; exact h1

theorem Get_purged {st : SiteSt} {c : Int} {N tb : Nat} {L : List Pg} (h0 : 0 ≤ c) (h1 : c < 4) (a : ByteArray) : GetR (pubAll st c true N tb L) c a = getR (pubT L) a := by
  obtain ⟨j, rfl⟩ := Int.eq_ofNat_of_zero_le h0
  exact GetR_pub _ j N tb _ (by omega) a

theorem Read_purged {st : SiteSt} {of : List Int} (hof : OfOk st of) {c : Int} {N tb : Nat} {L : List Pg} (hN : ∀ p, st.live p → p ≠ N) {j : Nat} {a u : ByteArray} (hj : of[j]? = some c)
    (h : ReadR (pubAll st c true N tb L) (j + 1) a = (u, 0)) : look (pubT L) a = some u := by
  unfold ReadR at h
  have hs : (pubAll st c true N tb L).ses = st.ses := rfl
  rw [hs] at h
  cases hf : st.ses.find? (fun p => decide (p.1 = (j : Int) + 1)) with
  | none => rw [hf] at h; simp at h
  | some q =>
    rw [hf] at h
    have hq := List.mem_of_find?_eq_some hf
    have hq1 : q.1 = (j : Int) + 1 := by simpa using List.find?_some hf
    obtain ⟨-, h2⟩ := hof.at' q hq
    rw [show (q.1 - 1).toNat = j by omega, hj] at h2
    have hc : q.2.1 = c := (Option.some.inj h2).symm
    have hne : q.2.2 ≠ N := hN _ (.inr ⟨q, hq, rfl⟩)
    simp only [pubAll, if_true, pubSt, hne, if_false, purgedSt] at h
    rw [if_pos] at h
    · exact getR_purge h
    · refine List.any_eq_true.2 ⟨q, hq, ?_⟩
      simp only [hc, decide_true, Bool.and_true, decide_eq_true_eq]
      exact List.mem_map_of_mem hq
end Go.Proofs.Ytncmhcfhbogjnaa
