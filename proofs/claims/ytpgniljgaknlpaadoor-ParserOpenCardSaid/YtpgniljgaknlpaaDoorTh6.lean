import Derived.Test.YtpgniljgaknlpaaDoorTh5
/-
  The theory of the parser, in plain Lean: what is nested too deep.
-/
namespace Tpl

/-- What the lexer says does not hang on the offset. -/
theorem scan_kt : ∀ (f : Nat) (s : Bs) (o o' : Nat) (tag tag' : Option Nat), tag.isSome = tag'.isSome → (scan f s o tag).map kt = (scan f s o' tag').map kt
  | 0, _, _, _, _, _, _ => rfl
  | f + 1, [], o, o', none, none, _ => rfl
  | f + 1, [], o, o', some _, some _, _ => rfl
  | f + 1, c :: r, o, o', none, none, _ => by
    rw [scan_none, scan_none]
    split
    · rw [List.map_cons, List.map_cons, scan_kt f r (o + 1) (o' + 1) (some o) (some o') rfl]; rfl
    · split
      · rw [List.map_cons, List.map_cons, scan_kt f _ (o + (lit (c :: r)).2.1) (o' + (lit (c :: r)).2.1) none none rfl]; rfl
      · rfl
  | f + 1, c :: r, o, o', some t, some t', _ => by
    rw [scan_some, scan_some]
    split
    · exact scan_kt f r _ _ _ _ rfl
    · split
      · rfl
      · rename_i k w n u _
        rw [List.map_cons, List.map_cons, scan_kt f u (o + n) (o' + n) (if k = 7 then none else some t) (if k = 7 then none else some t') (by split <;> rfl)]
        rfl
  | f + 1, s, _, _, none, some _, h => by simp at h
  | f + 1, s, _, _, some _, none, h => by simp at h

theorem lexS_kt (s : Bs) (o o' : Nat) : (lexS s o none).map kt = (lexS s o' none).map kt := scan_kt _ _ _ _ _ _ rfl

/-- No error of the lexer. -/
def lexOk (s : Bs) : Bool := (lexS s 0 none).all fun t => !decide (t.kind = 0)
theorem lexOk_at {s : Bs} (h : lexOk s = true) (o : Nat) : ∀ t ∈ lexS s o none, t.kind ≠ 0 := by
  intro t ht
  have hm : kt t ∈ (lexS s o none).map kt := List.mem_map_of_mem ht
  rw [lexS_kt s o 0] at hm
  obtain ⟨u, hu, e⟩ := List.mem_map.1 hm
  have := List.all_eq_true.1 h u hu
  simp only [Bool.not_eq_true', decide_eq_false_iff_not] at this
  simp only [kt, Prod.mk.injEq] at e
  omega

/-! ### Nested loops and conditions -/
def tagF : Bs := [123, 102, 111, 114, 32, 97, 125]
def tagI : Bs := [123, 105, 102, 32, 98, 125]
def tagE : Bs := [123, 101, 110, 100, 125]
def tagB (b : Bool) : Bs := if b then tagF else tagI
def tags (l : List Bool) : Bs := l.flatMap tagB
def ends : Nat → Bs
  | 0 => []
  | n + 1 => ends n ++ tagE
def nest : List Bool → List Nd
  | [] => [.mk 1 [120] [] [] 0 [] [] []]
  | true :: r => [.mk 3 [] [97] [] 0 [] (nest r) []]
  | false :: r => [.mk 4 [] [98] [] 0 [] (nest r) []]

theorem ends_len : ∀ n, (ends n).length = 5 * n
  | 0 => rfl
  | n + 1 => by rw [ends, List.length_append, ends_len n]; simp [tagE]; omega
theorem tagB_len (b : Bool) : (tagB b).length ≤ 7 := by cases b <;> decide
theorem tags_len : ∀ l : List Bool, (tags l).length ≤ 7 * l.length
  | [] => by simp [tags]
  | b :: l => by
    have := tags_len l
    have := tagB_len b
    simp only [tags, List.flatMap_cons, List.length_append, List.length_cons] at *
    omega
theorem tags_snoc (l : List Bool) (b : Bool) : tags (l ++ [b]) = tags l ++ tagB b := by simp [tags]

theorem form_nest : ∀ l : List Bool, formL (nest l) = tags l ++ ([120] ++ ends l.length)
  | [] => by decide
  | true :: l => by
    have ih := form_nest l
    simp only [nest, formL, formN]
    rw [ih]
    simp [tags, tagB, tagF, wFor, wEnd, ends, tagE]
  | false :: l => by
    have ih := form_nest l
    simp only [nest, formL, formN]
    rw [ih]
    simp [tags, tagB, tagI, wIf, wEnd, ends, tagE]
theorem val_nest : ∀ (l : List Bool) (d : Nat), d + l.length ≤ 8 → valL (nest l) d false = true
  | [], d, _ => rfl
  | true :: l, d, h => by
    simp only [List.length_cons] at h
    have ih := val_nest l (d + 1) (by omega)
    have hn : nameOk [97] = true := by decide
    simp [nest, valL, valN, ih, hn]
    omega
  | false :: l, d, h => by
    simp only [List.length_cons] at h
    have ih := val_nest l (d + 1) (by omega)
    have hn : nameOk [98] = true := by decide
    simp [nest, valL, valN, ih, hn]
    omega

theorem depth_ok {l : List Bool} (h : l.length ≤ 8) : parse (tags l ++ ([120] ++ ends l.length)) = .ok (nest l) ∧ Tpl.print (nest l) = some (tags l ++ ([120] ++ ends l.length)) := by
  have hv := val_nest l 0 (by omega)
  have hf := form_nest l
  have hl : (formL (nest l)).length ≤ 1000 := by
    have := tags_len l
    rw [hf, List.length_append, List.length_append, ends_len]
    simp; omega
  refine ⟨by rw [← hf]; exact parse_form hv hl, ?_⟩
  unfold Tpl.print
  rw [hv, decide_eq_true hl, hf]
  rfl

/-- The tokens of the tags. -/
def tagT (b : Bool) (o : Nat) : List Tk := if b then [⟨6, [123], o⟩, ⟨2, wFor, o + 1⟩, ⟨2, [97], o + 5⟩, ⟨7, [125], o + 6⟩] else [⟨6, [123], o⟩, ⟨2, wIf, o + 1⟩, ⟨2, [98], o + 4⟩, ⟨7, [125], o + 5⟩]
def tagsT : List Bool → Nat → List Tk
  | [], _ => []
  | b :: l, o => tagT b o ++ tagsT l (o + (tagB b).length)

theorem lex_tagB (b : Bool) (r : Bs) (o : Nat) : lexS (tagB b ++ r) o none = tagT b o ++ lexS r (o + (tagB b).length) none := by
  cases b
  · show lexS (123 :: (wIf ++ (32 :: ([98] ++ (125 :: r))))) o none = _
    rw [lexS_opn o (opn_name wIf_ok _), lex_name wIf_ok _ rfl, lex_sp, lex_name (by decide) _ rfl, lex_close]
    rfl
  · show lexS (123 :: (wFor ++ (32 :: ([97] ++ (125 :: r))))) o none = _
    rw [lexS_opn o (opn_name wFor_ok _), lex_name wFor_ok _ rfl, lex_sp, lex_name (by decide) _ rfl, lex_close]
    rfl
theorem lex_tags : ∀ (l : List Bool) (r : Bs) (o : Nat), lexS (tags l ++ r) o none = tagsT l o ++ lexS r (o + (tags l).length) none
  | [], r, o => rfl
  | b :: l, r, o => by
    simp only [tags, List.flatMap_cons, tagsT, List.append_assoc]
    rw [lex_tagB]
    have := lex_tags l r (o + (tagB b).length)
    simp only [tags] at this
    rw [this, List.length_append, Nat.add_assoc]
theorem tagsT_ne : ∀ (l : List Bool) (o : Nat), ∀ t ∈ tagsT l o, t.kind ≠ 0
  | [], o => by simp [tagsT]
  | b :: l, o => by
    have := tagsT_ne l (o + (tagB b).length)
    simp only [tagsT, List.forall_mem_append]
    refine ⟨?_, this⟩
    cases b <;> simp [tagT]
theorem tagsT_len : ∀ (l : List Bool) (o : Nat), (tagsT l o).length = 4 * l.length
  | [], o => rfl
  | b :: l, o => by
    rw [tagsT, List.length_append, tagsT_len l]
    cases b <;> simp [tagT] <;> omega

theorem listS_deepT (size : Nat) : ∀ (l : List Bool) (d o : Nat) (us : List Tk) (f : Nat) (ws : List Bs) (acc : List Nd), d ≤ 8 → 8 < d + l.length → 2 * l.length ≤ f → listS size (f + 1) d ws (tagsT l o ++ us) acc = .error (o + (tags (l.take (8 - d))).length)
  | [], d, o, us, f, ws, acc, hd, hl, hf => by simp at hl; omega
  | b :: l, d, o, us, f, ws, acc, hd, hl, hf => by
    simp only [List.length_cons] at hl hf
    by_cases h8 : d = 8
    · subst h8
      cases b
      · exact listS_deep (by rfl) (by rfl) (.inr rfl) rfl
      · exact listS_deep (by rfl) (by rfl) (.inl rfl) rfl
    · obtain ⟨f, rfl⟩ : ∃ g, f = g + 2 := ⟨f - 2, by omega⟩
      have e8 : 8 - d = (8 - (d + 1)) + 1 := by omega
      rw [e8, List.take_succ_cons]
      simp only [tags, List.flatMap_cons, List.length_append]
      cases b
      · have ih := fun ws => listS_deepT size l (d + 1) (o + (tagB false).length) us f ws [] (by omega) (by omega) (by omega)
        simp only [tags] at ih
        simp only [tagsT, tagT, if_neg Bool.false_ne_true, List.cons_append, List.nil_append]
        rw [listS_if rfl rfl rfl h8, condS_head rfl rfl, ih, err_bind, err_bind, Nat.add_assoc]
      · have ih := fun ws => listS_deepT size l (d + 1) (o + (tagB true).length) us f ws [] (by omega) (by omega) (by omega)
        simp only [tags] at ih
        simp only [tagsT, tagT, if_true, List.cons_append, List.nil_append]
        have := loopS_args (size := size) (f := f + 1) (d := d + 1) (n := ⟨2, [97], o + 5⟩) (ta := []) (tc := []) (us := tagsT l (o + (tagB true).length) ++ us) (c1 := ⟨7, [125], o + 6⟩) rfl .no .no rfl rfl rfl
        simp only [List.nil_append] at this
        rw [listS_for rfl rfl rfl h8, this, ih, err_bind, err_bind, Nat.add_assoc]

theorem depth_bad {l : List Bool} (h : 8 < l.length) {r : Bs} (hr : lexOk r = true) (hl : (tags l ++ r).length ≤ 1000) : parse (tags l ++ r) = .error ((tags (l.take 8)).length, 100) := by
  have hx := lex_tags l r 0
  have hn : ∀ t ∈ lexS (tags l ++ r) 0 none, t.kind ≠ 0 := by
    rw [hx, List.forall_mem_append]
    exact ⟨tagsT_ne l 0, lexOk_at hr _⟩
  refine parse_err hl hn ?_
  have hlen := tagsT_len l 0
  have := listS_deepT (tags l ++ r).length l 0 0 (lexS r (0 + (tags l).length) none) (3 * (lexS (tags l ++ r) 0 none).length + 2) [] [] (by omega) (by omega) (by rw [hx, List.length_append, hlen]; omega)
  rw [← hx] at this
  simpa using this
end Tpl
