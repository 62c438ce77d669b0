import Derived.Test.YtpgniljgaknlpaaGreatDoorTh1
/-
  The theory of the parser, in plain Lean: a grammar of the tokens, and how the parser runs over it.
-/
namespace Tpl

abbrev KT := Nat × Bs
def kt (t : Tk) : KT := (t.kind, t.text)

inductive Flt : List KT → List Bs → Prop
  | nil : Flt [] []
  | cons {p x k f} : Flt k f → Flt ((5, p) :: (2, x) :: k) (x :: f)
inductive ArgK : List KT → Bs → Prop
  | no : ArgK [] []
  | yes (a) : ArgK [(4, a)] a
inductive CntK : List KT → Int → Prop
  | no : CntK [] 0
  | yes (w) : CntK [(3, w)] (num w)

/-- Tokens that are a list of nodes. -/
inductive PNs : Nat → List KT → List Nd → Prop
  | nil {d} : PNs d [] []
  | text {d t k l} : PNs d k l → PNs d ((1, t) :: k) (.mk 1 t [] [] 0 [] [] [] :: l)
  | field {d o n kf c f k l} : ¬ (n = wElse ∨ n = wEnd) → ¬ (n = wFor ∨ n = wIf) → ¬ n = wInclude → Flt kf f → PNs d k l → PNs d ((6, o) :: (2, n) :: (kf ++ (7, c) :: k)) (.mk 2 [] n [] 0 f [] [] :: l)
  | incl {d o m c k l} : PNs d k l → PNs d ((6, o) :: (2, wInclude) :: (2, m) :: (7, c) :: k) (.mk 5 [] m [] 0 [] [] [] :: l)
  | loop {d o n ka a kc c c1 k0 ks o2 c2 k l} : d < 8 → ArgK ka a → CntK kc c → PNs (d + 1) k0 ks → PNs d k l →
      PNs d ((6, o) :: (2, wFor) :: (2, n) :: (ka ++ (kc ++ (7, c1) :: (k0 ++ (6, o2) :: (2, wEnd) :: (7, c2) :: k)))) (.mk 3 [] n a c [] ks [] :: l)
  | cond {d o n c1 k0 ks o2 c2 k l} : d < 8 → PNs (d + 1) k0 ks → PNs d k l →
      PNs d ((6, o) :: (2, wIf) :: (2, n) :: (7, c1) :: (k0 ++ (6, o2) :: (2, wEnd) :: (7, c2) :: k)) (.mk 4 [] n [] 0 [] ks [] :: l)
  | conde {d o n c1 k0 ks o2 c2 k1 es o3 c3 k l} : d < 8 → PNs (d + 1) k0 ks → PNs (d + 1) k1 es → PNs d k l →
      PNs d ((6, o) :: (2, wIf) :: (2, n) :: (7, c1) :: (k0 ++ (6, o2) :: (2, wElse) :: (7, c2) :: (k1 ++ (6, o3) :: (2, wEnd) :: (7, c3) :: k))) (.mk 4 [] n [] 0 [] ks es :: l)

theorem Flt.len {k : List KT} {f : List Bs} (h : Flt k f) : k.length = 2 * f.length := by
  induction h with
  | nil => rfl
  | cons _ ih => simp only [List.length_cons]; omega
theorem ArgK.len {k : List KT} {a : Bs} (h : ArgK k a) : k.length ≤ 1 := by cases h <;> simp
theorem CntK.len {k : List KT} {a : Int} (h : CntK k a) : k.length ≤ 1 := by cases h <;> simp
theorem PNs.len {d : Nat} {k : List KT} {l : List Nd} (h : PNs d k l) : l.length ≤ k.length := by
  induction h <;> simp only [List.length_cons, List.length_nil, List.length_append] <;> omega

theorem PNs.app {d : Nat} {k1 k2 : List KT} {l1 l2 : List Nd} (h : PNs d k1 l1) (h2 : PNs d k2 l2) : PNs d (k1 ++ k2) (l1 ++ l2) := by
  induction h with
  | nil => exact h2
  | text _ ih => exact .text (ih h2)
  | field a b c e _ ih => simp only [List.cons_append, List.append_assoc]; exact .field a b c e (ih h2)
  | incl _ ih => exact .incl (ih h2)
  | loop a b c e _ _ ih => simp only [List.cons_append, List.append_assoc]; exact .loop a b c e (ih h2)
  | cond a b _ _ ih => simp only [List.cons_append, List.append_assoc]; exact .cond a b (ih h2)
  | conde a b c _ _ _ ih => simp only [List.cons_append, List.append_assoc]; exact .conde a b c (ih h2)

theorem app_snoc {α : Type} {A B k : List α} {y : α} (h : A ++ B = k ++ [y]) (hB : B ≠ []) : ∃ B', B = B' ++ [y] ∧ k = A ++ B' := by
  obtain ⟨B', z, rfl⟩ := (List.eq_nil_or_concat B).resolve_left hB
  simp only [List.concat_eq_append] at h ⊢
  rw [← List.append_assoc] at h
  obtain ⟨h1, h2⟩ := List.append_inj' h rfl
  simp only [List.cons.injEq, and_true] at h2
  exact ⟨B', by rw [h2], h1.symm⟩

/-- A text at the end. -/
theorem PNs.snoc {d : Nat} {k0 : List KT} {l : List Nd} (h : PNs d k0 l) : ∀ {k : List KT} {x : Bs}, k0 = k ++ [(1, x)] → ∃ l', l = l' ++ [.mk 1 x [] [] 0 [] [] []] ∧ PNs d k l' := by
  induction h with
  | nil => intro k x e; simp at e
  | @text d t k' l' hk ih =>
    intro k x e
    by_cases hn : k' = []
    · subst hn
      cases hk
      cases k with
      | nil =>
        simp only [List.nil_append, List.cons.injEq, Prod.mk.injEq, true_and, and_true] at e
        subst e
        exact ⟨[], rfl, .nil⟩
      | cons a b => simp at e
    · obtain ⟨B', e1, rfl⟩ := app_snoc (A := [(1, t)]) (by simpa using e) hn
      obtain ⟨l2, rfl, hp⟩ := ih e1
      exact ⟨_ :: l2, rfl, .text hp⟩
  | @field d o n kf c f k' l' a b c' e' hk ih =>
    intro k x e
    by_cases hn : k' = []
    · subst hn
      have := congrArg List.getLast? e
      simp [List.getLast?_cons, List.getLast?_append] at this
    · obtain ⟨B', e1, rfl⟩ := app_snoc (A := (6, o) :: (2, n) :: (kf ++ [(7, c)])) (by simpa using e) hn
      obtain ⟨l2, rfl, hp⟩ := ih e1
      exact ⟨_ :: l2, rfl, by simpa using PNs.field (o := o) (c := c) a b c' e' hp⟩
  | @incl d o m c k' l' hk ih =>
    intro k x e
    by_cases hn : k' = []
    · subst hn
      have := congrArg List.getLast? e
      simp [List.getLast?_cons, List.getLast?_append] at this
    · obtain ⟨B', e1, rfl⟩ := app_snoc (A := [(6, o), (2, wInclude), (2, m), (7, c)]) (by simpa using e) hn
      obtain ⟨l2, rfl, hp⟩ := ih e1
      exact ⟨_ :: l2, rfl, by simpa using PNs.incl (o := o) (c := c) (m := m) hp⟩
  | @loop d o n ka a kc c c1 k0 ks o2 c2 k' l' h1 h2 h3 h4 hk _ ih =>
    intro k x e
    by_cases hn : k' = []
    · subst hn
      have := congrArg List.getLast? e
      simp [List.getLast?_cons, List.getLast?_append] at this
    · obtain ⟨B', e1, rfl⟩ := app_snoc (A := (6, o) :: (2, wFor) :: (2, n) :: (ka ++ (kc ++ (7, c1) :: (k0 ++ [(6, o2), (2, wEnd), (7, c2)])))) (by simpa using e) hn
      obtain ⟨l2, rfl, hp⟩ := ih e1
      exact ⟨_ :: l2, rfl, by simpa using PNs.loop (o := o) (c1 := c1) (o2 := o2) (c2 := c2) (n := n) h1 h2 h3 h4 hp⟩
  | @cond d o n c1 k0 ks o2 c2 k' l' h1 h2 hk _ ih =>
    intro k x e
    by_cases hn : k' = []
    · subst hn
      have := congrArg List.getLast? e
      simp [List.getLast?_cons, List.getLast?_append] at this
    · obtain ⟨B', e1, rfl⟩ := app_snoc (A := (6, o) :: (2, wIf) :: (2, n) :: (7, c1) :: (k0 ++ [(6, o2), (2, wEnd), (7, c2)])) (by simpa using e) hn
      obtain ⟨l2, rfl, hp⟩ := ih e1
      exact ⟨_ :: l2, rfl, by simpa using PNs.cond (o := o) (c1 := c1) (o2 := o2) (c2 := c2) (n := n) h1 h2 hp⟩
  | @conde d o n c1 k0 ks o2 c2 k1 es o3 c3 k' l' h1 h2 h3 hk _ _ ih =>
    intro k x e
    by_cases hn : k' = []
    · subst hn
      have := congrArg List.getLast? e
      simp [List.getLast?_cons, List.getLast?_append] at this
    · obtain ⟨B', e1, rfl⟩ := app_snoc (A := (6, o) :: (2, wIf) :: (2, n) :: (7, c1) :: (k0 ++ (6, o2) :: (2, wElse) :: (7, c2) :: (k1 ++ [(6, o3), (2, wEnd), (7, c3)]))) (by simpa using e) hn
      obtain ⟨l2, rfl, hp⟩ := ih e1
      exact ⟨_ :: l2, rfl, by simpa using PNs.conde (o := o) (c1 := c1) (o2 := o2) (c2 := c2) (o3 := o3) (c3 := c3) (n := n) h1 h2 h3 hp⟩

/-- A text at the head. -/
theorem PNs.head {d : Nat} {k : List KT} {x : Bs} {l : List Nd} (h : PNs d ((1, x) :: k) l) : ∃ l', l = .mk 1 x [] [] 0 [] [] [] :: l' ∧ PNs d k l' := by
  cases h with
  | text h => exact ⟨_, rfl, h⟩

/-! ### The parser's steps -/
variable {size f d : Nat} {ws : List Bs} {acc : List Nd}

theorem need_ok {t : Tk} {r : List Tk} {k : Nat} (h : t.kind = k) : need size k (t :: r) = .ok (t, r) := by rw [need, if_pos h]

theorem ok_bind {α β : Type} (a : α) (g : α → Except Nat β) : ((Except.ok a : Except Nat α) >>= g) = g a := rfl
theorem err_bind {α β : Type} (a : Nat) (g : α → Except Nat β) : ((Except.error a : Except Nat α) >>= g) = .error a := rfl
theorem bind_ok {α β : Type} {x : Except Nat α} {g : α → Except Nat β} {b : β} (h : (x >>= g) = .ok b) : ∃ a, x = .ok a ∧ g a = .ok b := by
  cases x with
  | error e => rw [err_bind] at h; simp at h
  | ok a => exact ⟨a, rfl, h⟩

theorem listS_text {t : Tk} {r : List Tk} (h : t.kind = 1) : listS size (f + 1) d ws (t :: r) acc = listS size f d ws r (acc ++ [.mk 1 t.text [] [] 0 [] [] []]) := by
  rw [listS]; simp only [h, if_true]

/-- What stands behind '{name'. -/
def tagS (size f d : Nat) (ws : List Bs) (o n : Tk) (r2 : List Tk) (acc : List Nd) : Except Nat (List Nd × Bs × List Tk) :=
  if n.text = wElse ∨ n.text = wEnd then
    if n.text ∈ ws then do
      let (_, r3) ← need size 7 r2
      .ok (acc, n.text, r3)
    else .error n.off
  else if n.text = wFor ∨ n.text = wIf then
    if d = 8 then .error o.off
    else do
      let (nd, r3) ← if n.text = wFor then loopS size f (d + 1) r2 else condS size f (d + 1) r2
      listS size f d ws r3 (acc ++ [nd])
  else if n.text = wInclude then do
    let (m, r3) ← need size 2 r2
    let (_, r4) ← need size 7 r3
    listS size f d ws r4 (acc ++ [.mk 5 [] m.text [] 0 [] [] []])
  else do
    let (fl, r3) ← filtersS size f r2 []
    let (_, r4) ← need size 7 r3
    listS size f d ws r4 (acc ++ [.mk 2 [] n.text [] 0 fl [] []])

theorem listS_tag {o n : Tk} {r2 : List Tk} (h6 : o.kind = 6) (h2 : n.kind = 2) : listS size (f + 1) d ws (o :: n :: r2) acc = tagS size f d ws o n r2 acc := by
  rw [listS]
  simp only
  rw [if_neg (by omega), need_ok h6, ok_bind]
  simp only
  rw [need_ok h2, ok_bind]
  rfl

theorem wElse_ne : wElse ≠ wFor ∧ wElse ≠ wIf ∧ wElse ≠ wEnd ∧ wElse ≠ wInclude := by decide
theorem wEnd_ne : wEnd ≠ wFor ∧ wEnd ≠ wIf ∧ wEnd ≠ wElse ∧ wEnd ≠ wInclude := by decide
theorem wFor_ne : ¬ (wFor = wElse ∨ wFor = wEnd) := by decide
theorem wIf_ne : ¬ (wIf = wElse ∨ wIf = wEnd) := by decide
theorem wIf_ne' : ¬ wIf = wFor := by decide
theorem wInc_ne : ¬ (wInclude = wElse ∨ wInclude = wEnd) := by decide
theorem wInc_ne' : ¬ (wInclude = wFor ∨ wInclude = wIf) := by decide

theorem listS_word {o n c : Tk} {r : List Tk} (h6 : o.kind = 6) (h2 : n.kind = 2) (h7 : c.kind = 7) (hw : n.text = wElse ∨ n.text = wEnd) (hm : n.text ∈ ws) : listS size (f + 1) d ws (o :: n :: c :: r) acc = .ok (acc, n.text, r) := by
  rw [listS_tag h6 h2, tagS, if_pos hw, if_pos hm, need_ok h7]
  rfl
theorem listS_for {o n : Tk} {r : List Tk} (h6 : o.kind = 6) (h2 : n.kind = 2) (hn : n.text = wFor) (hd : ¬ d = 8) : listS size (f + 1) d ws (o :: n :: r) acc = loopS size f (d + 1) r >>= fun p => listS size f d ws p.2 (acc ++ [p.1]) := by
  rw [listS_tag h6 h2, tagS, if_neg (by rw [hn]; exact wFor_ne), if_pos (.inl hn), if_neg hd, if_pos hn]
theorem listS_if {o n : Tk} {r : List Tk} (h6 : o.kind = 6) (h2 : n.kind = 2) (hn : n.text = wIf) (hd : ¬ d = 8) : listS size (f + 1) d ws (o :: n :: r) acc = condS size f (d + 1) r >>= fun p => listS size f d ws p.2 (acc ++ [p.1]) := by
  rw [listS_tag h6 h2, tagS, if_neg (by rw [hn]; exact wIf_ne), if_pos (.inr hn), if_neg hd, if_neg (by rw [hn]; exact wIf_ne')]
theorem listS_deep {o n : Tk} {r : List Tk} (h6 : o.kind = 6) (h2 : n.kind = 2) (hn : n.text = wFor ∨ n.text = wIf) (hd : d = 8) : listS size (f + 1) d ws (o :: n :: r) acc = .error o.off := by
  rw [listS_tag h6 h2, tagS, if_neg (by rcases hn with hn | hn <;> rw [hn]; exact wFor_ne; exact wIf_ne), if_pos hn, if_pos hd]
theorem listS_incl {o n m c : Tk} {r : List Tk} (h6 : o.kind = 6) (h2 : n.kind = 2) (hn : n.text = wInclude) (hm : m.kind = 2) (hc : c.kind = 7) : listS size (f + 1) d ws (o :: n :: m :: c :: r) acc = listS size f d ws r (acc ++ [.mk 5 [] m.text [] 0 [] [] []]) := by
  rw [listS_tag h6 h2, tagS, if_neg (by rw [hn]; exact wInc_ne), if_neg (by rw [hn]; exact wInc_ne'), if_pos hn, need_ok hm, ok_bind]
  simp only
  rw [need_ok hc, ok_bind]

theorem filtersS_Flt {k : List KT} {fl : List Bs} (h : Flt k fl) : ∀ {ts us : List Tk} {c : Tk} {f : Nat} {a : List Bs}, ts.map kt = k → c.kind = 7 → fl.length + 1 ≤ f → filtersS size f (ts ++ c :: us) a = .ok (a ++ fl, c :: us) := by
  induction h with
  | nil =>
    intro ts us c f a h hc hf
    obtain rfl := List.map_eq_nil_iff.1 h
    obtain ⟨f, rfl⟩ : ∃ g, f = g + 1 := ⟨f - 1, by omega⟩
    rw [List.nil_append, filtersS]
    simp only
    rw [if_neg (by omega)]
    simp
  | cons _ ih =>
    intro ts us c f a h hc hf
    obtain ⟨t, r, rfl, h1, h⟩ := List.map_eq_cons_iff.1 h
    obtain ⟨t2, r, rfl, h2, h⟩ := List.map_eq_cons_iff.1 h
    simp only [kt, Prod.mk.injEq] at h1 h2
    obtain ⟨f, rfl⟩ : ∃ g, f = g + 1 := ⟨f - 1, by omega⟩
    simp only [List.cons_append]
    rw [filtersS]
    simp only
    rw [if_pos h1.1, need_ok h2.1, ok_bind]
    simp only
    rw [ih h hc (by simp only [List.length_cons] at hf; omega), h2.2]
    simp

theorem listS_field {o n : Tk} {ts us : List Tk} {c : Tk} {k : List KT} {fl : List Bs} (h6 : o.kind = 6) (h2 : n.kind = 2) (g1 : ¬ (n.text = wElse ∨ n.text = wEnd)) (g2 : ¬ (n.text = wFor ∨ n.text = wIf)) (g3 : ¬ n.text = wInclude) (hf : Flt k fl) (hk : ts.map kt = k) (hc : c.kind = 7) (hlen : fl.length + 1 ≤ f) :
    listS size (f + 1) d ws (o :: n :: (ts ++ c :: us)) acc = listS size f d ws us (acc ++ [.mk 2 [] n.text [] 0 fl [] []]) := by
  rw [listS_tag h6 h2, tagS, if_neg g1, if_neg g2, if_neg g3, filtersS_Flt hf hk hc hlen, ok_bind]
  simp only [List.nil_append]
  rw [need_ok hc, ok_bind]

/-- What stands behind '{for name'. -/
theorem loopS_args {n : Tk} {ta tc us : List Tk} {c1 : Tk} {ka kc : List KT} {a : Bs} {c : Int} (h2 : n.kind = 2) (ha : ArgK ka a) (hc : CntK kc c) (hka : ta.map kt = ka) (hkc : tc.map kt = kc) (h7 : c1.kind = 7) :
    loopS size (f + 1) d (n :: (ta ++ (tc ++ c1 :: us))) = listS size f d [wEnd] us [] >>= fun p => .ok (.mk 3 [] n.text a c [] p.1 [], p.2.2) := by
  rw [loopS, need_ok h2, ok_bind]
  cases ha with
  | no =>
    obtain rfl := List.map_eq_nil_iff.1 hka
    cases hc with
    | no =>
      obtain rfl := List.map_eq_nil_iff.1 hkc
      simp only [List.nil_append, h7]
      rw [if_neg (by decide), ok_bind]
      simp only [h7]
      rw [if_neg (by decide), ok_bind]
      simp only
      rw [need_ok h7, ok_bind]
    | yes w =>
      obtain ⟨t, r, rfl, h1, h⟩ := List.map_eq_cons_iff.1 hkc
      obtain rfl := List.map_eq_nil_iff.1 h
      simp only [kt, Prod.mk.injEq] at h1
      simp only [List.nil_append, List.cons_append, h1.1]
      rw [if_neg (by decide), ok_bind]
      simp only [h1.1]
      rw [if_pos trivial, ok_bind]
      simp only
      rw [need_ok h7, ok_bind, h1.2]
  | yes w =>
    obtain ⟨t, r, rfl, h1, h⟩ := List.map_eq_cons_iff.1 hka
    obtain rfl := List.map_eq_nil_iff.1 h
    simp only [kt, Prod.mk.injEq] at h1
    simp only [List.nil_append, List.cons_append, h1.1]
    rw [if_pos trivial, ok_bind, h1.2]
    cases hc with
    | no =>
      obtain rfl := List.map_eq_nil_iff.1 hkc
      simp only [List.nil_append, h7]
      rw [if_neg (by decide), ok_bind]
      simp only
      rw [need_ok h7, ok_bind]
    | yes w =>
      obtain ⟨t, r, rfl, h1, h⟩ := List.map_eq_cons_iff.1 hkc
      obtain rfl := List.map_eq_nil_iff.1 h
      simp only [kt, Prod.mk.injEq] at h1
      simp only [List.nil_append, List.cons_append, h1.1]
      rw [if_pos trivial, ok_bind]
      simp only
      rw [need_ok h7, ok_bind, h1.2]

theorem condS_head {n : Tk} {us : List Tk} {c1 : Tk} (h2 : n.kind = 2) (h7 : c1.kind = 7) :
    condS size (f + 1) d (n :: c1 :: us) = listS size f d [wElse, wEnd] us [] >>= fun p => if p.2.1 = wElse then listS size f d [wEnd] p.2.2 [] >>= fun q => .ok (.mk 4 [] n.text [] 0 [] p.1 q.1, q.2.2) else .ok (.mk 4 [] n.text [] 0 [] p.1 [], p.2.2) := by
  rw [condS, need_ok h2, ok_bind]
  simp only
  rw [need_ok h7, ok_bind]

theorem map_app {ts : List Tk} {a b : List KT} (h : ts.map kt = a ++ b) : ∃ t1 t2, ts = t1 ++ t2 ∧ t1.map kt = a ∧ t2.map kt = b := List.map_eq_append_iff.1 h
theorem map_cons {ts : List Tk} {k : Nat} {t : Bs} {b : List KT} (h : ts.map kt = (k, t) :: b) : ∃ x r, ts = x :: r ∧ x.kind = k ∧ x.text = t ∧ r.map kt = b := by
  obtain ⟨x, r, e, h1, h2⟩ := List.map_eq_cons_iff.1 h
  simp only [kt, Prod.mk.injEq] at h1
  exact ⟨x, r, e, h1.1, h1.2, h2⟩

/-- The parser runs over the tokens of a list of nodes. -/
theorem listS_PNs {d : Nat} {k : List KT} {l : List Nd} (h : PNs d k l) : ∀ (ts us : List Tk), ts.map kt = k → ∀ (f : Nat) (ws : List Bs) (acc : List Nd), 2 * ts.length ≤ f + l.length → listS size (f + l.length) d ws (ts ++ us) acc = listS size f d ws us (acc ++ l) := by
  induction h with
  | nil =>
    intro ts us h f ws acc hf
    obtain rfl := List.map_eq_nil_iff.1 h
    simp
  | @text d t k' l' hk ih =>
    intro ts us h f ws acc hf
    obtain ⟨x, r, rfl, e1, e2, h⟩ := map_cons h
    simp only [List.length_cons] at hf
    rw [List.length_cons, ← Nat.add_assoc, List.cons_append, listS_text e1, ih r us h f ws _ (by omega), e2]
    simp
  | @field d o n kf c fl k' l' a b c' e' hk ih =>
    intro ts us h f ws acc hf
    obtain ⟨to, r, rfl, eo, -, h⟩ := map_cons h
    obtain ⟨tn, r, rfl, en, en2, h⟩ := map_cons h
    obtain ⟨tf, r, rfl, hf1, h⟩ := map_app h
    obtain ⟨tc, r, rfl, ec, -, h⟩ := map_cons h
    have hl := e'.len
    rw [← hf1, List.length_map] at hl
    simp only [List.length_cons, List.length_append] at hf
    simp only [List.cons_append, List.append_assoc]
    rw [List.length_cons, ← Nat.add_assoc, listS_field eo en (by rw [en2]; exact a) (by rw [en2]; exact b) (by rw [en2]; exact c') e' hf1 ec (by omega), ih r us h f ws _ (by omega), en2]
    simp
  | @incl d o m c k' l' hk ih =>
    intro ts us h f ws acc hf
    obtain ⟨to, r, rfl, eo, -, h⟩ := map_cons h
    obtain ⟨tn, r, rfl, en, en2, h⟩ := map_cons h
    obtain ⟨tm, r, rfl, em, em2, h⟩ := map_cons h
    obtain ⟨tc, r, rfl, ec, -, h⟩ := map_cons h
    simp only [List.length_cons] at hf
    simp only [List.cons_append]
    rw [List.length_cons, ← Nat.add_assoc, listS_incl eo en en2 em ec, ih r us h f ws _ (by omega), em2]
    simp
  | @loop d o n ka a kc c c1 k0 ks o2 c2 k' l' h1 h2 h3 h4 h5 ih1 ih =>
    intro ts us h f ws acc hf
    obtain ⟨to, r, rfl, eo, -, h⟩ := map_cons h
    obtain ⟨tn, r, rfl, en, en2, h⟩ := map_cons h
    obtain ⟨tm, r, rfl, em, em2, h⟩ := map_cons h
    obtain ⟨ta, r, rfl, hta, h⟩ := map_app h
    obtain ⟨tc, r, rfl, htc, h⟩ := map_app h
    obtain ⟨tc1, r, rfl, ec1, -, h⟩ := map_cons h
    obtain ⟨t0, r, rfl, ht0, h⟩ := map_app h
    obtain ⟨to2, r, rfl, eo2, -, h⟩ := map_cons h
    obtain ⟨tw, r, rfl, ew, ew2, h⟩ := map_cons h
    obtain ⟨tc2, r, rfl, ec2, -, h⟩ := map_cons h
    have hl0 := h4.len
    rw [← ht0, List.length_map] at hl0
    simp only [List.length_cons, List.length_append] at hf
    simp only [List.cons_append, List.append_assoc]
    obtain ⟨g, hg⟩ : ∃ g, f + l'.length = g + 1 := ⟨f + l'.length - 1, by omega⟩
    obtain ⟨g', hg'⟩ : ∃ g', g = (g' + 1) + ks.length := ⟨g - ks.length - 1, by omega⟩
    rw [List.length_cons, ← Nat.add_assoc, listS_for eo en en2 (by omega)]
    have e : loopS size (f + l'.length) (d + 1) (tm :: (ta ++ (tc ++ tc1 :: (t0 ++ to2 :: tw :: tc2 :: (r ++ us))))) = .ok (.mk 3 [] n a c [] ks [], r ++ us) := by
      rw [hg, loopS_args em h2 h3 hta htc ec1, hg', ih1 t0 _ ht0 (g' + 1) [wEnd] [] (by omega), listS_word eo2 ew ec2 (by rw [ew2]; simp) (by rw [ew2]; simp), ok_bind, em2]
      simp
    rw [e, ok_bind]
    simp only
    rw [ih r us h f ws _ (by omega)]
    simp
  | @cond d o n c1 k0 ks o2 c2 k' l' h1 h4 h5 ih1 ih =>
    intro ts us h f ws acc hf
    obtain ⟨to, r, rfl, eo, -, h⟩ := map_cons h
    obtain ⟨tn, r, rfl, en, en2, h⟩ := map_cons h
    obtain ⟨tm, r, rfl, em, em2, h⟩ := map_cons h
    obtain ⟨tc1, r, rfl, ec1, -, h⟩ := map_cons h
    obtain ⟨t0, r, rfl, ht0, h⟩ := map_app h
    obtain ⟨to2, r, rfl, eo2, -, h⟩ := map_cons h
    obtain ⟨tw, r, rfl, ew, ew2, h⟩ := map_cons h
    obtain ⟨tc2, r, rfl, ec2, -, h⟩ := map_cons h
    have hl0 := h4.len
    rw [← ht0, List.length_map] at hl0
    simp only [List.length_cons, List.length_append] at hf
    simp only [List.cons_append, List.append_assoc]
    obtain ⟨g, hg⟩ : ∃ g, f + l'.length = g + 1 := ⟨f + l'.length - 1, by omega⟩
    obtain ⟨g', hg'⟩ : ∃ g', g = (g' + 1) + ks.length := ⟨g - ks.length - 1, by omega⟩
    rw [List.length_cons, ← Nat.add_assoc, listS_if eo en en2 (by omega)]
    have e : condS size (f + l'.length) (d + 1) (tm :: tc1 :: (t0 ++ to2 :: tw :: tc2 :: (r ++ us))) = .ok (.mk 4 [] n [] 0 [] ks [], r ++ us) := by
      rw [hg, condS_head em ec1, hg', ih1 t0 _ ht0 (g' + 1) _ [] (by omega), listS_word eo2 ew ec2 (by rw [ew2]; simp) (by rw [ew2]; simp), ok_bind, em2]
      simp only [List.nil_append]
      rw [if_neg (by rw [ew2]; decide)]
    rw [e, ok_bind]
    simp only
    rw [ih r us h f ws _ (by omega)]
    simp
  | @conde d o n c1 k0 ks o2 c2 k1 es o3 c3 k' l' h1 h4 h4' h5 ih1 ih2 ih =>
    intro ts us h f ws acc hf
    obtain ⟨to, r, rfl, eo, -, h⟩ := map_cons h
    obtain ⟨tn, r, rfl, en, en2, h⟩ := map_cons h
    obtain ⟨tm, r, rfl, em, em2, h⟩ := map_cons h
    obtain ⟨tc1, r, rfl, ec1, -, h⟩ := map_cons h
    obtain ⟨t0, r, rfl, ht0, h⟩ := map_app h
    obtain ⟨to2, r, rfl, eo2, -, h⟩ := map_cons h
    obtain ⟨tw, r, rfl, ew, ew2, h⟩ := map_cons h
    obtain ⟨tc2, r, rfl, ec2, -, h⟩ := map_cons h
    obtain ⟨t1, r, rfl, ht1, h⟩ := map_app h
    obtain ⟨to3, r, rfl, eo3, -, h⟩ := map_cons h
    obtain ⟨tw3, r, rfl, ew3, ew32, h⟩ := map_cons h
    obtain ⟨tc3, r, rfl, ec3, -, h⟩ := map_cons h
    have hl0 := h4.len
    rw [← ht0, List.length_map] at hl0
    have hl1 := h4'.len
    rw [← ht1, List.length_map] at hl1
    simp only [List.length_cons, List.length_append] at hf
    simp only [List.cons_append, List.append_assoc]
    obtain ⟨g, hg⟩ : ∃ g, f + l'.length = g + 1 := ⟨f + l'.length - 1, by omega⟩
    obtain ⟨g', hg'⟩ : ∃ g', g = (g' + 1) + ks.length := ⟨g - ks.length - 1, by omega⟩
    obtain ⟨g2, hg2⟩ : ∃ g2, g = (g2 + 1) + es.length := ⟨g - es.length - 1, by omega⟩
    rw [List.length_cons, ← Nat.add_assoc, listS_if eo en en2 (by omega)]
    have e1 : listS size g (d + 1) [wElse, wEnd] (t0 ++ to2 :: tw :: tc2 :: (t1 ++ to3 :: tw3 :: tc3 :: (r ++ us))) [] = .ok (ks, wElse, t1 ++ to3 :: tw3 :: tc3 :: (r ++ us)) := by
      rw [hg', ih1 t0 _ ht0 (g' + 1) _ [] (by omega), listS_word eo2 ew ec2 (by rw [ew2]; simp) (by rw [ew2]; simp), ew2]
      simp
    have e2 : listS size g (d + 1) [wEnd] (t1 ++ to3 :: tw3 :: tc3 :: (r ++ us)) [] = .ok (es, wEnd, r ++ us) := by
      rw [hg2, ih2 t1 _ ht1 (g2 + 1) _ [] (by omega), listS_word eo3 ew3 ec3 (by rw [ew32]; simp) (by rw [ew32]; simp), ew32]
      simp
    have e : condS size (f + l'.length) (d + 1) (tm :: tc1 :: (t0 ++ to2 :: tw :: tc2 :: (t1 ++ to3 :: tw3 :: tc3 :: (r ++ us)))) = .ok (.mk 4 [] n [] 0 [] ks es, r ++ us) := by
      rw [hg, condS_head em ec1, e1, ok_bind]
      simp only
      rw [if_pos trivial, e2, ok_bind, em2]
    rw [e, ok_bind]
    simp only
    rw [ih r us h f ws _ (by omega)]
    simp
end Tpl
