import Derived.Test.YtpgniljgaknlpaaDoorTh2
/-
  The theory of the parser, in plain Lean: what is accepted, and what is not.
-/
namespace Tpl
variable {size : Nat}

theorem need_inv {k : Nat} {ts : List Tk} {t : Tk} {r : List Tk} (h : need size k ts = .ok (t, r)) : ts = t :: r ∧ t.kind = k := by
  cases ts with
  | nil => simp [need] at h
  | cons a b =>
    rw [need] at h
    split at h
    · rename_i hk
      injection h with h; injection h with h1 h2
      subst h1; subst h2
      exact ⟨rfl, hk⟩
    · simp at h

theorem filtersS_inv : ∀ (f : Nat) (ts : List Tk) (a fl : List Bs) (rest : List Tk), filtersS size f ts a = .ok (fl, rest) → ∃ t0 fl', ts = t0 ++ rest ∧ Flt (t0.map kt) fl' ∧ fl = a ++ fl'
  | 0, _, _, _, _, h => by simp [filtersS] at h
  | f + 1, [], a, fl, rest, h => by
    simp only [filtersS] at h
    injection h with h; injection h with h1 h2
    subst h1; subst h2
    exact ⟨[], [], rfl, .nil, by simp⟩
  | f + 1, t :: r, a, fl, rest, h => by
    rw [filtersS] at h
    simp only at h
    split at h
    · rename_i h5
      replace h := bind_ok h; obtain ⟨⟨n, r'⟩, hn, h⟩ := h
      obtain ⟨rfl, hk⟩ := need_inv hn
      obtain ⟨t0, fl', rfl, hf, rfl⟩ := filtersS_inv f _ _ _ _ h
      refine ⟨t :: n :: t0, n.text :: fl', rfl, ?_, by simp⟩
      have := Flt.cons (p := t.text) (x := n.text) hf
      simpa [kt, h5, hk] using this
    · injection h with h; injection h with h1 h2
      subst h1; subst h2
      exact ⟨[], [], rfl, .nil, by simp⟩

def argP (r : List Tk) : Except Nat (Bs × List Tk) := match r with
  | t :: r' => if t.kind = 4 then .ok (t.text, r') else .ok ([], t :: r')
  | [] => .ok ([], [])
def cntP (r : List Tk) : Except Nat (Int × List Tk) := match r with
  | t :: r' => if t.kind = 3 then .ok (num t.text, r') else .ok (0, t :: r')
  | [] => .ok (0, [])
theorem loopS_eq (f d : Nat) (ts : List Tk) : loopS size (f + 1) d ts = need size 2 ts >>= fun p => argP p.2 >>= fun q => cntP q.2 >>= fun u => need size 7 u.2 >>= fun v => listS size f d [wEnd] v.2 [] >>= fun k => .ok (.mk 3 [] p.1.text q.1 u.1 [] k.1 [], k.2.2) := by
  rw [loopS]
  congr 1
  funext ⟨n, r⟩
  unfold argP
  rcases r with _ | ⟨t, r'⟩
  · rfl
  · simp only
    split
    · simp only [ok_bind]
      unfold cntP
      rcases r' with _ | ⟨t2, r2⟩
      · rfl
      · simp only
        split <;> rfl
    · simp only [ok_bind]
      unfold cntP
      simp only
      split <;> rfl

theorem loopS_inv {f d : Nat} {ts : List Tk} {nd : Nd} {rest : List Tk} (h : loopS size (f + 1) d ts = .ok (nd, rest)) : ∃ n ta a tc c c1 us ks w, ts = n :: (ta ++ (tc ++ c1 :: us)) ∧ n.kind = 2 ∧ ArgK (ta.map kt) a ∧ CntK (tc.map kt) c ∧ c1.kind = 7 ∧ listS size f d [wEnd] us [] = .ok (ks, w, rest) ∧ nd = .mk 3 [] n.text a c [] ks [] := by
  rw [loopS_eq] at h
  replace h := bind_ok h; obtain ⟨⟨n, r⟩, hn, h⟩ := h
  obtain ⟨rfl, hk⟩ := need_inv hn
  simp only at h
  replace h := bind_ok h; obtain ⟨⟨a, r1⟩, ha, h⟩ := h
  replace h := bind_ok h; obtain ⟨⟨c, r2⟩, hc, h⟩ := h
  replace h := bind_ok h; obtain ⟨⟨c1, us⟩, h7, h⟩ := h
  simp only at hc h7 h
  obtain ⟨rfl, hk7⟩ := need_inv h7
  replace h := bind_ok h; obtain ⟨⟨ks, w, r3⟩, hl, h⟩ := h
  simp only at h
  injection h with h; injection h with h1 h2
  subst h2
  have hA : ∃ ta, r = ta ++ r1 ∧ ArgK (ta.map kt) a := by
    unfold argP at ha
    split at ha
    · rename_i t r'
      split at ha
      · rename_i h4
        injection ha with ha; injection ha with e1 e2
        subst e2
        refine ⟨[t], rfl, ?_⟩
        have := ArgK.yes t.text
        rw [e1] at this
        simpa [kt, h4, e1] using this
      · injection ha with ha; injection ha with e1 e2
        subst e1; subst e2
        exact ⟨[], rfl, .no⟩
    · injection ha with ha; injection ha with e1 e2
      subst e1; subst e2
      exact ⟨[], rfl, .no⟩
  have hC : ∃ tc, r1 = tc ++ c1 :: us ∧ CntK (tc.map kt) c := by
    unfold cntP at hc
    split at hc
    · rename_i t r'
      split at hc
      · rename_i h4
        injection hc with hc; injection hc with e1 e2
        subst e2
        refine ⟨[t], rfl, ?_⟩
        have := CntK.yes t.text
        rw [e1] at this
        simpa [kt, h4] using this
      · injection hc with hc; injection hc with e1 e2
        subst e1
        exact ⟨[], by simpa using e2, .no⟩
    · injection hc with hc; injection hc with e1 e2
      simp at e2
  obtain ⟨ta, rfl, hA⟩ := hA
  obtain ⟨tc, rfl, hC⟩ := hC
  exact ⟨n, ta, a, tc, c, c1, us, ks, w, rfl, hk, hA, hC, hk7, hl, h1.symm⟩

theorem condS_inv {f d : Nat} {ts : List Tk} {nd : Nd} {rest : List Tk} (h : condS size (f + 1) d ts = .ok (nd, rest)) : ∃ n c1 us ks w r1, ts = n :: c1 :: us ∧ n.kind = 2 ∧ c1.kind = 7 ∧ listS size f d [wElse, wEnd] us [] = .ok (ks, w, r1) ∧
    ((w = wElse ∧ ∃ es w2, listS size f d [wEnd] r1 [] = .ok (es, w2, rest) ∧ nd = .mk 4 [] n.text [] 0 [] ks es) ∨ (¬ w = wElse ∧ rest = r1 ∧ nd = .mk 4 [] n.text [] 0 [] ks [])) := by
  rw [condS] at h
  replace h := bind_ok h; obtain ⟨⟨n, r⟩, hn, h⟩ := h
  obtain ⟨rfl, hk⟩ := need_inv hn
  simp only at h
  replace h := bind_ok h; obtain ⟨⟨c1, us⟩, h7, h⟩ := h
  obtain ⟨rfl, hk7⟩ := need_inv h7
  simp only at h
  replace h := bind_ok h; obtain ⟨⟨ks, w, r1⟩, hl, h⟩ := h
  simp only at h
  refine ⟨n, c1, us, ks, w, r1, rfl, hk, hk7, hl, ?_⟩
  split at h
  · rename_i hw
    replace h := bind_ok h; obtain ⟨⟨es, w2, r2⟩, hl2, h⟩ := h
    simp only at h
    injection h with h; injection h with h1 h2
    subst h2
    exact .inl ⟨hw, es, w2, hl2, h1.symm⟩
  · rename_i hw
    injection h with h; injection h with h1 h2
    exact .inr ⟨hw, h2.symm, h1.symm⟩

theorem tagS_eq (f d : Nat) (ws : List Bs) (o n : Tk) (r2 : List Tk) (acc : List Nd) : tagS size f d ws o n r2 acc =
  if n.text = wElse ∨ n.text = wEnd then
    if n.text ∈ ws then need size 7 r2 >>= fun p => .ok (acc, n.text, p.2) else .error n.off
  else if n.text = wFor ∨ n.text = wIf then
    if d = 8 then .error o.off
    else (if n.text = wFor then loopS size f (d + 1) r2 else condS size f (d + 1) r2) >>= fun p => listS size f d ws p.2 (acc ++ [p.1])
  else if n.text = wInclude then need size 2 r2 >>= fun p => need size 7 p.2 >>= fun q => listS size f d ws q.2 (acc ++ [.mk 5 [] p.1.text [] 0 [] [] []])
  else filtersS size f r2 [] >>= fun p => need size 7 p.2 >>= fun q => listS size f d ws q.2 (acc ++ [.mk 2 [] n.text [] 0 p.1 [] []]) := by
  unfold tagS
  split
  · rfl
  · split
    · split
      · rfl
      · split <;> rfl
    · split <;> rfl

/-- How a list ends. -/
def EndS (ws : List Bs) (t1 rest : List Tk) (w : Bs) : Prop :=
  (ws = [] ∧ t1 = [] ∧ rest = [] ∧ w = []) ∨ (∃ o n c, t1 = o :: n :: c :: rest ∧ o.kind = 6 ∧ n.kind = 2 ∧ c.kind = 7 ∧ n.text = w ∧ w ∈ ws)

theorem EndS.one {t1 rest : List Tk} {w : Bs} (h : EndS [wEnd] t1 rest w) : ∃ o n c, t1 = o :: n :: c :: rest ∧ kt o = (6, o.text) ∧ kt n = (2, wEnd) ∧ kt c = (7, c.text) := by
  rcases h with ⟨h, _⟩ | ⟨o, n, c, h1, h2, h3, h4, h5, h6⟩
  · simp at h
  · have h6 : w = wEnd := by simpa using h6
    exact ⟨o, n, c, h1, by rw [kt, h2], by rw [kt, h3, h5, h6], by rw [kt, h4]⟩
theorem EndS.two {t1 rest : List Tk} {w : Bs} (h : EndS [wElse, wEnd] t1 rest w) : ∃ o n c, t1 = o :: n :: c :: rest ∧ kt o = (6, o.text) ∧ kt n = (2, w) ∧ kt c = (7, c.text) ∧ (w = wElse ∨ w = wEnd) := by
  rcases h with ⟨h, _⟩ | ⟨o, n, c, h1, h2, h3, h4, h5, h6⟩
  · simp at h
  · exact ⟨o, n, c, h1, by rw [kt, h2], by rw [kt, h3, h5], by rw [kt, h4], by simpa using h6⟩

/-- What the parser accepts is a list of nodes by the grammar. -/
theorem listS_inv : ∀ (f d : Nat) (ws : List Bs) (ts : List Tk) (acc l' : List Nd) (w : Bs) (rest : List Tk), d ≤ 8 → listS size f d ws ts acc = .ok (l', w, rest) → ∃ l t0 t1, l' = acc ++ l ∧ ts = t0 ++ t1 ∧ PNs d (t0.map kt) l ∧ EndS ws t1 rest w := by
  intro f
  induction f using Nat.strongRecOn with
  | _ f IH =>
  intro d ws ts acc l' w rest hd h
  match f, IH, h with
  | 0, _, h => simp [listS] at h
  | f + 1, IH, h =>
    match ts, h with
    | [], h =>
      rw [listS] at h
      split at h
      · rename_i hw
        injection h with h; injection h with h1 h; injection h with h2 h3
        exact ⟨[], [], [], by rw [h1, List.append_nil], rfl, .nil, .inl ⟨by simpa using hw, rfl, h3.symm, h2.symm⟩⟩
      · simp at h
    | t :: r, h =>
      by_cases h1 : t.kind = 1
      · rw [listS_text h1] at h
        obtain ⟨l, t0, t1, e1, e2, hp, he⟩ := IH f (by omega) d ws r _ _ _ _ hd h
        subst e1; subst e2
        refine ⟨_, t :: t0, t1, by rw [List.append_assoc], rfl, ?_, he⟩
        have := PNs.text (t := t.text) hp
        simpa [kt, h1] using this
      · have hh : ∃ n r2, r = n :: r2 ∧ t.kind = 6 ∧ n.kind = 2 := by
          rw [listS] at h
          simp only [if_neg h1] at h
          replace h := bind_ok h; obtain ⟨⟨o, r1⟩, ho, h⟩ := h
          replace h := bind_ok h; obtain ⟨⟨n, r2⟩, hn, h⟩ := h
          obtain ⟨e1, h6⟩ := need_inv ho
          injection e1 with e1 e2
          subst e1; subst e2
          obtain ⟨e1, h2⟩ := need_inv hn
          exact ⟨n, r2, e1, h6, h2⟩
        obtain ⟨n, r2, rfl, h6, h2⟩ := hh
        rw [listS_tag h6 h2, tagS_eq] at h
        have ko : kt t = (6, t.text) := by rw [kt, h6]
        have kn : kt n = (2, n.text) := by rw [kt, h2]
        split at h
        · rename_i hw
          split at h
          · rename_i hm
            replace h := bind_ok h; obtain ⟨⟨c, r3⟩, hc, h⟩ := h
            obtain ⟨rfl, h7⟩ := need_inv hc
            simp only at h
            injection h with h; injection h with e1 h; injection h with e2 e3
            subst e3
            exact ⟨[], [], _, by simp [e1], rfl, .nil, .inr ⟨t, n, c, rfl, h6, h2, h7, e2, by rw [← e2]; exact hm⟩⟩
          · simp at h
        · rename_i hw
          split at h
          · rename_i hfi
            split at h
            · simp at h
            · rename_i hd8
              replace h := bind_ok h; obtain ⟨⟨nd, r3⟩, hb, h⟩ := h
              simp only at h
              obtain ⟨l, t0, t1, rfl, rfl, hp, he⟩ := IH f (by omega) d ws r3 _ _ _ _ hd h
              split at hb
              · rename_i hfor
                match f, IH, hb with
                | 0, _, hb => simp [loopS] at hb
                | f + 1, IH, hb =>
                  obtain ⟨m, ta, a, tc, c, c1, us, ks, w', rfl, hm, hA, hC, h7, hl, rfl⟩ := loopS_inv hb
                  obtain ⟨ks', u0, u1, e1, rfl, hpk, hek⟩ := IH f (by omega) (d + 1) _ us _ _ _ _ (by omega) hl
                  obtain ⟨o2, n2, c2, rfl, k1, k2, k3⟩ := hek.one
                  rw [List.nil_append] at e1
                  subst e1
                  refine ⟨.mk 3 [] m.text a c [] ks [] :: l, t :: n :: m :: (ta ++ (tc ++ c1 :: (u0 ++ o2 :: n2 :: c2 :: t0))), t1, by simp, by simp, ?_, he⟩
                  have := PNs.loop (o := t.text) (n := m.text) (c1 := c1.text) (o2 := o2.text) (c2 := c2.text) (by omega) hA hC hpk hp
                  simpa [ko, kn, hfor, k1, k2, k3, show kt m = (2, m.text) by rw [kt, hm], show kt c1 = (7, c1.text) by rw [kt, h7]] using this
              · rename_i hfor
                have hif : n.text = wIf := hfi.resolve_left hfor
                match f, IH, hb with
                | 0, _, hb => simp [condS] at hb
                | f + 1, IH, hb =>
                  obtain ⟨m, c1, us, ks, w', r1, rfl, hm, h7, hl, hr⟩ := condS_inv hb
                  obtain ⟨ks', u0, u1, e1, rfl, hpk, hek⟩ := IH f (by omega) (d + 1) _ us _ _ _ _ (by omega) hl
                  obtain ⟨o2, n2, c2, rfl, k1, k2, k3, k4⟩ := hek.two
                  rw [List.nil_append] at e1
                  subst e1
                  have km : kt m = (2, m.text) := by rw [kt, hm]
                  have kc : kt c1 = (7, c1.text) := by rw [kt, h7]
                  rcases hr with ⟨hw', es, w2, hl2, rfl⟩ | ⟨hw', rfl, rfl⟩
                  · obtain ⟨es', v0, v1, e1, rfl, hpe, hee⟩ := IH f (by omega) (d + 1) _ r1 _ _ _ _ (by omega) hl2
                    obtain ⟨o3, n3, c3, rfl, j1, j2, j3⟩ := hee.one
                    rw [List.nil_append] at e1
                    subst e1
                    refine ⟨.mk 4 [] m.text [] 0 [] ks es :: l, t :: n :: m :: c1 :: (u0 ++ o2 :: n2 :: c2 :: (v0 ++ o3 :: n3 :: c3 :: t0)), t1, by simp, by simp, ?_, he⟩
                    have := PNs.conde (o := t.text) (n := m.text) (c1 := c1.text) (o2 := o2.text) (c2 := c2.text) (o3 := o3.text) (c3 := c3.text) (by omega) hpk hpe hp
                    simpa [ko, kn, hif, k1, k2, k3, km, kc, hw', j1, j2, j3] using this
                  · have hw2 : w' = wEnd := k4.resolve_left hw'
                    refine ⟨.mk 4 [] m.text [] 0 [] ks [] :: l, t :: n :: m :: c1 :: (u0 ++ o2 :: n2 :: c2 :: t0), t1, by simp, by simp, ?_, he⟩
                    have := PNs.cond (o := t.text) (n := m.text) (c1 := c1.text) (o2 := o2.text) (c2 := c2.text) (by omega) hpk hp
                    simpa [ko, kn, hif, k1, k2, k3, km, kc, hw2] using this
          · rename_i hfi
            split at h
            · rename_i hin
              replace h := bind_ok h; obtain ⟨⟨m, r3⟩, hm, h⟩ := h
              obtain ⟨rfl, hk2⟩ := need_inv hm
              simp only at h
              replace h := bind_ok h; obtain ⟨⟨c, r4⟩, hc, h⟩ := h
              obtain ⟨rfl, hk7⟩ := need_inv hc
              simp only at h
              obtain ⟨l, t0, t1, rfl, rfl, hp, he⟩ := IH f (by omega) d ws r4 _ _ _ _ hd h
              refine ⟨.mk 5 [] m.text [] 0 [] [] [] :: l, t :: n :: m :: c :: t0, t1, by simp, by simp, ?_, he⟩
              have := PNs.incl (o := t.text) (m := m.text) (c := c.text) hp
              simpa [ko, kn, hin, show kt m = (2, m.text) by rw [kt, hk2], show kt c = (7, c.text) by rw [kt, hk7]] using this
            · rename_i hin
              replace h := bind_ok h; obtain ⟨⟨fl, r3⟩, hf, h⟩ := h
              simp only at h
              replace h := bind_ok h; obtain ⟨⟨c, r4⟩, hc, h⟩ := h
              obtain ⟨rfl, hk7⟩ := need_inv hc
              simp only at h
              obtain ⟨tf, fl', rfl, hF, e1⟩ := filtersS_inv f _ _ _ _ hf
              rw [List.nil_append] at e1
              subst e1
              obtain ⟨l, t0, t1, rfl, rfl, hp, he⟩ := IH f (by omega) d ws r4 _ _ _ _ hd h
              refine ⟨.mk 2 [] n.text [] 0 fl [] [] :: l, t :: n :: (tf ++ c :: t0), t1, by simp, by simp, ?_, he⟩
              have := PNs.field (o := t.text) (n := n.text) (c := c.text) hw hfi hin hF hp
              simpa [ko, kn, show kt c = (7, c.text) by rw [kt, hk7]] using this

/-- No token of the kind 0. -/
theorem Flt.ne {k : List KT} {f : List Bs} (h : Flt k f) : ∀ x ∈ k, x.1 ≠ 0 := by
  induction h with
  | nil => simp
  | cons _ ih => simp only [List.forall_mem_cons]; exact ⟨by simp, by simp, ih⟩
theorem ArgK.ne {k : List KT} {f : Bs} (h : ArgK k f) : ∀ x ∈ k, x.1 ≠ 0 := by cases h <;> simp
theorem CntK.ne {k : List KT} {f : Int} (h : CntK k f) : ∀ x ∈ k, x.1 ≠ 0 := by cases h <;> simp
theorem PNs.ne {d : Nat} {k : List KT} {l : List Nd} (h : PNs d k l) : ∀ x ∈ k, x.1 ≠ 0 := by
  induction h with
  | nil => simp
  | text _ ih => simp only [List.forall_mem_cons]; exact ⟨by simp, ih⟩
  | field _ _ _ hf _ ih => simp only [List.forall_mem_cons, List.forall_mem_append]; exact ⟨by simp, by simp, hf.ne, by simp, ih⟩
  | incl _ ih => simp only [List.forall_mem_cons]; exact ⟨by simp, by simp, by simp, by simp, ih⟩
  | loop _ ha hc _ _ ih1 ih => simp only [List.forall_mem_cons, List.forall_mem_append]; exact ⟨by simp, by simp, by simp, ha.ne, hc.ne, by simp, ih1, by simp, by simp, by simp, ih⟩
  | cond _ _ _ ih1 ih => simp only [List.forall_mem_cons, List.forall_mem_append]; exact ⟨by simp, by simp, by simp, by simp, ih1, by simp, by simp, by simp, ih⟩
  | conde _ _ _ _ ih1 ih2 ih => simp only [List.forall_mem_cons, List.forall_mem_append]; exact ⟨by simp, by simp, by simp, by simp, ih1, by simp, by simp, by simp, ih2, by simp, by simp, by simp, ih⟩

theorem tokens_ok {s : Bs} (h : s.length ≤ 1000) (hn : ∀ t ∈ lexS s 0 none, t.kind ≠ 0) : tokens s = .ok (lexS s 0 none) := by
  unfold tokens
  rw [if_neg (by omega)]
  have : (scan (s.length + 1) s 0 none).find? (fun t => decide (t.kind = 0)) = none := by
    rw [List.find?_eq_none]
    intro t ht
    simp only [decide_eq_true_eq]
    exact hn t ht
  simp only [this]
  rfl
theorem tokens_inv {s : Bs} {ts : List Tk} (h : tokens s = .ok ts) : s.length ≤ 1000 ∧ ts = lexS s 0 none ∧ ∀ t ∈ ts, t.kind ≠ 0 := by
  unfold tokens at h
  split at h
  · simp at h
  · rename_i hl
    simp only at h
    split at h
    · simp at h
    · rename_i hf
      injection h with h
      subst h
      rw [List.find?_eq_none] at hf
      refine ⟨by omega, rfl, fun t ht => ?_⟩
      have := hf t ht
      simpa using this

/-- A source is accepted with these nodes. -/
theorem parse_of {s : Bs} {l : List Nd} (h : s.length ≤ 1000) (hp : PNs 0 ((lexS s 0 none).map kt) l) : parse s = .ok l := by
  have hn : ∀ t ∈ lexS s 0 none, t.kind ≠ 0 := fun t ht => hp.ne (kt t) (List.mem_map_of_mem ht)
  unfold parse
  rw [tokens_ok h hn]
  simp only
  have hl := hp.len
  rw [List.length_map] at hl
  have e := listS_PNs (size := s.length) hp (lexS s 0 none) [] rfl (3 * (lexS s 0 none).length + 3 - l.length) [] [] (by omega)
  rw [show 3 * (lexS s 0 none).length + 3 - l.length + l.length = 3 * (lexS s 0 none).length + 3 by omega, List.append_nil] at e
  rw [e]
  obtain ⟨g, hg⟩ : ∃ g, 3 * (lexS s 0 none).length + 3 - l.length = g + 1 := ⟨_, (Nat.succ_pred_eq_of_pos (by omega)).symm⟩
  rw [hg, listS]
  rfl
theorem parse_inv {s : Bs} {l : List Nd} (h : parse s = .ok l) : s.length ≤ 1000 ∧ PNs 0 ((lexS s 0 none).map kt) l := by
  unfold parse at h
  split at h
  · simp at h
  · rename_i ts ht
    obtain ⟨h1, rfl, -⟩ := tokens_inv ht
    split at h
    · simp at h
    · rename_i l2 w rest hl
      injection h with h
      subst h
      obtain ⟨l, t0, t1, e1, e2, hp, he⟩ := listS_inv _ 0 [] _ _ _ _ _ (by omega) hl
      rcases he with ⟨-, rfl, -⟩ | ⟨o, n, c, -, -, -, -, -, hm⟩
      · rw [List.append_nil] at e2
        rw [e2]
        rw [List.nil_append] at e1
        rw [e1]
        exact ⟨h1, hp⟩
      · simp at hm

/-- An error of the parser. -/
theorem parse_err {s : Bs} {o : Nat} (h : s.length ≤ 1000) (hn : ∀ t ∈ lexS s 0 none, t.kind ≠ 0) (he : listS s.length (3 * (lexS s 0 none).length + 3) 0 [] (lexS s 0 none) [] = .error o) : parse s = .error (o, 100) := by
  unfold parse
  rw [tokens_ok h hn]
  simp only
  rw [he]

/-- What would be nested too deep is not accepted. -/
theorem PNs.deeper {d0 : Nat} {k : List KT} {l : List Nd} (h : PNs d0 k l) : ∀ d, d ≤ 8 → PNs d k l ∨ ∀ (ts us : List Tk), ts.map kt = k → ∀ (f : Nat) (ws : List Bs) (acc : List Nd), 2 * ts.length ≤ f → ∃ o, listS size (f + 1) d ws (ts ++ us) acc = .error o := by
  induction h with
  | nil => intro d _; exact .inl .nil
  | @text d0 t k' l' hk ih =>
    intro d hd
    rcases ih d hd with hp | hp
    · exact .inl (.text hp)
    · right
      intro ts us h f ws acc hf
      obtain ⟨x, r, rfl, e1, e2, h⟩ := map_cons h
      simp only [List.length_cons] at hf
      obtain ⟨f, rfl⟩ : ∃ g, f = g + 1 := ⟨f - 1, by omega⟩
      rw [List.cons_append, listS_text e1]
      exact hp r us h f ws _ (by omega)
  | @field d0 o n kf c fl k' l' a b c' e' hk ih =>
    intro d hd
    rcases ih d hd with hp | hp
    · exact .inl (.field a b c' e' hp)
    · right
      intro ts us h f ws acc hf
      obtain ⟨t1, t2, rfl, h1, h2⟩ := map_app (a := (6, o) :: (2, n) :: (kf ++ [(7, c)])) (b := k') (by simpa using h)
      have hl : 3 ≤ t1.length := by rw [← List.length_map (f := kt), h1]; simp
      rw [List.length_append] at hf
      obtain ⟨f, rfl⟩ : ∃ g, f = g + 1 := ⟨f - 1, by omega⟩
      have e := listS_PNs (size := size) (PNs.field (d := d) (o := o) (c := c) a b c' e' .nil) t1 (t2 ++ us) h1 (f + 1) ws acc (by simp only [List.length_cons, List.length_nil]; omega)
      simp only [List.length_cons, List.length_nil, Nat.zero_add] at e
      rw [List.append_assoc, e]
      exact hp t2 us h2 f ws _ (by omega)
  | @incl d0 o m c k' l' hk ih =>
    intro d hd
    rcases ih d hd with hp | hp
    · exact .inl (.incl hp)
    · right
      intro ts us h f ws acc hf
      obtain ⟨t1, t2, rfl, h1, h2⟩ := map_app (a := [(6, o), (2, wInclude), (2, m), (7, c)]) (b := k') (by simpa using h)
      have hl : 3 ≤ t1.length := by rw [← List.length_map (f := kt), h1]; simp
      rw [List.length_append] at hf
      obtain ⟨f, rfl⟩ : ∃ g, f = g + 1 := ⟨f - 1, by omega⟩
      have e := listS_PNs (size := size) (PNs.incl (d := d) (o := o) (c := c) (m := m) .nil) t1 (t2 ++ us) h1 (f + 1) ws acc (by simp only [List.length_cons, List.length_nil]; omega)
      simp only [List.length_cons, List.length_nil, Nat.zero_add] at e
      rw [List.append_assoc, e]
      exact hp t2 us h2 f ws _ (by omega)
  | @loop d0 o n ka a kc c c1 k0 ks o2 c2 k' l' h1 h2 h3 h4 h5 ih1 ih =>
    intro d hd
    by_cases hd8 : d = 8
    · right
      intro ts us h f ws acc hf
      obtain ⟨to, r, rfl, eo, -, h⟩ := map_cons h
      obtain ⟨tn, r, rfl, en, en2, h⟩ := map_cons h
      exact ⟨_, listS_deep eo en (.inl en2) hd8⟩
    · rcases ih1 (d + 1) (by omega) with hq | hq
      · rcases ih d hd with hp | hp
        · exact .inl (.loop (by omega) h2 h3 hq hp)
        · right
          intro ts us h f ws acc hf
          obtain ⟨t1, t2, rfl, g1, g2⟩ := map_app (a := (6, o) :: (2, wFor) :: (2, n) :: (ka ++ (kc ++ (7, c1) :: (k0 ++ [(6, o2), (2, wEnd), (7, c2)])))) (b := k') (by simpa using h)
          have hl : 3 ≤ t1.length := by rw [← List.length_map (f := kt), g1]; simp
          rw [List.length_append] at hf
          obtain ⟨f, rfl⟩ : ∃ g, f = g + 1 := ⟨f - 1, by omega⟩
          have e := listS_PNs (size := size) (PNs.loop (d := d) (o := o) (n := n) (c1 := c1) (o2 := o2) (c2 := c2) (by omega) h2 h3 hq .nil) t1 (t2 ++ us) g1 (f + 1) ws acc (by simp only [List.length_cons, List.length_nil]; omega)
          simp only [List.length_cons, List.length_nil, Nat.zero_add] at e
          rw [List.append_assoc, e]
          exact hp t2 us g2 f ws _ (by omega)
      · right
        intro ts us h f ws acc hf
        obtain ⟨to, r, rfl, eo, -, h⟩ := map_cons h
        obtain ⟨tn, r, rfl, en, en2, h⟩ := map_cons h
        obtain ⟨tm, r, rfl, em, em2, h⟩ := map_cons h
        obtain ⟨ta, r, rfl, hta, h⟩ := map_app h
        obtain ⟨tc, r, rfl, htc, h⟩ := map_app h
        obtain ⟨tc1, r, rfl, ec1, -, h⟩ := map_cons h
        obtain ⟨t0, r, rfl, ht0, h⟩ := map_app h
        simp only [List.length_cons, List.length_append] at hf
        obtain ⟨f, rfl⟩ : ∃ g, f = g + 2 := ⟨f - 2, by omega⟩
        obtain ⟨e, he⟩ := hq t0 (r ++ us) ht0 f [wEnd] [] (by omega)
        refine ⟨e, ?_⟩
        simp only [List.cons_append, List.append_assoc]
        rw [listS_for eo en en2 hd8, loopS_args em h2 h3 hta htc ec1, he]
        rfl
  | @cond d0 o n c1 k0 ks o2 c2 k' l' h1 h4 h5 ih1 ih =>
    intro d hd
    by_cases hd8 : d = 8
    · right
      intro ts us h f ws acc hf
      obtain ⟨to, r, rfl, eo, -, h⟩ := map_cons h
      obtain ⟨tn, r, rfl, en, en2, h⟩ := map_cons h
      exact ⟨_, listS_deep eo en (.inr en2) hd8⟩
    · rcases ih1 (d + 1) (by omega) with hq | hq
      · rcases ih d hd with hp | hp
        · exact .inl (.cond (by omega) hq hp)
        · right
          intro ts us h f ws acc hf
          obtain ⟨t1, t2, rfl, g1, g2⟩ := map_app (a := (6, o) :: (2, wIf) :: (2, n) :: (7, c1) :: (k0 ++ [(6, o2), (2, wEnd), (7, c2)])) (b := k') (by simpa using h)
          have hl : 3 ≤ t1.length := by rw [← List.length_map (f := kt), g1]; simp
          rw [List.length_append] at hf
          obtain ⟨f, rfl⟩ : ∃ g, f = g + 1 := ⟨f - 1, by omega⟩
          have e := listS_PNs (size := size) (PNs.cond (d := d) (o := o) (n := n) (c1 := c1) (o2 := o2) (c2 := c2) (by omega) hq .nil) t1 (t2 ++ us) g1 (f + 1) ws acc (by simp only [List.length_cons, List.length_nil]; omega)
          simp only [List.length_cons, List.length_nil, Nat.zero_add] at e
          rw [List.append_assoc, e]
          exact hp t2 us g2 f ws _ (by omega)
      · right
        intro ts us h f ws acc hf
        obtain ⟨to, r, rfl, eo, -, h⟩ := map_cons h
        obtain ⟨tn, r, rfl, en, en2, h⟩ := map_cons h
        obtain ⟨tm, r, rfl, em, em2, h⟩ := map_cons h
        obtain ⟨tc1, r, rfl, ec1, -, h⟩ := map_cons h
        obtain ⟨t0, r, rfl, ht0, h⟩ := map_app h
        simp only [List.length_cons, List.length_append] at hf
        obtain ⟨f, rfl⟩ : ∃ g, f = g + 2 := ⟨f - 2, by omega⟩
        obtain ⟨e, he⟩ := hq t0 (r ++ us) ht0 f [wElse, wEnd] [] (by omega)
        refine ⟨e, ?_⟩
        simp only [List.cons_append, List.append_assoc]
        rw [listS_if eo en en2 hd8, condS_head em ec1, he]
        rfl
  | @conde d0 o n c1 k0 ks o2 c2 k1 es o3 c3 k' l' h1 h4 h4' h5 ih1 ih2 ih =>
    intro d hd
    by_cases hd8 : d = 8
    · right
      intro ts us h f ws acc hf
      obtain ⟨to, r, rfl, eo, -, h⟩ := map_cons h
      obtain ⟨tn, r, rfl, en, en2, h⟩ := map_cons h
      exact ⟨_, listS_deep eo en (.inr en2) hd8⟩
    · rcases ih1 (d + 1) (by omega) with hq | hq
      · rcases ih2 (d + 1) (by omega) with hq2 | hq2
        · rcases ih d hd with hp | hp
          · exact .inl (.conde (by omega) hq hq2 hp)
          · right
            intro ts us h f ws acc hf
            obtain ⟨t1, t2, rfl, g1, g2⟩ := map_app (a := (6, o) :: (2, wIf) :: (2, n) :: (7, c1) :: (k0 ++ (6, o2) :: (2, wElse) :: (7, c2) :: (k1 ++ [(6, o3), (2, wEnd), (7, c3)]))) (b := k') (by simpa using h)
            have hl : 3 ≤ t1.length := by rw [← List.length_map (f := kt), g1]; simp
            rw [List.length_append] at hf
            obtain ⟨f, rfl⟩ : ∃ g, f = g + 1 := ⟨f - 1, by omega⟩
            have e := listS_PNs (size := size) (PNs.conde (d := d) (o := o) (n := n) (c1 := c1) (o2 := o2) (c2 := c2) (o3 := o3) (c3 := c3) (by omega) hq hq2 .nil) t1 (t2 ++ us) g1 (f + 1) ws acc (by simp only [List.length_cons, List.length_nil]; omega)
            simp only [List.length_cons, List.length_nil, Nat.zero_add] at e
            rw [List.append_assoc, e]
            exact hp t2 us g2 f ws _ (by omega)
        · right
          intro ts us h f ws acc hf
          obtain ⟨to, r, rfl, eo, -, h⟩ := map_cons h
          obtain ⟨tn, r, rfl, en, en2, h⟩ := map_cons h
          obtain ⟨tm, r, rfl, em, em2, h⟩ := map_cons h
          obtain ⟨tc1, r, rfl, ec1, -, h⟩ := map_cons h
          obtain ⟨t0, r, rfl, ht0, h⟩ := map_app h
          obtain ⟨to2, r, rfl, eo2, -, h⟩ := map_cons h
          obtain ⟨tw, r, rfl, ew, ew2, h⟩ := map_cons h
          obtain ⟨tc2, r, rfl, ec2, -, h⟩ := map_cons h
          obtain ⟨t1, r, rfl, ht1, h⟩ := map_app h
          have hl0 := hq.len
          rw [← ht0, List.length_map] at hl0
          simp only [List.length_cons, List.length_append] at hf
          obtain ⟨f, rfl⟩ : ∃ g, f = g + 2 := ⟨f - 2, by omega⟩
          obtain ⟨e, he⟩ := hq2 t1 (r ++ us) ht1 f [wEnd] [] (by omega)
          refine ⟨e, ?_⟩
          simp only [List.cons_append, List.append_assoc]
          obtain ⟨g', hg'⟩ : ∃ g', f + 1 = (g' + 1) + ks.length := ⟨f - ks.length, by omega⟩
          have e1 : listS size (f + 1) (d + 1) [wElse, wEnd] (t0 ++ to2 :: tw :: tc2 :: (t1 ++ (r ++ us))) [] = .ok (ks, wElse, t1 ++ (r ++ us)) := by
            rw [hg', listS_PNs hq t0 _ ht0 (g' + 1) _ [] (by omega), listS_word eo2 ew ec2 (by rw [ew2]; simp) (by rw [ew2]; simp), ew2]
            simp
          rw [listS_if eo en en2 hd8, condS_head em ec1, e1, ok_bind]
          simp only
          rw [if_pos trivial, he]
          rfl
      · right
        intro ts us h f ws acc hf
        obtain ⟨to, r, rfl, eo, -, h⟩ := map_cons h
        obtain ⟨tn, r, rfl, en, en2, h⟩ := map_cons h
        obtain ⟨tm, r, rfl, em, em2, h⟩ := map_cons h
        obtain ⟨tc1, r, rfl, ec1, -, h⟩ := map_cons h
        obtain ⟨t0, r, rfl, ht0, h⟩ := map_app h
        simp only [List.length_cons, List.length_append] at hf
        obtain ⟨f, rfl⟩ : ∃ g, f = g + 2 := ⟨f - 2, by omega⟩
        obtain ⟨e, he⟩ := hq t0 (r ++ us) ht0 f [wElse, wEnd] [] (by omega)
        refine ⟨e, ?_⟩
        simp only [List.cons_append, List.append_assoc]
        rw [listS_if eo en en2 hd8, condS_head em ec1, he]
        rfl
end Tpl
