/-
  What the lexer and the parser compute, in plain Lean: no program in sight.
-/
namespace Tpl

abbrev Bs := List UInt8
/-- A token: its kind, its text, its offset. -/
structure Tk where
  kind : Nat
  text : Bs
  off : Nat
deriving DecidableEq

def isL (c : UInt8) : Bool := decide (97 ≤ c.toNat) && decide (c.toNat ≤ 122)
def isD (c : UInt8) : Bool := decide (48 ≤ c.toNat) && decide (c.toNat ≤ 57)
def isP (c : UInt8) : Bool := decide (32 ≤ c.toNat) && decide (c.toNat ≤ 126)
def isW (c : UInt8) : Bool := isL c || isD c || decide (c.toNat = 45)
def isA (c : UInt8) : Bool := isP c && !decide (c.toNat = 34)

/-- The run of literal text at the head: its text, the bytes that it takes, what is left, and whether it ends well. -/
def lit : Bs → Bs × Nat × Bs × Bool
  | [] => ([], 0, [], true)
  | [c] => if c.toNat = 123 then ([], 0, [c], true) else if decide (c.toNat ≠ 10) && !isP c then ([], 0, [c], false) else ([c], 1, [], true)
  | c :: d :: r =>
    if c.toNat = 123 then
      if d.toNat = 123 then let x := lit r; (c :: x.1, x.2.1 + 2, x.2.2)
      else ([], 0, c :: d :: r, true)
    else if decide (c.toNat ≠ 10) && !isP c then ([], 0, c :: d :: r, false)
    else let x := lit (d :: r); (c :: x.1, x.2.1 + 1, x.2.2)

/-- The token in a tag that begins with c: its kind, its text, the bytes that it takes, what is left. -/
def part (c : UInt8) (r : Bs) : Option (Nat × Bs × Nat × Bs) :=
  if isL c then
    let w := c :: r.takeWhile isW
    if 20 < w.length then none else some (2, w, w.length, r.dropWhile isW)
  else if isD c then
    let w := c :: r.takeWhile isD
    if decide (6 < w.length) || (decide (1 < w.length) && decide (c.toNat = 48)) then none else some (3, w, w.length, r.dropWhile isD)
  else if c.toNat = 34 then
    let w := r.takeWhile isA
    match r.dropWhile isA with
    | [] => none
    | d :: t => if d.toNat = 34 then some (4, w, w.length + 2, t) else none
  else if c.toNat = 124 then some (5, [c], 1, r)
  else if c.toNat = 125 then some (7, [c], 1, r)
  else none

/-- The tokens of what is left, from the offset 'off' on; tag: the offset of the tag that is open. A token of the kind 0 is an error. -/
def scan : Nat → Bs → Nat → Option Nat → List Tk
  | 0, _, _, _ => []
  | _ + 1, [], _, none => []
  | _ + 1, [], _, some tag => [⟨0, [], tag⟩]
  | f + 1, c :: r, off, none =>
    if decide (c.toNat = 123) && !(match r with | d :: _ => decide (d.toNat = 123) | [] => false) then ⟨6, [c], off⟩ :: scan f r (off + 1) (some off)
    else
      let x := lit (c :: r)
      if x.2.2.2 then ⟨1, x.1, off⟩ :: scan f x.2.2.1 (off + x.2.1) none else [⟨0, [], off + x.2.1⟩]
  | f + 1, c :: r, off, some tag =>
    if c.toNat = 32 ∨ c.toNat = 10 then scan f r (off + 1) (some tag)
    else
      match part c r with
      | none => [⟨0, [], off⟩]
      | some (k, w, n, t) => ⟨k, w, off⟩ :: scan f t (off + n) (if k = 7 then none else some tag)

/-- 'Tokens': the tokens, or the offset of the first error. -/
def tokens (s : Bs) : Except Nat (List Tk) :=
  if 1000 < s.length then .error 1000
  else
    let l := scan (s.length + 1) s 0 none
    match l.find? (fun t => decide (t.kind = 0)) with
    | some t => .error t.off
    | none => .ok l

/-- A node. -/
inductive Nd where
  | mk (kind : Nat) (text name arg : Bs) (count : Int) (filters : List Bs) (kids els : List Nd)

namespace Nd
def kind : Nd → Nat | mk k _ _ _ _ _ _ _ => k
def text : Nd → Bs | mk _ t _ _ _ _ _ _ => t
def name : Nd → Bs | mk _ _ n _ _ _ _ _ => n
def arg : Nd → Bs | mk _ _ _ a _ _ _ _ => a
def count : Nd → Int | mk _ _ _ _ c _ _ _ => c
def filters : Nd → List Bs | mk _ _ _ _ _ f _ _ => f
def kids : Nd → List Nd | mk _ _ _ _ _ _ k _ => k
def els : Nd → List Nd | mk _ _ _ _ _ _ _ e => e
end Nd

def wFor : Bs := [102, 111, 114]
def wIf : Bs := [105, 102]
def wElse : Bs := [101, 108, 115, 101]
def wEnd : Bs := [101, 110, 100]
def wInclude : Bs := [105, 110, 99, 108, 117, 100, 101]

/-- One token of a kind: its text and what is left; 'size' is the offset of the end. -/
def need (size : Nat) (k : Nat) : List Tk → Except Nat (Tk × List Tk)
  | [] => .error size
  | t :: r => if t.kind = k then .ok (t, r) else .error t.off

def num (w : Bs) : Int := w.foldl (fun n c => 10 * n + (c.toNat - 48 : Int)) 0

/-- Filters up to the tag's end. -/
def filtersS (size : Nat) : Nat → List Tk → List Bs → Except Nat (List Bs × List Tk)
  | 0, _, _ => .error 0
  | f + 1, ts, acc =>
    match ts with
    | t :: r => if t.kind = 5 then do let (n, r') ← need size 2 r; filtersS size f r' (acc ++ [n.text]) else .ok (acc, t :: r)
    | [] => .ok (acc, [])

mutual
/-- Nodes up to a tag of one of the words (or to the end): the nodes, the word, what is left. -/
def listS (size : Nat) : Nat → Nat → List Bs → List Tk → List Nd → Except Nat (List Nd × Bs × List Tk)
  | 0, _, _, _, _ => .error 0
  | f + 1, depth, words, ts, acc =>
    match ts with
    | [] => if words.isEmpty then .ok (acc, [], []) else .error size
    | t :: r =>
      if t.kind = 1 then listS size f depth words r (acc ++ [.mk 1 t.text [] [] 0 [] [] []])
      else do
        let (o, r1) ← need size 6 (t :: r)
        let (n, r2) ← need size 2 r1
        if n.text = wElse ∨ n.text = wEnd then
          if n.text ∈ words then do
            let (_, r3) ← need size 7 r2
            .ok (acc, n.text, r3)
          else .error n.off
        else if n.text = wFor ∨ n.text = wIf then
          if depth = 8 then .error o.off
          else do
            let (nd, r3) ← if n.text = wFor then loopS size f (depth + 1) r2 else condS size f (depth + 1) r2
            listS size f depth words r3 (acc ++ [nd])
        else if n.text = wInclude then do
          let (m, r3) ← need size 2 r2
          let (_, r4) ← need size 7 r3
          listS size f depth words r4 (acc ++ [.mk 5 [] m.text [] 0 [] [] []])
        else do
          let (fl, r3) ← filtersS size f r2 []
          let (_, r4) ← need size 7 r3
          listS size f depth words r4 (acc ++ [.mk 2 [] n.text [] 0 fl [] []])
def loopS (size : Nat) : Nat → Nat → List Tk → Except Nat (Nd × List Tk)
  | 0, _, _ => .error 0
  | f + 1, depth, ts => do
    let (n, r) ← need size 2 ts
    let (a, r) ← match r with
      | t :: r' => if t.kind = 4 then Except.ok (t.text, r') else .ok ([], t :: r')
      | [] => .ok ([], [])
    let (c, r) ← match r with
      | t :: r' => if t.kind = 3 then Except.ok (num t.text, r') else .ok (0, t :: r')
      | [] => .ok (0, [])
    let (_, r) ← need size 7 r
    let (k, _, r) ← listS size f depth [wEnd] r []
    .ok (.mk 3 [] n.text a c [] k [], r)
def condS (size : Nat) : Nat → Nat → List Tk → Except Nat (Nd × List Tk)
  | 0, _, _ => .error 0
  | f + 1, depth, ts => do
    let (n, r) ← need size 2 ts
    let (_, r) ← need size 7 r
    let (k, w, r) ← listS size f depth [wElse, wEnd] r []
    if w = wElse then do
      let (e, _, r) ← listS size f depth [wEnd] r []
      .ok (.mk 4 [] n.text [] 0 [] k e, r)
    else .ok (.mk 4 [] n.text [] 0 [] k [], r)
end

/-- 'Parse': the nodes, or the offset and the error. -/
def parse (s : Bs) : Except (Nat × Int) (List Nd) :=
  match tokens s with
  | .error a => .error (a, 90)
  | .ok ts =>
    match listS s.length (3 * ts.length + 3) 0 [] ts [] with
    | .error a => .error (a, 100)
    | .ok (l, _, _) => .ok l
end Tpl
/-
  What 'Print' and 'Same' compute, in plain Lean.
-/
namespace Tpl

/-- Printing. -/
def isKw (s : Bs) : Bool := decide (s = wFor) || decide (s = wIf) || decide (s = wElse) || decide (s = wEnd) || decide (s = wInclude)
def nameOk : Bs → Bool
  | [] => false
  | c :: r => decide ((c :: r).length ≤ 20) && isL c && (c :: r).all isW
def isT (c : UInt8) : Bool := decide (c.toNat = 10) || isP c
def txOk (s : Bs) : Bool := !s.isEmpty && s.all isT
def esc (s : Bs) : Bs := s.flatMap fun c => if c.toNat = 123 then [c, c] else [c]
def dig (n : Nat) : UInt8 := UInt8.ofNat (48 + n)
def decF : Nat → Nat → Bs
  | 0, _ => []
  | f + 1, n => if n < 10 then [dig n] else decF f (n / 10) ++ [dig (n % 10)]
def dec (n : Nat) : Bs := decF (n + 1) n

mutual
def formN : Nd → Bs
  | .mk k t n a c f ks es =>
    if k = 1 then esc t
    else if k = 2 then 123 :: (n ++ (f.flatMap (fun x => 124 :: x) ++ [125]))
    else if k = 3 then 123 :: (wFor ++ (32 :: (n ++ ((if a.isEmpty then [] else [32, 34] ++ (a ++ [34])) ++ ((if c = 0 then [] else 32 :: dec c.toNat) ++ (125 :: (formL ks ++ (123 :: (wEnd ++ [125])))))))))
    else if k = 4 then 123 :: (wIf ++ (32 :: (n ++ (125 :: (formL ks ++ ((if es.isEmpty then [] else 123 :: (wElse ++ (125 :: formL es))) ++ (123 :: (wEnd ++ [125]))))))))
    else if k = 5 then 123 :: (wInclude ++ (32 :: (n ++ [125])))
    else []
def formL : List Nd → Bs
  | [] => []
  | x :: r => formN x ++ formL r
end

mutual
def valN : Nd → Nat → Bool
  | .mk k t n a c f ks es, d =>
    if k = 1 then txOk t && (n.isEmpty && a.isEmpty && decide (c = 0) && f.isEmpty && ks.isEmpty && es.isEmpty)
    else if k = 2 then nameOk n && !isKw n && (t.isEmpty && a.isEmpty && decide (c = 0) && ks.isEmpty && es.isEmpty) && f.all nameOk
    else if k = 3 then decide (d < 8) && (nameOk n && decide (0 ≤ c) && decide (c ≤ 999999)) && (t.isEmpty && f.isEmpty && es.isEmpty) && a.all isA && valL ks (d + 1) false
    else if k = 4 then decide (d < 8) && nameOk n && (t.isEmpty && a.isEmpty && decide (c = 0) && f.isEmpty) && valL ks (d + 1) false && valL es (d + 1) false
    else decide (k = 5) && nameOk n && (t.isEmpty && a.isEmpty && decide (c = 0) && f.isEmpty && ks.isEmpty && es.isEmpty)
def valL : List Nd → Nat → Bool → Bool
  | [], _, _ => true
  | x :: r, d, prev => !(prev && decide (x.kind = 1)) && valN x d && valL r d (decide (x.kind = 1))
end

/-- 'Print'. -/
def print (l : List Nd) : Option Bs := if valL l 0 false && decide ((formL l).length ≤ 1000) then some (formL l) else none

mutual
def eqN : Nd → Nd → Bool
  | .mk k t n a c f ks es, .mk k' t' n' a' c' f' ks' es' => decide (k = k') && decide (t = t') && decide (n = n') && decide (a = a') && decide (c = c') && decide (f = f') && eqL ks ks' && eqL es es'
def eqL : List Nd → List Nd → Bool
  | [], [] => true
  | x :: r, y :: s => eqN x y && eqL r s
  | [], _ :: _ => false
  | _ :: _, [] => false
end

mutual
theorem eqN_iff : ∀ (x y : Nd), eqN x y = true ↔ x = y
  | .mk k t n a c f ks es, .mk k' t' n' a' c' f' ks' es' => by
    simp only [eqN, Bool.and_eq_true, decide_eq_true_eq, eqL_iff ks ks', eqL_iff es es', Nd.mk.injEq, and_assoc]
theorem eqL_iff : ∀ (l m : List Nd), eqL l m = true ↔ l = m
  | [], [] => by simp [eqL]
  | x :: r, y :: s => by simp only [eqL, Bool.and_eq_true, eqN_iff x y, eqL_iff r s, List.cons.injEq]
  | [], _ :: _ => by simp [eqL]
  | _ :: _, [] => by simp [eqL]
end

end Tpl
/-
  The theory of the lexer, in plain Lean: what it says of a text that is put together.
-/
namespace Tpl

/-- Does a tag begin here? -/
def opn : Bs → Bool
  | [] => false
  | c :: r => decide (c.toNat = 123) && !(match r with | d :: _ => decide (d.toNat = 123) | [] => false)

theorem c_eq {c : UInt8} {n : Nat} (h : c.toNat = n) : c = UInt8.ofNat n := by
  rw [← h]; exact (UInt8.ofNat_toNat).symm

theorem isT_123 : isT 123 = true := by decide
theorem opn_ne {c : UInt8} (r : Bs) (h : ¬ c.toNat = 123) : opn (c :: r) = false := by simp [opn, h]

theorem lit_not {c : UInt8} (h : isT c = true) : (decide (c.toNat ≠ 10) && !isP c) = false := by
  unfold isT at h
  simp only [Bool.or_eq_true, decide_eq_true_eq] at h
  rcases h with h | h <;> simp [h]
theorem lit_not' {c : UInt8} (h : (decide (c.toNat ≠ 10) && !isP c) = false) : isT c = true := by
  unfold isT
  simp only [Bool.and_eq_false_iff, decide_eq_false_iff_not, Bool.not_eq_false'] at h
  simp only [Bool.or_eq_true, decide_eq_true_eq]
  rcases h with h | h
  · left; omega
  · right; exact h

theorem esc_cons (c : UInt8) (t : Bs) : esc (c :: t) = (if c.toNat = 123 then [c, c] else [c]) ++ esc t := by simp [esc]
theorem esc_app (s t : Bs) : esc (s ++ t) = esc s ++ esc t := by simp [esc]
theorem esc_ne {t : Bs} (h : t ≠ []) : esc t ≠ [] := by
  cases t with
  | nil => exact absurd rfl h
  | cons c t => rw [esc_cons]; split <;> simp
theorem esc_len (t : Bs) : t.length ≤ (esc t).length := by
  induction t with
  | nil => simp [esc]
  | cons c t ih => rw [esc_cons]; split <;> simp <;> omega

/-- A text that is followed by nothing or by a tag. -/
theorem lit_stop (r : Bs) (h : r = [] ∨ opn r = true) : lit r = ([], 0, r, true) := by
  rcases h with rfl | h
  · rfl
  · match r, h with
    | [c], h =>
      have hc : c.toNat = 123 := by simpa [opn] using h
      simp [lit, hc]
    | c :: d :: r, h =>
      have hc : c.toNat = 123 ∧ ¬ d.toNat = 123 := by simpa [opn] using h
      rw [lit, if_pos hc.1, if_neg hc.2]

theorem lit_esc (r : Bs) (h : r = [] ∨ opn r = true) : ∀ t : Bs, t.all isT = true → lit (esc t ++ r) = (t, (esc t).length, r, true)
  | [], _ => by rw [show esc [] = [] from rfl, List.nil_append, lit_stop r h]; rfl
  | c :: t, ht => by
    simp only [List.all_cons, Bool.and_eq_true] at ht
    have ih := lit_esc r h t ht.2
    rw [esc_cons]
    by_cases hc : c.toNat = 123
    · rw [if_pos hc]
      simp only [List.cons_append, List.nil_append]
      rw [lit, if_pos hc, if_pos hc, ih]
      simp
    · rw [if_neg hc]
      simp only [List.cons_append, List.nil_append]
      cases hs : esc t ++ r with
      | nil =>
        have he : esc t = [] := (List.append_eq_nil_iff.1 hs).1
        have hr : r = [] := (List.append_eq_nil_iff.1 hs).2
        have ht0 : t = [] := by
          cases t with
          | nil => rfl
          | cons x y => exact absurd he (esc_ne (by simp))
        subst ht0; subst hr
        rw [lit, if_neg hc, if_neg (by rw [lit_not ht.1]; decide)]
        rfl
      | cons d u =>
        rw [lit, if_neg hc, if_neg (by rw [lit_not ht.1]; decide), ← hs, ih]
        simp

/-- What a run of literal text is. -/
theorem lit_inv (s : Bs) : (lit s).2.2.2 = true → s = esc (lit s).1 ++ (lit s).2.2.1 ∧ (lit s).1.all isT = true ∧ ((lit s).2.2.1 = [] ∨ opn (lit s).2.2.1 = true) ∧ (lit s).2.1 = (esc (lit s).1).length := by
  fun_induction lit s with
  | case1 => intro _; simp [esc]
  | case2 c hc => intro _; simp [esc, opn, hc]
  | case3 c hc hb => intro h; simp at h
  | case4 c hc hb => intro _; simp [esc, hc, lit_not' (by simpa using hb)]
  | case5 c d r hc hd x ih =>
    intro h
    obtain ⟨h1, h2, h3, h4⟩ := ih h
    have hcd : d = c := by rw [c_eq hc, c_eq hd]
    subst hcd
    refine ⟨?_, ?_, h3, ?_⟩
    · rw [esc_cons, if_pos hc]
      simp only [List.cons_append, List.nil_append]
      rw [← h1]
    · simp only [List.all_cons, Bool.and_eq_true]
      refine ⟨?_, h2⟩
      rw [c_eq hc]; decide
    · rw [esc_cons, if_pos hc]; simp only [List.cons_append, List.nil_append, List.length_cons]; rw [← h4]
  | case6 c d r hc hd => intro _; simp [esc, opn, hc, hd]
  | case7 c d r hc hb => intro h; simp at h
  | case8 c d r hc hb x ih =>
    intro h
    obtain ⟨h1, h2, h3, h4⟩ := ih h
    refine ⟨?_, ?_, h3, ?_⟩
    · rw [esc_cons, if_neg hc]
      simp only [List.cons_append, List.nil_append]
      rw [← h1]
    · simp only [List.all_cons, Bool.and_eq_true]
      exact ⟨lit_not' (by simpa using hb), h2⟩
    · rw [esc_cons, if_neg hc]; simp only [List.cons_append, List.nil_append, List.length_cons]; rw [← h4]

theorem lit_len (s : Bs) : (lit s).2.1 + (lit s).2.2.1.length = s.length := by
  fun_induction lit s with
  | case1 => rfl
  | case2 c hc => simp
  | case3 c hc hb => simp
  | case4 c hc hb => simp
  | case5 c d r hc hd x ih => simp only [List.length_cons]; rw [show x = lit r from rfl]; omega
  | case6 c d r hc hd => simp
  | case7 c d r hc hb => simp
  | case8 c d r hc hb x ih => simp only [List.length_cons] at ih ⊢; rw [show x = lit (d :: r) from rfl]; omega

theorem lit_pos {c : UInt8} {r : Bs} (h : opn (c :: r) = false) (hok : (lit (c :: r)).2.2.2 = true) : 0 < (lit (c :: r)).2.1 := by
  obtain ⟨h1, -, h3, h4⟩ := lit_inv _ hok
  rw [h4]
  by_cases h0 : esc (lit (c :: r)).1 = []
  · rw [h0, List.nil_append] at h1
    rw [← h1, h] at h3
    simp at h3
  · exact List.length_pos_iff.2 h0

/-- No word character (or digit) at the head. -/
def noH (p : UInt8 → Bool) : Bs → Bool
  | [] => true
  | c :: _ => !p c

theorem takeWhile_app {p : UInt8 → Bool} : ∀ {w r : Bs}, w.all p = true → noH p r = true → (w ++ r).takeWhile p = w ∧ (w ++ r).dropWhile p = r
  | [], [], _, _ => by simp
  | [], c :: r, _, h => by
    have : p c = false := by simpa [noH] using h
    simp [this]
  | a :: w, r, h, h2 => by
    simp only [List.all_cons, Bool.and_eq_true] at h
    have ih := takeWhile_app h.2 h2
    simp [h.1, ih]

theorem noH_drop (p : UInt8 → Bool) : ∀ r : Bs, noH p (r.dropWhile p) = true
  | [] => rfl
  | c :: r => by
    by_cases h : p c = true
    · rw [List.dropWhile_cons, if_pos h]; exact noH_drop p r
    · rw [List.dropWhile_cons, if_neg h]; simp [noH, h]

theorem all_take (p : UInt8 → Bool) : ∀ r : Bs, (r.takeWhile p).all p = true
  | [] => rfl
  | c :: r => by
    by_cases h : p c = true
    · rw [List.takeWhile_cons, if_pos h]; simp [h]
    · rw [List.takeWhile_cons, if_neg h]; rfl

def numOk (w : Bs) : Bool := !w.isEmpty && w.all isD && decide (w.length ≤ 6) && !(decide (1 < w.length) && decide (w.head? = some 48))

/-- Is a token as the lexer makes it? -/
def tkOk (t : Tk) : Bool :=
  if t.kind = 1 then txOk t.text
  else if t.kind = 2 then nameOk t.text
  else if t.kind = 3 then numOk t.text
  else if t.kind = 4 then t.text.all isA
  else decide (t.kind = 5) || decide (t.kind = 6) || decide (t.kind = 7)

/-- The bytes that a token takes. -/
def tkLen (t : Tk) : Nat :=
  if t.kind = 1 then (esc t.text).length
  else if t.kind = 2 ∨ t.kind = 3 then t.text.length
  else if t.kind = 4 then t.text.length + 2
  else 1

/-- The token in a tag. -/
theorem part_inv {c : UInt8} {r : Bs} {k : Nat} {w : Bs} {n : Nat} {t : Bs} (h : part c r = some (k, w, n, t)) :
    (k = 2 ∨ k = 3 ∨ k = 4 ∨ k = 5 ∨ k = 7) ∧ (∀ o, tkOk ⟨k, w, o⟩ = true ∧ tkLen ⟨k, w, o⟩ = n) ∧ n + t.length = r.length + 1 ∧ 0 < n ∧ ((k = 2 ∨ k = 3) → c :: r = w ++ t) ∧ (k = 2 → noH isW t = true) ∧ (k = 3 → noH isD t = true) ∧ (k = 2 ∨ k = 3 → isW c = true) := by
  unfold part at h
  by_cases hl : isL c = true
  · rw [if_pos hl] at h
    simp only at h
    split at h
    · simp at h
    · rename_i hlen
      injection h with h; injection h with h1 h; injection h with h2 h; injection h with h3 h4
      subst h1; subst h2; subst h3; subst h4
      have hw : isW c = true := by simp [isW, hl]
      have e := List.takeWhile_append_dropWhile (p := isW) (l := r)
      have el : (r.takeWhile isW).length + (r.dropWhile isW).length = r.length := by rw [← List.length_append, e]
      refine ⟨.inl rfl, fun o => ⟨?_, ?_⟩, ?_, by simp, fun _ => ?_, fun _ => noH_drop _ _, fun h => by omega, fun _ => hw⟩
      · simp only [tkOk]
        simp only [nameOk, List.all_cons, hw, hl, all_take, Bool.and_true]
        simp only [List.length_cons] at hlen ⊢
        simp
        omega
      · simp [tkLen]
      · simp only [List.length_cons]; omega
      · rw [List.cons_append, e]
  · rw [if_neg hl] at h
    by_cases hd : isD c = true
    · rw [if_pos hd] at h
      simp only at h
      split at h
      · simp at h
      · rename_i hlen
        injection h with h; injection h with h1 h; injection h with h2 h; injection h with h3 h4
        subst h1; subst h2; subst h3; subst h4
        have hw : isW c = true := by simp [isW, hd]
        have e := List.takeWhile_append_dropWhile (p := isD) (l := r)
        have el : (r.takeWhile isD).length + (r.dropWhile isD).length = r.length := by rw [← List.length_append, e]
        refine ⟨.inr (.inl rfl), fun o => ⟨?_, ?_⟩, ?_, by simp, fun _ => ?_, fun h => by omega, fun _ => noH_drop _ _, fun _ => hw⟩
        · simp only [tkOk]
          simp only [Bool.or_eq_true, Bool.and_eq_true, decide_eq_true_eq, not_or, not_and, List.length_cons] at hlen
          simp only [numOk, List.all_cons, hd, all_take, Bool.and_true, Bool.true_and, List.isEmpty_cons, Bool.not_false, List.head?_cons, List.length_cons]
          simp
          refine ⟨by omega, ?_⟩
          by_cases h0 : r.takeWhile isD = []
          · exact .inl h0
          · right
            have := hlen.2 (by have := List.length_pos_iff.2 h0; omega)
            intro e
            rw [e] at this
            exact this (by decide)
        · simp [tkLen]
        · simp only [List.length_cons]; omega
        · rw [List.cons_append, e]
    · rw [if_neg hd] at h
      by_cases hq : c.toNat = 34
      · rw [if_pos hq] at h
        simp only at h
        have e := List.takeWhile_append_dropWhile (p := isA) (l := r)
        have el : (r.takeWhile isA).length + (r.dropWhile isA).length = r.length := by rw [← List.length_append, e]
        split at h
        · simp at h
        · rename_i d u hu
          rw [hu] at el
          simp only [List.length_cons] at el
          split at h
          · injection h with h; injection h with h1 h; injection h with h2 h; injection h with h3 h4
            subst h1; subst h2; subst h3; subst h4
            refine ⟨.inr (.inr (.inl rfl)), fun o => ⟨?_, ?_⟩, by omega, by omega, fun h => by omega, fun h => by omega, fun h => by omega, fun h => by omega⟩
            · simp [tkOk]
            · simp [tkLen]
          · simp at h
      · rw [if_neg hq] at h
        by_cases hp : c.toNat = 124
        · rw [if_pos hp] at h
          injection h with h; injection h with h1 h; injection h with h2 h; injection h with h3 h4
          subst h1; subst h2; subst h3; subst h4
          exact ⟨by simp, fun o => by simp [tkOk, tkLen], by omega, by omega, fun h => by omega, fun h => by omega, fun h => by omega, fun h => by omega⟩
        · rw [if_neg hp] at h
          by_cases hc : c.toNat = 125
          · rw [if_pos hc] at h
            injection h with h; injection h with h1 h; injection h with h2 h; injection h with h3 h4
            subst h1; subst h2; subst h3; subst h4
            exact ⟨by simp, fun o => by simp [tkOk, tkLen], by omega, by omega, fun h => by omega, fun h => by omega, fun h => by omega, fun h => by omega⟩
          · rw [if_neg hc] at h; simp at h

theorem scan_none (f : Nat) (c : UInt8) (r : Bs) (off : Nat) : scan (f + 1) (c :: r) off none = if opn (c :: r) = true then ⟨6, [c], off⟩ :: scan f r (off + 1) (some off) else if (lit (c :: r)).2.2.2 = true then ⟨1, (lit (c :: r)).1, off⟩ :: scan f (lit (c :: r)).2.2.1 (off + (lit (c :: r)).2.1) none else [⟨0, [], off + (lit (c :: r)).2.1⟩] := by
  cases r <;> rfl
theorem scan_some (f : Nat) (c : UInt8) (r : Bs) (off tag : Nat) : scan (f + 1) (c :: r) off (some tag) = if c.toNat = 32 ∨ c.toNat = 10 then scan f r (off + 1) (some tag) else match part c r with
    | none => [⟨0, [], off⟩]
    | some (k, w, n, t) => ⟨k, w, off⟩ :: scan f t (off + n) (if k = 7 then none else some tag) := rfl

/-- Enough fuel. -/
theorem scan_fuel : ∀ (f g : Nat) (s : Bs) (off : Nat) (tag : Option Nat), s.length + 1 ≤ f → s.length + 1 ≤ g → scan f s off tag = scan g s off tag
  | 0, _, _, _, _, h, _ => by omega
  | _ + 1, 0, _, _, _, _, h => by omega
  | f + 1, g + 1, [], off, none, _, _ => rfl
  | f + 1, g + 1, [], off, some tag, _, _ => rfl
  | f + 1, g + 1, c :: r, off, none, hf, hg => by
    simp only [List.length_cons] at hf hg
    rw [scan_none, scan_none]
    split
    · rw [scan_fuel f g r _ _ (by omega) (by omega)]
    · rename_i ho
      have ho : opn (c :: r) = false := by simpa using ho
      split
      · rename_i hok
        have h1 := lit_len (c :: r)
        have h2 := lit_pos ho hok
        simp only [List.length_cons] at h1
        rw [scan_fuel f g _ _ _ (by omega) (by omega)]
      · rfl
  | f + 1, g + 1, c :: r, off, some tag, hf, hg => by
    simp only [List.length_cons] at hf hg
    rw [scan_some, scan_some]
    split
    · rw [scan_fuel f g r _ _ (by omega) (by omega)]
    · split
      · rfl
      · rename_i k w n t hp
        obtain ⟨-, -, h3, h4, -⟩ := part_inv hp
        rw [scan_fuel f g t _ _ (by omega) (by omega)]

def lexS (s : Bs) (off : Nat) (tag : Option Nat) : List Tk := scan (s.length + 1) s off tag

theorem lexS_scan {f : Nat} {s : Bs} {off : Nat} {tag : Option Nat} (h : s.length + 1 ≤ f) : scan f s off tag = lexS s off tag := scan_fuel _ _ _ _ _ h (Nat.le_refl _)

theorem lexS_nil (off : Nat) : lexS [] off none = [] := rfl
theorem lexS_nil_tag (off tag : Nat) : lexS [] off (some tag) = [⟨0, [], tag⟩] := rfl
theorem lexS_opn {c : UInt8} {r : Bs} (off : Nat) (h : opn (c :: r) = true) : lexS (c :: r) off none = ⟨6, [c], off⟩ :: lexS r (off + 1) (some off) := by
  rw [lexS, List.length_cons, scan_none, if_pos h, lexS_scan (by simp)]
theorem lexS_lit {c : UInt8} {r : Bs} (off : Nat) (h : opn (c :: r) = false) (hok : (lit (c :: r)).2.2.2 = true) : lexS (c :: r) off none = ⟨1, (lit (c :: r)).1, off⟩ :: lexS (lit (c :: r)).2.2.1 (off + (lit (c :: r)).2.1) none := by
  have h1 := lit_len (c :: r)
  have h2 := lit_pos h hok
  simp only [List.length_cons] at h1
  rw [lexS, List.length_cons, scan_none, if_neg (by rw [h]; decide), if_pos hok, lexS_scan (by omega)]
theorem lexS_bad {c : UInt8} {r : Bs} (off : Nat) (h : opn (c :: r) = false) (hok : (lit (c :: r)).2.2.2 = false) : lexS (c :: r) off none = [⟨0, [], off + (lit (c :: r)).2.1⟩] := by
  rw [lexS, List.length_cons, scan_none, if_neg (by rw [h]; decide), if_neg (by rw [hok]; decide)]
theorem lexS_sp {c : UInt8} {r : Bs} (off tag : Nat) (h : c.toNat = 32 ∨ c.toNat = 10) : lexS (c :: r) off (some tag) = lexS r (off + 1) (some tag) := by
  rw [lexS, List.length_cons, scan_some, if_pos h, lexS_scan (by simp)]
theorem lexS_part {c : UInt8} {r : Bs} (off tag : Nat) (h : ¬ (c.toNat = 32 ∨ c.toNat = 10)) {k : Nat} {w : Bs} {n : Nat} {t : Bs} (hp : part c r = some (k, w, n, t)) : lexS (c :: r) off (some tag) = ⟨k, w, off⟩ :: lexS t (off + n) (if k = 7 then none else some tag) := by
  obtain ⟨-, -, h3, h4, -⟩ := part_inv hp
  rw [lexS, List.length_cons, scan_some, if_neg h, hp]
  simp only
  rw [lexS_scan (by simp; omega)]
theorem lexS_wrong {c : UInt8} {r : Bs} (off tag : Nat) (h : ¬ (c.toNat = 32 ∨ c.toNat = 10)) (hp : part c r = none) : lexS (c :: r) off (some tag) = [⟨0, [], off⟩] := by
  rw [lexS, List.length_cons, scan_some, if_neg h, hp]

/-! ### The pieces that the printer puts. -/
theorem isW_plain {c : UInt8} (h : isW c = true) : ¬ (c.toNat = 32 ∨ c.toNat = 10) ∧ ¬ c.toNat = 34 ∧ ¬ c.toNat = 124 ∧ ¬ c.toNat = 125 := by
  simp only [isW, isL, isD, Bool.or_eq_true, Bool.and_eq_true, decide_eq_true_eq] at h
  omega
theorem isL_isD {c : UInt8} (h : isD c = true) : isL c = false := by
  simp only [isD, Bool.and_eq_true, decide_eq_true_eq] at h
  simp only [isL, Bool.and_eq_false_iff, decide_eq_false_iff_not]
  omega

theorem lex_text {t : Bs} (h : txOk t = true) (r : Bs) (hr : r = [] ∨ opn r = true) (off : Nat) : lexS (esc t ++ r) off none = ⟨1, t, off⟩ :: lexS r (off + (esc t).length) none := by
  simp only [txOk, Bool.and_eq_true, Bool.not_eq_true', List.isEmpty_eq_false_iff] at h
  have hl := lit_esc r hr t h.2
  cases hs : esc t ++ r with
  | nil => exact absurd (List.append_eq_nil_iff.1 hs).1 (esc_ne h.1)
  | cons c u =>
    have ho : opn (c :: u) = false := by
      cases ht : t with
      | nil => exact absurd ht h.1
      | cons a t' =>
        rw [ht, esc_cons] at hs
        by_cases ha : a.toNat = 123
        · rw [if_pos ha] at hs
          simp only [List.cons_append, List.nil_append, List.cons.injEq] at hs
          obtain ⟨rfl, rfl⟩ := hs
          simp [opn, ha]
        · rw [if_neg ha] at hs
          simp only [List.cons_append, List.nil_append, List.cons.injEq] at hs
          obtain ⟨rfl, rfl⟩ := hs
          exact opn_ne _ ha
    rw [hs] at hl
    rw [lexS_lit off ho (by rw [hl]), hl]

theorem lex_name {n : Bs} (h : nameOk n = true) (r : Bs) (hr : noH isW r = true) (off tag : Nat) : lexS (n ++ r) off (some tag) = ⟨2, n, off⟩ :: lexS r (off + n.length) (some tag) := by
  cases n with
  | nil => simp [nameOk] at h
  | cons c u =>
    simp only [nameOk, Bool.and_eq_true, decide_eq_true_eq, List.all_cons] at h
    obtain ⟨⟨hlen, hl⟩, hw, hu⟩ := h
    have hp : part c (u ++ r) = some (2, c :: u, (c :: u).length, r) := by
      obtain ⟨e1, e2⟩ := takeWhile_app hu hr
      unfold part
      rw [if_pos hl]
      simp only [e1, e2]
      rw [if_neg (by omega)]
    rw [List.cons_append, lexS_part off tag (isW_plain hw).1 hp]
    simp

theorem lex_num {n : Bs} (h : numOk n = true) (r : Bs) (hr : noH isD r = true) (off tag : Nat) : lexS (n ++ r) off (some tag) = ⟨3, n, off⟩ :: lexS r (off + n.length) (some tag) := by
  cases n with
  | nil => simp [numOk] at h
  | cons c u =>
    simp only [numOk, Bool.and_eq_true, decide_eq_true_eq, List.all_cons, Bool.not_eq_true', List.head?_cons, Bool.and_eq_false_iff, decide_eq_false_iff_not] at h
    obtain ⟨⟨⟨-, hd, hu⟩, hlen⟩, hz⟩ := h
    have hp : part c (u ++ r) = some (3, c :: u, (c :: u).length, r) := by
      obtain ⟨e1, e2⟩ := takeWhile_app hu hr
      unfold part
      rw [if_neg (by rw [isL_isD hd]; decide), if_pos hd]
      simp only [e1, e2]
      rw [if_neg]
      simp only [Bool.or_eq_true, Bool.and_eq_true, decide_eq_true_eq, not_or, not_and]
      refine ⟨by omega, fun h1 h2 => ?_⟩
      rcases hz with hz | hz
      · exact hz h1
      · rw [c_eq h2] at hz
        exact of_decide_eq_false hz rfl
    have hw : isW c = true := by simp [isW, hd]
    rw [List.cons_append, lexS_part off tag (isW_plain hw).1 hp]
    simp

theorem lex_str {a : Bs} (h : a.all isA = true) (r : Bs) (off tag : Nat) : lexS (34 :: (a ++ 34 :: r)) off (some tag) = ⟨4, a, off⟩ :: lexS r (off + (a.length + 2)) (some tag) := by
  have hp : part 34 (a ++ 34 :: r) = some (4, a, a.length + 2, r) := by
    obtain ⟨e1, e2⟩ := takeWhile_app (p := isA) (w := a) (r := 34 :: r) h (by rfl)
    unfold part
    rw [if_neg (by decide), if_neg (by decide), if_pos (by decide)]
    simp only [e1, e2]
    rw [if_pos (by decide)]
  rw [lexS_part off tag (by decide) hp]
  simp

theorem lex_pipe (r : Bs) (off tag : Nat) : lexS (124 :: r) off (some tag) = ⟨5, [124], off⟩ :: lexS r (off + 1) (some tag) := by
  rw [lexS_part off tag (by decide) (show part 124 r = some (5, [124], 1, r) from rfl)]; simp
theorem lex_close (r : Bs) (off tag : Nat) : lexS (125 :: r) off (some tag) = ⟨7, [125], off⟩ :: lexS r (off + 1) none := by
  rw [lexS_part off tag (by decide) (show part 125 r = some (7, [125], 1, r) from rfl)]; simp
theorem lex_sp (r : Bs) (off tag : Nat) : lexS (32 :: r) off (some tag) = lexS r (off + 1) (some tag) := lexS_sp off tag (.inl rfl)
theorem lex_open {c : UInt8} (r : Bs) (off : Nat) (h : ¬ c.toNat = 123) : lexS (123 :: c :: r) off none = ⟨6, [123], off⟩ :: lexS (c :: r) (off + 1) (some off) :=
  lexS_opn off (by simp [opn, h])
end Tpl
/-
  The theory of the parser, in plain Lean: a grammar of the tokens, and how the parser runs over it.
-/
namespace Tpl

abbrev KT := Nat × Bs
def kt (t : Tk) : KT := (t.kind, t.text)

inductive Flt : List KT → List Bs → Prop
  | nil : Flt [] []
  | cons {p x k f} : Flt k f → Flt ((5, p) :: (2, x) :: k) (x :: f)
inductive ArgK : List KT → Bs → Prop
  | no : ArgK [] []
  | yes (a) : ArgK [(4, a)] a
inductive CntK : List KT → Int → Prop
  | no : CntK [] 0
  | yes (w) : CntK [(3, w)] (num w)

/-- Tokens that are a list of nodes. -/
inductive PNs : Nat → List KT → List Nd → Prop
  | nil {d} : PNs d [] []
  | text {d t k l} : PNs d k l → PNs d ((1, t) :: k) (.mk 1 t [] [] 0 [] [] [] :: l)
  | field {d o n kf c f k l} : ¬ (n = wElse ∨ n = wEnd) → ¬ (n = wFor ∨ n = wIf) → ¬ n = wInclude → Flt kf f → PNs d k l → PNs d ((6, o) :: (2, n) :: (kf ++ (7, c) :: k)) (.mk 2 [] n [] 0 f [] [] :: l)
  | incl {d o m c k l} : PNs d k l → PNs d ((6, o) :: (2, wInclude) :: (2, m) :: (7, c) :: k) (.mk 5 [] m [] 0 [] [] [] :: l)
  | loop {d o n ka a kc c c1 k0 ks o2 c2 k l} : d < 8 → ArgK ka a → CntK kc c → PNs (d + 1) k0 ks → PNs d k l →
      PNs d ((6, o) :: (2, wFor) :: (2, n) :: (ka ++ (kc ++ (7, c1) :: (k0 ++ (6, o2) :: (2, wEnd) :: (7, c2) :: k)))) (.mk 3 [] n a c [] ks [] :: l)
  | cond {d o n c1 k0 ks o2 c2 k l} : d < 8 → PNs (d + 1) k0 ks → PNs d k l →
      PNs d ((6, o) :: (2, wIf) :: (2, n) :: (7, c1) :: (k0 ++ (6, o2) :: (2, wEnd) :: (7, c2) :: k)) (.mk 4 [] n [] 0 [] ks [] :: l)
  | conde {d o n c1 k0 ks o2 c2 k1 es o3 c3 k l} : d < 8 → PNs (d + 1) k0 ks → PNs (d + 1) k1 es → PNs d k l →
      PNs d ((6, o) :: (2, wIf) :: (2, n) :: (7, c1) :: (k0 ++ (6, o2) :: (2, wElse) :: (7, c2) :: (k1 ++ (6, o3) :: (2, wEnd) :: (7, c3) :: k))) (.mk 4 [] n [] 0 [] ks es :: l)

theorem Flt.len {k : List KT} {f : List Bs} (h : Flt k f) : k.length = 2 * f.length := by
  induction h with
  | nil => rfl
  | cons _ ih => simp only [List.length_cons]; omega
theorem ArgK.len {k : List KT} {a : Bs} (h : ArgK k a) : k.length ≤ 1 := by cases h <;> simp
theorem CntK.len {k : List KT} {a : Int} (h : CntK k a) : k.length ≤ 1 := by cases h <;> simp
theorem PNs.len {d : Nat} {k : List KT} {l : List Nd} (h : PNs d k l) : l.length ≤ k.length := by
  induction h <;> simp only [List.length_cons, List.length_nil, List.length_append] <;> omega

theorem PNs.app {d : Nat} {k1 k2 : List KT} {l1 l2 : List Nd} (h : PNs d k1 l1) (h2 : PNs d k2 l2) : PNs d (k1 ++ k2) (l1 ++ l2) := by
  induction h with
  | nil => exact h2
  | text _ ih => exact .text (ih h2)
  | field a b c e _ ih => simp only [List.cons_append, List.append_assoc]; exact .field a b c e (ih h2)
  | incl _ ih => exact .incl (ih h2)
  | loop a b c e _ _ ih => simp only [List.cons_append, List.append_assoc]; exact .loop a b c e (ih h2)
  | cond a b _ _ ih => simp only [List.cons_append, List.append_assoc]; exact .cond a b (ih h2)
  | conde a b c _ _ _ ih => simp only [List.cons_append, List.append_assoc]; exact .conde a b c (ih h2)

theorem app_snoc {α : Type} {A B k : List α} {y : α} (h : A ++ B = k ++ [y]) (hB : B ≠ []) : ∃ B', B = B' ++ [y] ∧ k = A ++ B' := by
  obtain ⟨B', z, rfl⟩ := (List.eq_nil_or_concat B).resolve_left hB
  simp only [List.concat_eq_append] at h ⊢
  rw [← List.append_assoc] at h
  obtain ⟨h1, h2⟩ := List.append_inj' h rfl
  simp only [List.cons.injEq, and_true] at h2
  exact ⟨B', by rw [h2], h1.symm⟩

/-- A text at the end. -/
theorem PNs.snoc {d : Nat} {k0 : List KT} {l : List Nd} (h : PNs d k0 l) : ∀ {k : List KT} {x : Bs}, k0 = k ++ [(1, x)] → ∃ l', l = l' ++ [.mk 1 x [] [] 0 [] [] []] ∧ PNs d k l' := by
  induction h with
  | nil => intro k x e; simp at e
  | @text d t k' l' hk ih =>
    intro k x e
    by_cases hn : k' = []
    · subst hn
      cases hk
      cases k with
      | nil =>
        simp only [List.nil_append, List.cons.injEq, Prod.mk.injEq, true_and, and_true] at e
        subst e
        exact ⟨[], rfl, .nil⟩
      | cons a b => simp at e
    · obtain ⟨B', e1, rfl⟩ := app_snoc (A := [(1, t)]) (by simpa using e) hn
      obtain ⟨l2, rfl, hp⟩ := ih e1
      exact ⟨_ :: l2, rfl, .text hp⟩
  | @field d o n kf c f k' l' a b c' e' hk ih =>
    intro k x e
    by_cases hn : k' = []
    · subst hn
      have := congrArg List.getLast? e
      simp [List.getLast?_cons, List.getLast?_append] at this
    · obtain ⟨B', e1, rfl⟩ := app_snoc (A := (6, o) :: (2, n) :: (kf ++ [(7, c)])) (by simpa using e) hn
      obtain ⟨l2, rfl, hp⟩ := ih e1
      exact ⟨_ :: l2, rfl, by simpa using PNs.field (o := o) (c := c) a b c' e' hp⟩
  | @incl d o m c k' l' hk ih =>
    intro k x e
    by_cases hn : k' = []
    · subst hn
      have := congrArg List.getLast? e
      simp [List.getLast?_cons, List.getLast?_append] at this
    · obtain ⟨B', e1, rfl⟩ := app_snoc (A := [(6, o), (2, wInclude), (2, m), (7, c)]) (by simpa using e) hn
      obtain ⟨l2, rfl, hp⟩ := ih e1
      exact ⟨_ :: l2, rfl, by simpa using PNs.incl (o := o) (c := c) (m := m) hp⟩
  | @loop d o n ka a kc c c1 k0 ks o2 c2 k' l' h1 h2 h3 h4 hk _ ih =>
    intro k x e
    by_cases hn : k' = []
    · subst hn
      have := congrArg List.getLast? e
      simp [List.getLast?_cons, List.getLast?_append] at this
    · obtain ⟨B', e1, rfl⟩ := app_snoc (A := (6, o) :: (2, wFor) :: (2, n) :: (ka ++ (kc ++ (7, c1) :: (k0 ++ [(6, o2), (2, wEnd), (7, c2)])))) (by simpa using e) hn
      obtain ⟨l2, rfl, hp⟩ := ih e1
      exact ⟨_ :: l2, rfl, by simpa using PNs.loop (o := o) (c1 := c1) (o2 := o2) (c2 := c2) (n := n) h1 h2 h3 h4 hp⟩
  | @cond d o n c1 k0 ks o2 c2 k' l' h1 h2 hk _ ih =>
    intro k x e
    by_cases hn : k' = []
    · subst hn
      have := congrArg List.getLast? e
      simp [List.getLast?_cons, List.getLast?_append] at this
    · obtain ⟨B', e1, rfl⟩ := app_snoc (A := (6, o) :: (2, wIf) :: (2, n) :: (7, c1) :: (k0 ++ [(6, o2), (2, wEnd), (7, c2)])) (by simpa using e) hn
      obtain ⟨l2, rfl, hp⟩ := ih e1
      exact ⟨_ :: l2, rfl, by simpa using PNs.cond (o := o) (c1 := c1) (o2 := o2) (c2 := c2) (n := n) h1 h2 hp⟩
  | @conde d o n c1 k0 ks o2 c2 k1 es o3 c3 k' l' h1 h2 h3 hk _ _ ih =>
    intro k x e
    by_cases hn : k' = []
    · subst hn
      have := congrArg List.getLast? e
      simp [List.getLast?_cons, List.getLast?_append] at this
    · obtain ⟨B', e1, rfl⟩ := app_snoc (A := (6, o) :: (2, wIf) :: (2, n) :: (7, c1) :: (k0 ++ (6, o2) :: (2, wElse) :: (7, c2) :: (k1 ++ [(6, o3), (2, wEnd), (7, c3)]))) (by simpa using e) hn
      obtain ⟨l2, rfl, hp⟩ := ih e1
      exact ⟨_ :: l2, rfl, by simpa using PNs.conde (o := o) (c1 := c1) (o2 := o2) (c2 := c2) (o3 := o3) (c3 := c3) (n := n) h1 h2 h3 hp⟩

/-- A text at the head. -/
theorem PNs.head {d : Nat} {k : List KT} {x : Bs} {l : List Nd} (h : PNs d ((1, x) :: k) l) : ∃ l', l = .mk 1 x [] [] 0 [] [] [] :: l' ∧ PNs d k l' := by
  cases h with
  | text h => exact ⟨_, rfl, h⟩

/-! ### The parser's steps -/
variable {size f d : Nat} {ws : List Bs} {acc : List Nd}

theorem need_ok {t : Tk} {r : List Tk} {k : Nat} (h : t.kind = k) : need size k (t :: r) = .ok (t, r) := by rw [need, if_pos h]

theorem ok_bind {α β : Type} (a : α) (g : α → Except Nat β) : ((Except.ok a : Except Nat α) >>= g) = g a := rfl
theorem err_bind {α β : Type} (a : Nat) (g : α → Except Nat β) : ((Except.error a : Except Nat α) >>= g) = .error a := rfl
theorem bind_ok {α β : Type} {x : Except Nat α} {g : α → Except Nat β} {b : β} (h : (x >>= g) = .ok b) : ∃ a, x = .ok a ∧ g a = .ok b := by
  cases x with
  | error e => rw [err_bind] at h; simp at h
  | ok a => exact ⟨a, rfl, h⟩

theorem listS_text {t : Tk} {r : List Tk} (h : t.kind = 1) : listS size (f + 1) d ws (t :: r) acc = listS size f d ws r (acc ++ [.mk 1 t.text [] [] 0 [] [] []]) := by
  rw [listS]; simp only [h, if_true]

/-- What stands behind '{name'. -/
def tagS (size f d : Nat) (ws : List Bs) (o n : Tk) (r2 : List Tk) (acc : List Nd) : Except Nat (List Nd × Bs × List Tk) :=
  if n.text = wElse ∨ n.text = wEnd then
    if n.text ∈ ws then do
      let (_, r3) ← need size 7 r2
      .ok (acc, n.text, r3)
    else .error n.off
  else if n.text = wFor ∨ n.text = wIf then
    if d = 8 then .error o.off
    else do
      let (nd, r3) ← if n.text = wFor then loopS size f (d + 1) r2 else condS size f (d + 1) r2
      listS size f d ws r3 (acc ++ [nd])
  else if n.text = wInclude then do
    let (m, r3) ← need size 2 r2
    let (_, r4) ← need size 7 r3
    listS size f d ws r4 (acc ++ [.mk 5 [] m.text [] 0 [] [] []])
  else do
    let (fl, r3) ← filtersS size f r2 []
    let (_, r4) ← need size 7 r3
    listS size f d ws r4 (acc ++ [.mk 2 [] n.text [] 0 fl [] []])

theorem listS_tag {o n : Tk} {r2 : List Tk} (h6 : o.kind = 6) (h2 : n.kind = 2) : listS size (f + 1) d ws (o :: n :: r2) acc = tagS size f d ws o n r2 acc := by
  rw [listS]
  simp only
  rw [if_neg (by omega), need_ok h6, ok_bind]
  simp only
  rw [need_ok h2, ok_bind]
  rfl

theorem wElse_ne : wElse ≠ wFor ∧ wElse ≠ wIf ∧ wElse ≠ wEnd ∧ wElse ≠ wInclude := by decide
theorem wEnd_ne : wEnd ≠ wFor ∧ wEnd ≠ wIf ∧ wEnd ≠ wElse ∧ wEnd ≠ wInclude := by decide
theorem wFor_ne : ¬ (wFor = wElse ∨ wFor = wEnd) := by decide
theorem wIf_ne : ¬ (wIf = wElse ∨ wIf = wEnd) := by decide
theorem wIf_ne' : ¬ wIf = wFor := by decide
theorem wInc_ne : ¬ (wInclude = wElse ∨ wInclude = wEnd) := by decide
theorem wInc_ne' : ¬ (wInclude = wFor ∨ wInclude = wIf) := by decide

theorem listS_word {o n c : Tk} {r : List Tk} (h6 : o.kind = 6) (h2 : n.kind = 2) (h7 : c.kind = 7) (hw : n.text = wElse ∨ n.text = wEnd) (hm : n.text ∈ ws) : listS size (f + 1) d ws (o :: n :: c :: r) acc = .ok (acc, n.text, r) := by
  rw [listS_tag h6 h2, tagS, if_pos hw, if_pos hm, need_ok h7]
  rfl
theorem listS_for {o n : Tk} {r : List Tk} (h6 : o.kind = 6) (h2 : n.kind = 2) (hn : n.text = wFor) (hd : ¬ d = 8) : listS size (f + 1) d ws (o :: n :: r) acc = loopS size f (d + 1) r >>= fun p => listS size f d ws p.2 (acc ++ [p.1]) := by
  rw [listS_tag h6 h2, tagS, if_neg (by rw [hn]; exact wFor_ne), if_pos (.inl hn), if_neg hd, if_pos hn]
theorem listS_if {o n : Tk} {r : List Tk} (h6 : o.kind = 6) (h2 : n.kind = 2) (hn : n.text = wIf) (hd : ¬ d = 8) : listS size (f + 1) d ws (o :: n :: r) acc = condS size f (d + 1) r >>= fun p => listS size f d ws p.2 (acc ++ [p.1]) := by
  rw [listS_tag h6 h2, tagS, if_neg (by rw [hn]; exact wIf_ne), if_pos (.inr hn), if_neg hd, if_neg (by rw [hn]; exact wIf_ne')]
theorem listS_deep {o n : Tk} {r : List Tk} (h6 : o.kind = 6) (h2 : n.kind = 2) (hn : n.text = wFor ∨ n.text = wIf) (hd : d = 8) : listS size (f + 1) d ws (o :: n :: r) acc = .error o.off := by
  rw [listS_tag h6 h2, tagS, if_neg (by rcases hn with hn | hn <;> rw [hn]; exact wFor_ne; exact wIf_ne), if_pos hn, if_pos hd]
theorem listS_incl {o n m c : Tk} {r : List Tk} (h6 : o.kind = 6) (h2 : n.kind = 2) (hn : n.text = wInclude) (hm : m.kind = 2) (hc : c.kind = 7) : listS size (f + 1) d ws (o :: n :: m :: c :: r) acc = listS size f d ws r (acc ++ [.mk 5 [] m.text [] 0 [] [] []]) := by
  rw [listS_tag h6 h2, tagS, if_neg (by rw [hn]; exact wInc_ne), if_neg (by rw [hn]; exact wInc_ne'), if_pos hn, need_ok hm, ok_bind]
  simp only
  rw [need_ok hc, ok_bind]

theorem filtersS_Flt {k : List KT} {fl : List Bs} (h : Flt k fl) : ∀ {ts us : List Tk} {c : Tk} {f : Nat} {a : List Bs}, ts.map kt = k → c.kind = 7 → fl.length + 1 ≤ f → filtersS size f (ts ++ c :: us) a = .ok (a ++ fl, c :: us) := by
  induction h with
  | nil =>
    intro ts us c f a h hc hf
    obtain rfl := List.map_eq_nil_iff.1 h
    obtain ⟨f, rfl⟩ : ∃ g, f = g + 1 := ⟨f - 1, by omega⟩
    rw [List.nil_append, filtersS]
    simp only
    rw [if_neg (by omega)]
    simp
  | cons _ ih =>
    intro ts us c f a h hc hf
    obtain ⟨t, r, rfl, h1, h⟩ := List.map_eq_cons_iff.1 h
    obtain ⟨t2, r, rfl, h2, h⟩ := List.map_eq_cons_iff.1 h
    simp only [kt, Prod.mk.injEq] at h1 h2
    obtain ⟨f, rfl⟩ : ∃ g, f = g + 1 := ⟨f - 1, by omega⟩
    simp only [List.cons_append]
    rw [filtersS]
    simp only
    rw [if_pos h1.1, need_ok h2.1, ok_bind]
    simp only
    rw [ih h hc (by simp only [List.length_cons] at hf; omega), h2.2]
    simp

theorem listS_field {o n : Tk} {ts us : List Tk} {c : Tk} {k : List KT} {fl : List Bs} (h6 : o.kind = 6) (h2 : n.kind = 2) (g1 : ¬ (n.text = wElse ∨ n.text = wEnd)) (g2 : ¬ (n.text = wFor ∨ n.text = wIf)) (g3 : ¬ n.text = wInclude) (hf : Flt k fl) (hk : ts.map kt = k) (hc : c.kind = 7) (hlen : fl.length + 1 ≤ f) :
    listS size (f + 1) d ws (o :: n :: (ts ++ c :: us)) acc = listS size f d ws us (acc ++ [.mk 2 [] n.text [] 0 fl [] []]) := by
  rw [listS_tag h6 h2, tagS, if_neg g1, if_neg g2, if_neg g3, filtersS_Flt hf hk hc hlen, ok_bind]
  simp only [List.nil_append]
  rw [need_ok hc, ok_bind]

/-- What stands behind '{for name'. -/
theorem loopS_args {n : Tk} {ta tc us : List Tk} {c1 : Tk} {ka kc : List KT} {a : Bs} {c : Int} (h2 : n.kind = 2) (ha : ArgK ka a) (hc : CntK kc c) (hka : ta.map kt = ka) (hkc : tc.map kt = kc) (h7 : c1.kind = 7) :
    loopS size (f + 1) d (n :: (ta ++ (tc ++ c1 :: us))) = listS size f d [wEnd] us [] >>= fun p => .ok (.mk 3 [] n.text a c [] p.1 [], p.2.2) := by
  rw [loopS, need_ok h2, ok_bind]
  cases ha with
  | no =>
    obtain rfl := List.map_eq_nil_iff.1 hka
    cases hc with
    | no =>
      obtain rfl := List.map_eq_nil_iff.1 hkc
      simp only [List.nil_append, h7]
      rw [if_neg (by decide), ok_bind]
      simp only [h7]
      rw [if_neg (by decide), ok_bind]
      simp only
      rw [need_ok h7, ok_bind]
    | yes w =>
      obtain ⟨t, r, rfl, h1, h⟩ := List.map_eq_cons_iff.1 hkc
      obtain rfl := List.map_eq_nil_iff.1 h
      simp only [kt, Prod.mk.injEq] at h1
      simp only [List.nil_append, List.cons_append, h1.1]
      rw [if_neg (by decide), ok_bind]
      simp only [h1.1]
      rw [if_pos trivial, ok_bind]
      simp only
      rw [need_ok h7, ok_bind, h1.2]
  | yes w =>
    obtain ⟨t, r, rfl, h1, h⟩ := List.map_eq_cons_iff.1 hka
    obtain rfl := List.map_eq_nil_iff.1 h
    simp only [kt, Prod.mk.injEq] at h1
    simp only [List.nil_append, List.cons_append, h1.1]
    rw [if_pos trivial, ok_bind, h1.2]
    cases hc with
    | no =>
      obtain rfl := List.map_eq_nil_iff.1 hkc
      simp only [List.nil_append, h7]
      rw [if_neg (by decide), ok_bind]
      simp only
      rw [need_ok h7, ok_bind]
    | yes w =>
      obtain ⟨t, r, rfl, h1, h⟩ := List.map_eq_cons_iff.1 hkc
      obtain rfl := List.map_eq_nil_iff.1 h
      simp only [kt, Prod.mk.injEq] at h1
      simp only [List.nil_append, List.cons_append, h1.1]
      rw [if_pos trivial, ok_bind]
      simp only
      rw [need_ok h7, ok_bind, h1.2]

theorem condS_head {n : Tk} {us : List Tk} {c1 : Tk} (h2 : n.kind = 2) (h7 : c1.kind = 7) :
    condS size (f + 1) d (n :: c1 :: us) = listS size f d [wElse, wEnd] us [] >>= fun p => if p.2.1 = wElse then listS size f d [wEnd] p.2.2 [] >>= fun q => .ok (.mk 4 [] n.text [] 0 [] p.1 q.1, q.2.2) else .ok (.mk 4 [] n.text [] 0 [] p.1 [], p.2.2) := by
  rw [condS, need_ok h2, ok_bind]
  simp only
  rw [need_ok h7, ok_bind]

theorem map_app {ts : List Tk} {a b : List KT} (h : ts.map kt = a ++ b) : ∃ t1 t2, ts = t1 ++ t2 ∧ t1.map kt = a ∧ t2.map kt = b := List.map_eq_append_iff.1 h
theorem map_cons {ts : List Tk} {k : Nat} {t : Bs} {b : List KT} (h : ts.map kt = (k, t) :: b) : ∃ x r, ts = x :: r ∧ x.kind = k ∧ x.text = t ∧ r.map kt = b := by
  obtain ⟨x, r, e, h1, h2⟩ := List.map_eq_cons_iff.1 h
  simp only [kt, Prod.mk.injEq] at h1
  exact ⟨x, r, e, h1.1, h1.2, h2⟩

/-- The parser runs over the tokens of a list of nodes. -/
theorem listS_PNs {d : Nat} {k : List KT} {l : List Nd} (h : PNs d k l) : ∀ (ts us : List Tk), ts.map kt = k → ∀ (f : Nat) (ws : List Bs) (acc : List Nd), 2 * ts.length ≤ f + l.length → listS size (f + l.length) d ws (ts ++ us) acc = listS size f d ws us (acc ++ l) := by
  induction h with
  | nil =>
    intro ts us h f ws acc hf
    obtain rfl := List.map_eq_nil_iff.1 h
    simp
  | @text d t k' l' hk ih =>
    intro ts us h f ws acc hf
    obtain ⟨x, r, rfl, e1, e2, h⟩ := map_cons h
    simp only [List.length_cons] at hf
    rw [List.length_cons, ← Nat.add_assoc, List.cons_append, listS_text e1, ih r us h f ws _ (by omega), e2]
    simp
  | @field d o n kf c fl k' l' a b c' e' hk ih =>
    intro ts us h f ws acc hf
    obtain ⟨to, r, rfl, eo, -, h⟩ := map_cons h
    obtain ⟨tn, r, rfl, en, en2, h⟩ := map_cons h
    obtain ⟨tf, r, rfl, hf1, h⟩ := map_app h
    obtain ⟨tc, r, rfl, ec, -, h⟩ := map_cons h
    have hl := e'.len
    rw [← hf1, List.length_map] at hl
    simp only [List.length_cons, List.length_append] at hf
    simp only [List.cons_append, List.append_assoc]
    rw [List.length_cons, ← Nat.add_assoc, listS_field eo en (by rw [en2]; exact a) (by rw [en2]; exact b) (by rw [en2]; exact c') e' hf1 ec (by omega), ih r us h f ws _ (by omega), en2]
    simp
  | @incl d o m c k' l' hk ih =>
    intro ts us h f ws acc hf
    obtain ⟨to, r, rfl, eo, -, h⟩ := map_cons h
    obtain ⟨tn, r, rfl, en, en2, h⟩ := map_cons h
    obtain ⟨tm, r, rfl, em, em2, h⟩ := map_cons h
    obtain ⟨tc, r, rfl, ec, -, h⟩ := map_cons h
    simp only [List.length_cons] at hf
    simp only [List.cons_append]
    rw [List.length_cons, ← Nat.add_assoc, listS_incl eo en en2 em ec, ih r us h f ws _ (by omega), em2]
    simp
  | @loop d o n ka a kc c c1 k0 ks o2 c2 k' l' h1 h2 h3 h4 h5 ih1 ih =>
    intro ts us h f ws acc hf
    obtain ⟨to, r, rfl, eo, -, h⟩ := map_cons h
    obtain ⟨tn, r, rfl, en, en2, h⟩ := map_cons h
    obtain ⟨tm, r, rfl, em, em2, h⟩ := map_cons h
    obtain ⟨ta, r, rfl, hta, h⟩ := map_app h
    obtain ⟨tc, r, rfl, htc, h⟩ := map_app h
    obtain ⟨tc1, r, rfl, ec1, -, h⟩ := map_cons h
    obtain ⟨t0, r, rfl, ht0, h⟩ := map_app h
    obtain ⟨to2, r, rfl, eo2, -, h⟩ := map_cons h
    obtain ⟨tw, r, rfl, ew, ew2, h⟩ := map_cons h
    obtain ⟨tc2, r, rfl, ec2, -, h⟩ := map_cons h
    have hl0 := h4.len
    rw [← ht0, List.length_map] at hl0
    simp only [List.length_cons, List.length_append] at hf
    simp only [List.cons_append, List.append_assoc]
    obtain ⟨g, hg⟩ : ∃ g, f + l'.length = g + 1 := ⟨f + l'.length - 1, by omega⟩
    obtain ⟨g', hg'⟩ : ∃ g', g = (g' + 1) + ks.length := ⟨g - ks.length - 1, by omega⟩
    rw [List.length_cons, ← Nat.add_assoc, listS_for eo en en2 (by omega)]
    have e : loopS size (f + l'.length) (d + 1) (tm :: (ta ++ (tc ++ tc1 :: (t0 ++ to2 :: tw :: tc2 :: (r ++ us))))) = .ok (.mk 3 [] n a c [] ks [], r ++ us) := by
      rw [hg, loopS_args em h2 h3 hta htc ec1, hg', ih1 t0 _ ht0 (g' + 1) [wEnd] [] (by omega), listS_word eo2 ew ec2 (by rw [ew2]; simp) (by rw [ew2]; simp), ok_bind, em2]
      simp
    rw [e, ok_bind]
    simp only
    rw [ih r us h f ws _ (by omega)]
    simp
  | @cond d o n c1 k0 ks o2 c2 k' l' h1 h4 h5 ih1 ih =>
    intro ts us h f ws acc hf
    obtain ⟨to, r, rfl, eo, -, h⟩ := map_cons h
    obtain ⟨tn, r, rfl, en, en2, h⟩ := map_cons h
    obtain ⟨tm, r, rfl, em, em2, h⟩ := map_cons h
    obtain ⟨tc1, r, rfl, ec1, -, h⟩ := map_cons h
    obtain ⟨t0, r, rfl, ht0, h⟩ := map_app h
    obtain ⟨to2, r, rfl, eo2, -, h⟩ := map_cons h
    obtain ⟨tw, r, rfl, ew, ew2, h⟩ := map_cons h
    obtain ⟨tc2, r, rfl, ec2, -, h⟩ := map_cons h
    have hl0 := h4.len
    rw [← ht0, List.length_map] at hl0
    simp only [List.length_cons, List.length_append] at hf
    simp only [List.cons_append, List.append_assoc]
    obtain ⟨g, hg⟩ : ∃ g, f + l'.length = g + 1 := ⟨f + l'.length - 1, by omega⟩
    obtain ⟨g', hg'⟩ : ∃ g', g = (g' + 1) + ks.length := ⟨g - ks.length - 1, by omega⟩
    rw [List.length_cons, ← Nat.add_assoc, listS_if eo en en2 (by omega)]
    have e : condS size (f + l'.length) (d + 1) (tm :: tc1 :: (t0 ++ to2 :: tw :: tc2 :: (r ++ us))) = .ok (.mk 4 [] n [] 0 [] ks [], r ++ us) := by
      rw [hg, condS_head em ec1, hg', ih1 t0 _ ht0 (g' + 1) _ [] (by omega), listS_word eo2 ew ec2 (by rw [ew2]; simp) (by rw [ew2]; simp), ok_bind, em2]
      simp only [List.nil_append]
      rw [if_neg (by rw [ew2]; decide)]
    rw [e, ok_bind]
    simp only
    rw [ih r us h f ws _ (by omega)]
    simp
  | @conde d o n c1 k0 ks o2 c2 k1 es o3 c3 k' l' h1 h4 h4' h5 ih1 ih2 ih =>
    intro ts us h f ws acc hf
    obtain ⟨to, r, rfl, eo, -, h⟩ := map_cons h
    obtain ⟨tn, r, rfl, en, en2, h⟩ := map_cons h
    obtain ⟨tm, r, rfl, em, em2, h⟩ := map_cons h
    obtain ⟨tc1, r, rfl, ec1, -, h⟩ := map_cons h
    obtain ⟨t0, r, rfl, ht0, h⟩ := map_app h
    obtain ⟨to2, r, rfl, eo2, -, h⟩ := map_cons h
    obtain ⟨tw, r, rfl, ew, ew2, h⟩ := map_cons h
    obtain ⟨tc2, r, rfl, ec2, -, h⟩ := map_cons h
    obtain ⟨t1, r, rfl, ht1, h⟩ := map_app h
    obtain ⟨to3, r, rfl, eo3, -, h⟩ := map_cons h
    obtain ⟨tw3, r, rfl, ew3, ew32, h⟩ := map_cons h
    obtain ⟨tc3, r, rfl, ec3, -, h⟩ := map_cons h
    have hl0 := h4.len
    rw [← ht0, List.length_map] at hl0
    have hl1 := h4'.len
    rw [← ht1, List.length_map] at hl1
    simp only [List.length_cons, List.length_append] at hf
    simp only [List.cons_append, List.append_assoc]
    obtain ⟨g, hg⟩ : ∃ g, f + l'.length = g + 1 := ⟨f + l'.length - 1, by omega⟩
    obtain ⟨g', hg'⟩ : ∃ g', g = (g' + 1) + ks.length := ⟨g - ks.length - 1, by omega⟩
    obtain ⟨g2, hg2⟩ : ∃ g2, g = (g2 + 1) + es.length := ⟨g - es.length - 1, by omega⟩
    rw [List.length_cons, ← Nat.add_assoc, listS_if eo en en2 (by omega)]
    have e1 : listS size g (d + 1) [wElse, wEnd] (t0 ++ to2 :: tw :: tc2 :: (t1 ++ to3 :: tw3 :: tc3 :: (r ++ us))) [] = .ok (ks, wElse, t1 ++ to3 :: tw3 :: tc3 :: (r ++ us)) := by
      rw [hg', ih1 t0 _ ht0 (g' + 1) _ [] (by omega), listS_word eo2 ew ec2 (by rw [ew2]; simp) (by rw [ew2]; simp), ew2]
      simp
    have e2 : listS size g (d + 1) [wEnd] (t1 ++ to3 :: tw3 :: tc3 :: (r ++ us)) [] = .ok (es, wEnd, r ++ us) := by
      rw [hg2, ih2 t1 _ ht1 (g2 + 1) _ [] (by omega), listS_word eo3 ew3 ec3 (by rw [ew32]; simp) (by rw [ew32]; simp), ew32]
      simp
    have e : condS size (f + l'.length) (d + 1) (tm :: tc1 :: (t0 ++ to2 :: tw :: tc2 :: (t1 ++ to3 :: tw3 :: tc3 :: (r ++ us)))) = .ok (.mk 4 [] n [] 0 [] ks es, r ++ us) := by
      rw [hg, condS_head em ec1, e1, ok_bind]
      simp only
      rw [if_pos trivial, e2, ok_bind, em2]
    rw [e, ok_bind]
    simp only
    rw [ih r us h f ws _ (by omega)]
    simp
end Tpl
/-
  The theory of the parser, in plain Lean: what is accepted, and what is not.
-/
namespace Tpl
variable {size : Nat}

theorem need_inv {k : Nat} {ts : List Tk} {t : Tk} {r : List Tk} (h : need size k ts = .ok (t, r)) : ts = t :: r ∧ t.kind = k := by
  cases ts with
  | nil => simp [need] at h
  | cons a b =>
    rw [need] at h
    split at h
    · rename_i hk
      injection h with h; injection h with h1 h2
      subst h1; subst h2
      exact ⟨rfl, hk⟩
    · simp at h

theorem filtersS_inv : ∀ (f : Nat) (ts : List Tk) (a fl : List Bs) (rest : List Tk), filtersS size f ts a = .ok (fl, rest) → ∃ t0 fl', ts = t0 ++ rest ∧ Flt (t0.map kt) fl' ∧ fl = a ++ fl'
  | 0, _, _, _, _, h => by simp [filtersS] at h
  | f + 1, [], a, fl, rest, h => by
    simp only [filtersS] at h
    injection h with h; injection h with h1 h2
    subst h1; subst h2
    exact ⟨[], [], rfl, .nil, by simp⟩
  | f + 1, t :: r, a, fl, rest, h => by
    rw [filtersS] at h
    simp only at h
    split at h
    · rename_i h5
      replace h := bind_ok h; obtain ⟨⟨n, r'⟩, hn, h⟩ := h
      obtain ⟨rfl, hk⟩ := need_inv hn
      obtain ⟨t0, fl', rfl, hf, rfl⟩ := filtersS_inv f _ _ _ _ h
      refine ⟨t :: n :: t0, n.text :: fl', rfl, ?_, by simp⟩
      have := Flt.cons (p := t.text) (x := n.text) hf
      simpa [kt, h5, hk] using this
    · injection h with h; injection h with h1 h2
      subst h1; subst h2
      exact ⟨[], [], rfl, .nil, by simp⟩

def argP (r : List Tk) : Except Nat (Bs × List Tk) := match r with
  | t :: r' => if t.kind = 4 then .ok (t.text, r') else .ok ([], t :: r')
  | [] => .ok ([], [])
def cntP (r : List Tk) : Except Nat (Int × List Tk) := match r with
  | t :: r' => if t.kind = 3 then .ok (num t.text, r') else .ok (0, t :: r')
  | [] => .ok (0, [])
theorem loopS_eq (f d : Nat) (ts : List Tk) : loopS size (f + 1) d ts = need size 2 ts >>= fun p => argP p.2 >>= fun q => cntP q.2 >>= fun u => need size 7 u.2 >>= fun v => listS size f d [wEnd] v.2 [] >>= fun k => .ok (.mk 3 [] p.1.text q.1 u.1 [] k.1 [], k.2.2) := by
  rw [loopS]
  congr 1
  funext ⟨n, r⟩
  unfold argP
  rcases r with _ | ⟨t, r'⟩
  · rfl
  · simp only
    split
    · simp only [ok_bind]
      unfold cntP
      rcases r' with _ | ⟨t2, r2⟩
      · rfl
      · simp only
        split <;> rfl
    · simp only [ok_bind]
      unfold cntP
      simp only
      split <;> rfl

theorem loopS_inv {f d : Nat} {ts : List Tk} {nd : Nd} {rest : List Tk} (h : loopS size (f + 1) d ts = .ok (nd, rest)) : ∃ n ta a tc c c1 us ks w, ts = n :: (ta ++ (tc ++ c1 :: us)) ∧ n.kind = 2 ∧ ArgK (ta.map kt) a ∧ CntK (tc.map kt) c ∧ c1.kind = 7 ∧ listS size f d [wEnd] us [] = .ok (ks, w, rest) ∧ nd = .mk 3 [] n.text a c [] ks [] := by
  rw [loopS_eq] at h
  replace h := bind_ok h; obtain ⟨⟨n, r⟩, hn, h⟩ := h
  obtain ⟨rfl, hk⟩ := need_inv hn
  simp only at h
  replace h := bind_ok h; obtain ⟨⟨a, r1⟩, ha, h⟩ := h
  replace h := bind_ok h; obtain ⟨⟨c, r2⟩, hc, h⟩ := h
  replace h := bind_ok h; obtain ⟨⟨c1, us⟩, h7, h⟩ := h
  simp only at hc h7 h
  obtain ⟨rfl, hk7⟩ := need_inv h7
  replace h := bind_ok h; obtain ⟨⟨ks, w, r3⟩, hl, h⟩ := h
  simp only at h
  injection h with h; injection h with h1 h2
  subst h2
  have hA : ∃ ta, r = ta ++ r1 ∧ ArgK (ta.map kt) a := by
    unfold argP at ha
    split at ha
    · rename_i t r'
      split at ha
      · rename_i h4
        injection ha with ha; injection ha with e1 e2
        subst e2
        refine ⟨[t], rfl, ?_⟩
        have := ArgK.yes t.text
        rw [e1] at this
        simpa [kt, h4, e1] using this
      · injection ha with ha; injection ha with e1 e2
        subst e1; subst e2
        exact ⟨[], rfl, .no⟩
    · injection ha with ha; injection ha with e1 e2
      subst e1; subst e2
      exact ⟨[], rfl, .no⟩
  have hC : ∃ tc, r1 = tc ++ c1 :: us ∧ CntK (tc.map kt) c := by
    unfold cntP at hc
    split at hc
    · rename_i t r'
      split at hc
      · rename_i h4
        injection hc with hc; injection hc with e1 e2
        subst e2
        refine ⟨[t], rfl, ?_⟩
        have := CntK.yes t.text
        rw [e1] at this
        simpa [kt, h4] using this
      · injection hc with hc; injection hc with e1 e2
        subst e1
        exact ⟨[], by simpa using e2, .no⟩
    · injection hc with hc; injection hc with e1 e2
      simp at e2
  obtain ⟨ta, rfl, hA⟩ := hA
  obtain ⟨tc, rfl, hC⟩ := hC
  exact ⟨n, ta, a, tc, c, c1, us, ks, w, rfl, hk, hA, hC, hk7, hl, h1.symm⟩

theorem condS_inv {f d : Nat} {ts : List Tk} {nd : Nd} {rest : List Tk} (h : condS size (f + 1) d ts = .ok (nd, rest)) : ∃ n c1 us ks w r1, ts = n :: c1 :: us ∧ n.kind = 2 ∧ c1.kind = 7 ∧ listS size f d [wElse, wEnd] us [] = .ok (ks, w, r1) ∧
    ((w = wElse ∧ ∃ es w2, listS size f d [wEnd] r1 [] = .ok (es, w2, rest) ∧ nd = .mk 4 [] n.text [] 0 [] ks es) ∨ (¬ w = wElse ∧ rest = r1 ∧ nd = .mk 4 [] n.text [] 0 [] ks [])) := by
  rw [condS] at h
  replace h := bind_ok h; obtain ⟨⟨n, r⟩, hn, h⟩ := h
  obtain ⟨rfl, hk⟩ := need_inv hn
  simp only at h
  replace h := bind_ok h; obtain ⟨⟨c1, us⟩, h7, h⟩ := h
  obtain ⟨rfl, hk7⟩ := need_inv h7
  simp only at h
  replace h := bind_ok h; obtain ⟨⟨ks, w, r1⟩, hl, h⟩ := h
  simp only at h
  refine ⟨n, c1, us, ks, w, r1, rfl, hk, hk7, hl, ?_⟩
  split at h
  · rename_i hw
    replace h := bind_ok h; obtain ⟨⟨es, w2, r2⟩, hl2, h⟩ := h
    simp only at h
    injection h with h; injection h with h1 h2
    subst h2
    exact .inl ⟨hw, es, w2, hl2, h1.symm⟩
  · rename_i hw
    injection h with h; injection h with h1 h2
    exact .inr ⟨hw, h2.symm, h1.symm⟩

theorem tagS_eq (f d : Nat) (ws : List Bs) (o n : Tk) (r2 : List Tk) (acc : List Nd) : tagS size f d ws o n r2 acc =
  if n.text = wElse ∨ n.text = wEnd then
    if n.text ∈ ws then need size 7 r2 >>= fun p => .ok (acc, n.text, p.2) else .error n.off
  else if n.text = wFor ∨ n.text = wIf then
    if d = 8 then .error o.off
    else (if n.text = wFor then loopS size f (d + 1) r2 else condS size f (d + 1) r2) >>= fun p => listS size f d ws p.2 (acc ++ [p.1])
  else if n.text = wInclude then need size 2 r2 >>= fun p => need size 7 p.2 >>= fun q => listS size f d ws q.2 (acc ++ [.mk 5 [] p.1.text [] 0 [] [] []])
  else filtersS size f r2 [] >>= fun p => need size 7 p.2 >>= fun q => listS size f d ws q.2 (acc ++ [.mk 2 [] n.text [] 0 p.1 [] []]) := by
  unfold tagS
  split
  · rfl
  · split
    · split
      · rfl
      · split <;> rfl
    · split <;> rfl

/-- How a list ends. -/
def EndS (ws : List Bs) (t1 rest : List Tk) (w : Bs) : Prop :=
  (ws = [] ∧ t1 = [] ∧ rest = [] ∧ w = []) ∨ (∃ o n c, t1 = o :: n :: c :: rest ∧ o.kind = 6 ∧ n.kind = 2 ∧ c.kind = 7 ∧ n.text = w ∧ w ∈ ws)

theorem EndS.one {t1 rest : List Tk} {w : Bs} (h : EndS [wEnd] t1 rest w) : ∃ o n c, t1 = o :: n :: c :: rest ∧ kt o = (6, o.text) ∧ kt n = (2, wEnd) ∧ kt c = (7, c.text) := by
  rcases h with ⟨h, _⟩ | ⟨o, n, c, h1, h2, h3, h4, h5, h6⟩
  · simp at h
  · have h6 : w = wEnd := by simpa using h6
    exact ⟨o, n, c, h1, by rw [kt, h2], by rw [kt, h3, h5, h6], by rw [kt, h4]⟩
theorem EndS.two {t1 rest : List Tk} {w : Bs} (h : EndS [wElse, wEnd] t1 rest w) : ∃ o n c, t1 = o :: n :: c :: rest ∧ kt o = (6, o.text) ∧ kt n = (2, w) ∧ kt c = (7, c.text) ∧ (w = wElse ∨ w = wEnd) := by
  rcases h with ⟨h, _⟩ | ⟨o, n, c, h1, h2, h3, h4, h5, h6⟩
  · simp at h
  · exact ⟨o, n, c, h1, by rw [kt, h2], by rw [kt, h3, h5], by rw [kt, h4], by simpa using h6⟩

/-- What the parser accepts is a list of nodes by the grammar. -/
theorem listS_inv : ∀ (f d : Nat) (ws : List Bs) (ts : List Tk) (acc l' : List Nd) (w : Bs) (rest : List Tk), d ≤ 8 → listS size f d ws ts acc = .ok (l', w, rest) → ∃ l t0 t1, l' = acc ++ l ∧ ts = t0 ++ t1 ∧ PNs d (t0.map kt) l ∧ EndS ws t1 rest w := by
  intro f
  induction f using Nat.strongRecOn with
  | _ f IH =>
  intro d ws ts acc l' w rest hd h
  match f, IH, h with
  | 0, _, h => simp [listS] at h
  | f + 1, IH, h =>
    match ts, h with
    | [], h =>
      rw [listS] at h
      split at h
      · rename_i hw
        injection h with h; injection h with h1 h; injection h with h2 h3
        exact ⟨[], [], [], by rw [h1, List.append_nil], rfl, .nil, .inl ⟨by simpa using hw, rfl, h3.symm, h2.symm⟩⟩
      · simp at h
    | t :: r, h =>
      by_cases h1 : t.kind = 1
      · rw [listS_text h1] at h
        obtain ⟨l, t0, t1, e1, e2, hp, he⟩ := IH f (by omega) d ws r _ _ _ _ hd h
        subst e1; subst e2
        refine ⟨_, t :: t0, t1, by rw [List.append_assoc], rfl, ?_, he⟩
        have := PNs.text (t := t.text) hp
        simpa [kt, h1] using this
      · have hh : ∃ n r2, r = n :: r2 ∧ t.kind = 6 ∧ n.kind = 2 := by
          rw [listS] at h
          simp only [if_neg h1] at h
          replace h := bind_ok h; obtain ⟨⟨o, r1⟩, ho, h⟩ := h
          replace h := bind_ok h; obtain ⟨⟨n, r2⟩, hn, h⟩ := h
          obtain ⟨e1, h6⟩ := need_inv ho
          injection e1 with e1 e2
          subst e1; subst e2
          obtain ⟨e1, h2⟩ := need_inv hn
          exact ⟨n, r2, e1, h6, h2⟩
        obtain ⟨n, r2, rfl, h6, h2⟩ := hh
        rw [listS_tag h6 h2, tagS_eq] at h
        have ko : kt t = (6, t.text) := by rw [kt, h6]
        have kn : kt n = (2, n.text) := by rw [kt, h2]
        split at h
        · rename_i hw
          split at h
          · rename_i hm
            replace h := bind_ok h; obtain ⟨⟨c, r3⟩, hc, h⟩ := h
            obtain ⟨rfl, h7⟩ := need_inv hc
            simp only at h
            injection h with h; injection h with e1 h; injection h with e2 e3
            subst e3
            exact ⟨[], [], _, by simp [e1], rfl, .nil, .inr ⟨t, n, c, rfl, h6, h2, h7, e2, by rw [← e2]; exact hm⟩⟩
          · simp at h
        · rename_i hw
          split at h
          · rename_i hfi
            split at h
            · simp at h
            · rename_i hd8
              replace h := bind_ok h; obtain ⟨⟨nd, r3⟩, hb, h⟩ := h
              simp only at h
              obtain ⟨l, t0, t1, rfl, rfl, hp, he⟩ := IH f (by omega) d ws r3 _ _ _ _ hd h
              split at hb
              · rename_i hfor
                match f, IH, hb with
                | 0, _, hb => simp [loopS] at hb
                | f + 1, IH, hb =>
                  obtain ⟨m, ta, a, tc, c, c1, us, ks, w', rfl, hm, hA, hC, h7, hl, rfl⟩ := loopS_inv hb
                  obtain ⟨ks', u0, u1, e1, rfl, hpk, hek⟩ := IH f (by omega) (d + 1) _ us _ _ _ _ (by omega) hl
                  obtain ⟨o2, n2, c2, rfl, k1, k2, k3⟩ := hek.one
                  rw [List.nil_append] at e1
                  subst e1
                  refine ⟨.mk 3 [] m.text a c [] ks [] :: l, t :: n :: m :: (ta ++ (tc ++ c1 :: (u0 ++ o2 :: n2 :: c2 :: t0))), t1, by simp, by simp, ?_, he⟩
                  have := PNs.loop (o := t.text) (n := m.text) (c1 := c1.text) (o2 := o2.text) (c2 := c2.text) (by omega) hA hC hpk hp
                  simpa [ko, kn, hfor, k1, k2, k3, show kt m = (2, m.text) by rw [kt, hm], show kt c1 = (7, c1.text) by rw [kt, h7]] using this
              · rename_i hfor
                have hif : n.text = wIf := hfi.resolve_left hfor
                match f, IH, hb with
                | 0, _, hb => simp [condS] at hb
                | f + 1, IH, hb =>
                  obtain ⟨m, c1, us, ks, w', r1, rfl, hm, h7, hl, hr⟩ := condS_inv hb
                  obtain ⟨ks', u0, u1, e1, rfl, hpk, hek⟩ := IH f (by omega) (d + 1) _ us _ _ _ _ (by omega) hl
                  obtain ⟨o2, n2, c2, rfl, k1, k2, k3, k4⟩ := hek.two
                  rw [List.nil_append] at e1
                  subst e1
                  have km : kt m = (2, m.text) := by rw [kt, hm]
                  have kc : kt c1 = (7, c1.text) := by rw [kt, h7]
                  rcases hr with ⟨hw', es, w2, hl2, rfl⟩ | ⟨hw', rfl, rfl⟩
                  · obtain ⟨es', v0, v1, e1, rfl, hpe, hee⟩ := IH f (by omega) (d + 1) _ r1 _ _ _ _ (by omega) hl2
                    obtain ⟨o3, n3, c3, rfl, j1, j2, j3⟩ := hee.one
                    rw [List.nil_append] at e1
                    subst e1
                    refine ⟨.mk 4 [] m.text [] 0 [] ks es :: l, t :: n :: m :: c1 :: (u0 ++ o2 :: n2 :: c2 :: (v0 ++ o3 :: n3 :: c3 :: t0)), t1, by simp, by simp, ?_, he⟩
                    have := PNs.conde (o := t.text) (n := m.text) (c1 := c1.text) (o2 := o2.text) (c2 := c2.text) (o3 := o3.text) (c3 := c3.text) (by omega) hpk hpe hp
                    simpa [ko, kn, hif, k1, k2, k3, km, kc, hw', j1, j2, j3] using this
                  · have hw2 : w' = wEnd := k4.resolve_left hw'
                    refine ⟨.mk 4 [] m.text [] 0 [] ks [] :: l, t :: n :: m :: c1 :: (u0 ++ o2 :: n2 :: c2 :: t0), t1, by simp, by simp, ?_, he⟩
                    have := PNs.cond (o := t.text) (n := m.text) (c1 := c1.text) (o2 := o2.text) (c2 := c2.text) (by omega) hpk hp
                    simpa [ko, kn, hif, k1, k2, k3, km, kc, hw2] using this
          · rename_i hfi
            split at h
            · rename_i hin
              replace h := bind_ok h; obtain ⟨⟨m, r3⟩, hm, h⟩ := h
              obtain ⟨rfl, hk2⟩ := need_inv hm
              simp only at h
              replace h := bind_ok h; obtain ⟨⟨c, r4⟩, hc, h⟩ := h
              obtain ⟨rfl, hk7⟩ := need_inv hc
              simp only at h
              obtain ⟨l, t0, t1, rfl, rfl, hp, he⟩ := IH f (by omega) d ws r4 _ _ _ _ hd h
              refine ⟨.mk 5 [] m.text [] 0 [] [] [] :: l, t :: n :: m :: c :: t0, t1, by simp, by simp, ?_, he⟩
              have := PNs.incl (o := t.text) (m := m.text) (c := c.text) hp
              simpa [ko, kn, hin, show kt m = (2, m.text) by rw [kt, hk2], show kt c = (7, c.text) by rw [kt, hk7]] using this
            · rename_i hin
              replace h := bind_ok h; obtain ⟨⟨fl, r3⟩, hf, h⟩ := h
              simp only at h
              replace h := bind_ok h; obtain ⟨⟨c, r4⟩, hc, h⟩ := h
              obtain ⟨rfl, hk7⟩ := need_inv hc
              simp only at h
              obtain ⟨tf, fl', rfl, hF, e1⟩ := filtersS_inv f _ _ _ _ hf
              rw [List.nil_append] at e1
              subst e1
              obtain ⟨l, t0, t1, rfl, rfl, hp, he⟩ := IH f (by omega) d ws r4 _ _ _ _ hd h
              refine ⟨.mk 2 [] n.text [] 0 fl [] [] :: l, t :: n :: (tf ++ c :: t0), t1, by simp, by simp, ?_, he⟩
              have := PNs.field (o := t.text) (n := n.text) (c := c.text) hw hfi hin hF hp
              simpa [ko, kn, show kt c = (7, c.text) by rw [kt, hk7]] using this

/-- No token of the kind 0. -/
theorem Flt.ne {k : List KT} {f : List Bs} (h : Flt k f) : ∀ x ∈ k, x.1 ≠ 0 := by
  induction h with
  | nil => simp
  | cons _ ih => simp only [List.forall_mem_cons]; exact ⟨by simp, by simp, ih⟩
theorem ArgK.ne {k : List KT} {f : Bs} (h : ArgK k f) : ∀ x ∈ k, x.1 ≠ 0 := by cases h <;> simp
theorem CntK.ne {k : List KT} {f : Int} (h : CntK k f) : ∀ x ∈ k, x.1 ≠ 0 := by cases h <;> simp
theorem PNs.ne {d : Nat} {k : List KT} {l : List Nd} (h : PNs d k l) : ∀ x ∈ k, x.1 ≠ 0 := by
  induction h with
  | nil => simp
  | text _ ih => simp only [List.forall_mem_cons]; exact ⟨by simp, ih⟩
  | field _ _ _ hf _ ih => simp only [List.forall_mem_cons, List.forall_mem_append]; exact ⟨by simp, by simp, hf.ne, by simp, ih⟩
  | incl _ ih => simp only [List.forall_mem_cons]; exact ⟨by simp, by simp, by simp, by simp, ih⟩
  | loop _ ha hc _ _ ih1 ih => simp only [List.forall_mem_cons, List.forall_mem_append]; exact ⟨by simp, by simp, by simp, ha.ne, hc.ne, by simp, ih1, by simp, by simp, by simp, ih⟩
  | cond _ _ _ ih1 ih => simp only [List.forall_mem_cons, List.forall_mem_append]; exact ⟨by simp, by simp, by simp, by simp, ih1, by simp, by simp, by simp, ih⟩
  | conde _ _ _ _ ih1 ih2 ih => simp only [List.forall_mem_cons, List.forall_mem_append]; exact ⟨by simp, by simp, by simp, by simp, ih1, by simp, by simp, by simp, ih2, by simp, by simp, by simp, ih⟩

theorem tokens_ok {s : Bs} (h : s.length ≤ 1000) (hn : ∀ t ∈ lexS s 0 none, t.kind ≠ 0) : tokens s = .ok (lexS s 0 none) := by
  unfold tokens
  rw [if_neg (by omega)]
  have : (scan (s.length + 1) s 0 none).find? (fun t => decide (t.kind = 0)) = none := by
    rw [List.find?_eq_none]
    intro t ht
    simp only [decide_eq_true_eq]
    exact hn t ht
  simp only [this]
  rfl
theorem tokens_inv {s : Bs} {ts : List Tk} (h : tokens s = .ok ts) : s.length ≤ 1000 ∧ ts = lexS s 0 none ∧ ∀ t ∈ ts, t.kind ≠ 0 := by
  unfold tokens at h
  split at h
  · simp at h
  · rename_i hl
    simp only at h
    split at h
    · simp at h
    · rename_i hf
      injection h with h
      subst h
      rw [List.find?_eq_none] at hf
      refine ⟨by omega, rfl, fun t ht => ?_⟩
      have := hf t ht
      simpa using this

/-- A source is accepted with these nodes. -/
theorem parse_of {s : Bs} {l : List Nd} (h : s.length ≤ 1000) (hp : PNs 0 ((lexS s 0 none).map kt) l) : parse s = .ok l := by
  have hn : ∀ t ∈ lexS s 0 none, t.kind ≠ 0 := fun t ht => hp.ne (kt t) (List.mem_map_of_mem ht)
  unfold parse
  rw [tokens_ok h hn]
  simp only
  have hl := hp.len
  rw [List.length_map] at hl
  have e := listS_PNs (size := s.length) hp (lexS s 0 none) [] rfl (3 * (lexS s 0 none).length + 3 - l.length) [] [] (by omega)
  rw [show 3 * (lexS s 0 none).length + 3 - l.length + l.length = 3 * (lexS s 0 none).length + 3 by omega, List.append_nil] at e
  rw [e]
  obtain ⟨g, hg⟩ : ∃ g, 3 * (lexS s 0 none).length + 3 - l.length = g + 1 := ⟨_, (Nat.succ_pred_eq_of_pos (by omega)).symm⟩
  rw [hg, listS]
  rfl
theorem parse_inv {s : Bs} {l : List Nd} (h : parse s = .ok l) : s.length ≤ 1000 ∧ PNs 0 ((lexS s 0 none).map kt) l := by
  unfold parse at h
  split at h
  · simp at h
  · rename_i ts ht
    obtain ⟨h1, rfl, -⟩ := tokens_inv ht
    split at h
    · simp at h
    · rename_i l2 w rest hl
      injection h with h
      subst h
      obtain ⟨l, t0, t1, e1, e2, hp, he⟩ := listS_inv _ 0 [] _ _ _ _ _ (by omega) hl
      rcases he with ⟨-, rfl, -⟩ | ⟨o, n, c, -, -, -, -, -, hm⟩
      · rw [List.append_nil] at e2
        rw [e2]
        rw [List.nil_append] at e1
        rw [e1]
        exact ⟨h1, hp⟩
      · simp at hm

/-- An error of the parser. -/
theorem parse_err {s : Bs} {o : Nat} (h : s.length ≤ 1000) (hn : ∀ t ∈ lexS s 0 none, t.kind ≠ 0) (he : listS s.length (3 * (lexS s 0 none).length + 3) 0 [] (lexS s 0 none) [] = .error o) : parse s = .error (o, 100) := by
  unfold parse
  rw [tokens_ok h hn]
  simp only
  rw [he]

/-- What would be nested too deep is not accepted. -/
theorem PNs.deeper {d0 : Nat} {k : List KT} {l : List Nd} (h : PNs d0 k l) : ∀ d, d ≤ 8 → PNs d k l ∨ ∀ (ts us : List Tk), ts.map kt = k → ∀ (f : Nat) (ws : List Bs) (acc : List Nd), 2 * ts.length ≤ f → ∃ o, listS size (f + 1) d ws (ts ++ us) acc = .error o := by
  induction h with
  | nil => intro d _; exact .inl .nil
  | @text d0 t k' l' hk ih =>
    intro d hd
    rcases ih d hd with hp | hp
    · exact .inl (.text hp)
    · right
      intro ts us h f ws acc hf
      obtain ⟨x, r, rfl, e1, e2, h⟩ := map_cons h
      simp only [List.length_cons] at hf
      obtain ⟨f, rfl⟩ : ∃ g, f = g + 1 := ⟨f - 1, by omega⟩
      rw [List.cons_append, listS_text e1]
      exact hp r us h f ws _ (by omega)
  | @field d0 o n kf c fl k' l' a b c' e' hk ih =>
    intro d hd
    rcases ih d hd with hp | hp
    · exact .inl (.field a b c' e' hp)
    · right
      intro ts us h f ws acc hf
      obtain ⟨t1, t2, rfl, h1, h2⟩ := map_app (a := (6, o) :: (2, n) :: (kf ++ [(7, c)])) (b := k') (by simpa using h)
      have hl : 3 ≤ t1.length := by rw [← List.length_map (f := kt), h1]; simp
      rw [List.length_append] at hf
      obtain ⟨f, rfl⟩ : ∃ g, f = g + 1 := ⟨f - 1, by omega⟩
      have e := listS_PNs (size := size) (PNs.field (d := d) (o := o) (c := c) a b c' e' .nil) t1 (t2 ++ us) h1 (f + 1) ws acc (by simp only [List.length_cons, List.length_nil]; omega)
      simp only [List.length_cons, List.length_nil, Nat.zero_add] at e
      rw [List.append_assoc, e]
      exact hp t2 us h2 f ws _ (by omega)
  | @incl d0 o m c k' l' hk ih =>
    intro d hd
    rcases ih d hd with hp | hp
    · exact .inl (.incl hp)
    · right
      intro ts us h f ws acc hf
      obtain ⟨t1, t2, rfl, h1, h2⟩ := map_app (a := [(6, o), (2, wInclude), (2, m), (7, c)]) (b := k') (by simpa using h)
      have hl : 3 ≤ t1.length := by rw [← List.length_map (f := kt), h1]; simp
      rw [List.length_append] at hf
      obtain ⟨f, rfl⟩ : ∃ g, f = g + 1 := ⟨f - 1, by omega⟩
      have e := listS_PNs (size := size) (PNs.incl (d := d) (o := o) (c := c) (m := m) .nil) t1 (t2 ++ us) h1 (f + 1) ws acc (by simp only [List.length_cons, List.length_nil]; omega)
      simp only [List.length_cons, List.length_nil, Nat.zero_add] at e
      rw [List.append_assoc, e]
      exact hp t2 us h2 f ws _ (by omega)
  | @loop d0 o n ka a kc c c1 k0 ks o2 c2 k' l' h1 h2 h3 h4 h5 ih1 ih =>
    intro d hd
    by_cases hd8 : d = 8
    · right
      intro ts us h f ws acc hf
      obtain ⟨to, r, rfl, eo, -, h⟩ := map_cons h
      obtain ⟨tn, r, rfl, en, en2, h⟩ := map_cons h
      exact ⟨_, listS_deep eo en (.inl en2) hd8⟩
    · rcases ih1 (d + 1) (by omega) with hq | hq
      · rcases ih d hd with hp | hp
        · exact .inl (.loop (by omega) h2 h3 hq hp)
        · right
          intro ts us h f ws acc hf
          obtain ⟨t1, t2, rfl, g1, g2⟩ := map_app (a := (6, o) :: (2, wFor) :: (2, n) :: (ka ++ (kc ++ (7, c1) :: (k0 ++ [(6, o2), (2, wEnd), (7, c2)])))) (b := k') (by simpa using h)
          have hl : 3 ≤ t1.length := by rw [← List.length_map (f := kt), g1]; simp
          rw [List.length_append] at hf
          obtain ⟨f, rfl⟩ : ∃ g, f = g + 1 := ⟨f - 1, by omega⟩
          have e := listS_PNs (size := size) (PNs.loop (d := d) (o := o) (n := n) (c1 := c1) (o2 := o2) (c2 := c2) (by omega) h2 h3 hq .nil) t1 (t2 ++ us) g1 (f + 1) ws acc (by simp only [List.length_cons, List.length_nil]; omega)
          simp only [List.length_cons, List.length_nil, Nat.zero_add] at e
          rw [List.append_assoc, e]
          exact hp t2 us g2 f ws _ (by omega)
      · right
        intro ts us h f ws acc hf
        obtain ⟨to, r, rfl, eo, -, h⟩ := map_cons h
        obtain ⟨tn, r, rfl, en, en2, h⟩ := map_cons h
        obtain ⟨tm, r, rfl, em, em2, h⟩ := map_cons h
        obtain ⟨ta, r, rfl, hta, h⟩ := map_app h
        obtain ⟨tc, r, rfl, htc, h⟩ := map_app h
        obtain ⟨tc1, r, rfl, ec1, -, h⟩ := map_cons h
        obtain ⟨t0, r, rfl, ht0, h⟩ := map_app h
        simp only [List.length_cons, List.length_append] at hf
        obtain ⟨f, rfl⟩ : ∃ g, f = g + 2 := ⟨f - 2, by omega⟩
        obtain ⟨e, he⟩ := hq t0 (r ++ us) ht0 f [wEnd] [] (by omega)
        refine ⟨e, ?_⟩
        simp only [List.cons_append, List.append_assoc]
        rw [listS_for eo en en2 hd8, loopS_args em h2 h3 hta htc ec1, he]
        rfl
  | @cond d0 o n c1 k0 ks o2 c2 k' l' h1 h4 h5 ih1 ih =>
    intro d hd
    by_cases hd8 : d = 8
    · right
      intro ts us h f ws acc hf
      obtain ⟨to, r, rfl, eo, -, h⟩ := map_cons h
      obtain ⟨tn, r, rfl, en, en2, h⟩ := map_cons h
      exact ⟨_, listS_deep eo en (.inr en2) hd8⟩
    · rcases ih1 (d + 1) (by omega) with hq | hq
      · rcases ih d hd with hp | hp
        · exact .inl (.cond (by omega) hq hp)
        · right
          intro ts us h f ws acc hf
          obtain ⟨t1, t2, rfl, g1, g2⟩ := map_app (a := (6, o) :: (2, wIf) :: (2, n) :: (7, c1) :: (k0 ++ [(6, o2), (2, wEnd), (7, c2)])) (b := k') (by simpa using h)
          have hl : 3 ≤ t1.length := by rw [← List.length_map (f := kt), g1]; simp
          rw [List.length_append] at hf
          obtain ⟨f, rfl⟩ : ∃ g, f = g + 1 := ⟨f - 1, by omega⟩
          have e := listS_PNs (size := size) (PNs.cond (d := d) (o := o) (n := n) (c1 := c1) (o2 := o2) (c2 := c2) (by omega) hq .nil) t1 (t2 ++ us) g1 (f + 1) ws acc (by simp only [List.length_cons, List.length_nil]; omega)
          simp only [List.length_cons, List.length_nil, Nat.zero_add] at e
          rw [List.append_assoc, e]
          exact hp t2 us g2 f ws _ (by omega)
      · right
        intro ts us h f ws acc hf
        obtain ⟨to, r, rfl, eo, -, h⟩ := map_cons h
        obtain ⟨tn, r, rfl, en, en2, h⟩ := map_cons h
        obtain ⟨tm, r, rfl, em, em2, h⟩ := map_cons h
        obtain ⟨tc1, r, rfl, ec1, -, h⟩ := map_cons h
        obtain ⟨t0, r, rfl, ht0, h⟩ := map_app h
        simp only [List.length_cons, List.length_append] at hf
        obtain ⟨f, rfl⟩ : ∃ g, f = g + 2 := ⟨f - 2, by omega⟩
        obtain ⟨e, he⟩ := hq t0 (r ++ us) ht0 f [wElse, wEnd] [] (by omega)
        refine ⟨e, ?_⟩
        simp only [List.cons_append, List.append_assoc]
        rw [listS_if eo en en2 hd8, condS_head em ec1, he]
        rfl
  | @conde d0 o n c1 k0 ks o2 c2 k1 es o3 c3 k' l' h1 h4 h4' h5 ih1 ih2 ih =>
    intro d hd
    by_cases hd8 : d = 8
    · right
      intro ts us h f ws acc hf
      obtain ⟨to, r, rfl, eo, -, h⟩ := map_cons h
      obtain ⟨tn, r, rfl, en, en2, h⟩ := map_cons h
      exact ⟨_, listS_deep eo en (.inr en2) hd8⟩
    · rcases ih1 (d + 1) (by omega) with hq | hq
      · rcases ih2 (d + 1) (by omega) with hq2 | hq2
        · rcases ih d hd with hp | hp
          · exact .inl (.conde (by omega) hq hq2 hp)
          · right
            intro ts us h f ws acc hf
            obtain ⟨t1, t2, rfl, g1, g2⟩ := map_app (a := (6, o) :: (2, wIf) :: (2, n) :: (7, c1) :: (k0 ++ (6, o2) :: (2, wElse) :: (7, c2) :: (k1 ++ [(6, o3), (2, wEnd), (7, c3)]))) (b := k') (by simpa using h)
            have hl : 3 ≤ t1.length := by rw [← List.length_map (f := kt), g1]; simp
            rw [List.length_append] at hf
            obtain ⟨f, rfl⟩ : ∃ g, f = g + 1 := ⟨f - 1, by omega⟩
            have e := listS_PNs (size := size) (PNs.conde (d := d) (o := o) (n := n) (c1 := c1) (o2 := o2) (c2 := c2) (o3 := o3) (c3 := c3) (by omega) hq hq2 .nil) t1 (t2 ++ us) g1 (f + 1) ws acc (by simp only [List.length_cons, List.length_nil]; omega)
            simp only [List.length_cons, List.length_nil, Nat.zero_add] at e
            rw [List.append_assoc, e]
            exact hp t2 us g2 f ws _ (by omega)
        · right
          intro ts us h f ws acc hf
          obtain ⟨to, r, rfl, eo, -, h⟩ := map_cons h
          obtain ⟨tn, r, rfl, en, en2, h⟩ := map_cons h
          obtain ⟨tm, r, rfl, em, em2, h⟩ := map_cons h
          obtain ⟨tc1, r, rfl, ec1, -, h⟩ := map_cons h
          obtain ⟨t0, r, rfl, ht0, h⟩ := map_app h
          obtain ⟨to2, r, rfl, eo2, -, h⟩ := map_cons h
          obtain ⟨tw, r, rfl, ew, ew2, h⟩ := map_cons h
          obtain ⟨tc2, r, rfl, ec2, -, h⟩ := map_cons h
          obtain ⟨t1, r, rfl, ht1, h⟩ := map_app h
          have hl0 := hq.len
          rw [← ht0, List.length_map] at hl0
          simp only [List.length_cons, List.length_append] at hf
          obtain ⟨f, rfl⟩ : ∃ g, f = g + 2 := ⟨f - 2, by omega⟩
          obtain ⟨e, he⟩ := hq2 t1 (r ++ us) ht1 f [wEnd] [] (by omega)
          refine ⟨e, ?_⟩
          simp only [List.cons_append, List.append_assoc]
          obtain ⟨g', hg'⟩ : ∃ g', f + 1 = (g' + 1) + ks.length := ⟨f - ks.length, by omega⟩
          have e1 : listS size (f + 1) (d + 1) [wElse, wEnd] (t0 ++ to2 :: tw :: tc2 :: (t1 ++ (r ++ us))) [] = .ok (ks, wElse, t1 ++ (r ++ us)) := by
            rw [hg', listS_PNs hq t0 _ ht0 (g' + 1) _ [] (by omega), listS_word eo2 ew ec2 (by rw [ew2]; simp) (by rw [ew2]; simp), ew2]
            simp
          rw [listS_if eo en en2 hd8, condS_head em ec1, e1, ok_bind]
          simp only
          rw [if_pos trivial, he]
          rfl
      · right
        intro ts us h f ws acc hf
        obtain ⟨to, r, rfl, eo, -, h⟩ := map_cons h
        obtain ⟨tn, r, rfl, en, en2, h⟩ := map_cons h
        obtain ⟨tm, r, rfl, em, em2, h⟩ := map_cons h
        obtain ⟨tc1, r, rfl, ec1, -, h⟩ := map_cons h
        obtain ⟨t0, r, rfl, ht0, h⟩ := map_app h
        simp only [List.length_cons, List.length_append] at hf
        obtain ⟨f, rfl⟩ : ∃ g, f = g + 2 := ⟨f - 2, by omega⟩
        obtain ⟨e, he⟩ := hq t0 (r ++ us) ht0 f [wElse, wEnd] [] (by omega)
        refine ⟨e, ?_⟩
        simp only [List.cons_append, List.append_assoc]
        rw [listS_if eo en en2 hd8, condS_head em ec1, he]
        rfl
end Tpl
/-
  The theory of the parser, in plain Lean: what is printed is accepted with the same nodes; what is accepted is valid, and is printed within a bound.
-/
namespace Tpl

/-! ### Numbers -/
theorem dig_nat {n : Nat} (h : n < 10) : (dig n).toNat = 48 + n := by
  unfold dig
  rw [UInt8.toNat_ofNat']
  omega
theorem isD_dig {n : Nat} (h : n < 10) : isD (dig n) = true := by
  simp only [isD, dig_nat h, Bool.and_eq_true, decide_eq_true_eq]
  omega
theorem num_snoc (w : Bs) (c : UInt8) : num (w ++ [c]) = 10 * num w + (c.toNat - 48 : Int) := by
  unfold num
  rw [List.foldl_append]
  rfl
theorem decF_num : ∀ (f n : Nat), n < f → num (decF f n) = n
  | 0, n, h => by omega
  | f + 1, n, h => by
    rw [decF]
    split
    · rename_i h10
      show 10 * (0 : Int) + ((dig n).toNat - 48 : Int) = n
      rw [dig_nat h10]; omega
    · rw [num_snoc, decF_num f (n / 10) (by omega), dig_nat (Nat.mod_lt _ (by omega))]
      omega
theorem decF_all : ∀ (f n : Nat), (decF f n).all isD = true
  | 0, n => rfl
  | f + 1, n => by
    rw [decF]
    split
    · rename_i h10; simp [isD_dig h10]
    · simp only [List.all_append, decF_all f (n / 10), Bool.true_and, List.all_cons, List.all_nil, Bool.and_true]
      exact isD_dig (Nat.mod_lt _ (by omega))
theorem decF_len : ∀ (f n k : Nat), n < 10 ^ (k + 1) → n < f → (decF f n).length ≤ k + 1
  | 0, n, k, _, h => by omega
  | f + 1, n, k, hk, h => by
    rw [decF]
    split
    · simp
    · rename_i h10
      cases k with
      | zero => simp at hk; omega
      | succ k =>
        have : n / 10 < 10 ^ (k + 1) := by rw [Nat.div_lt_iff_lt_mul (by omega)]; rwa [Nat.pow_succ] at hk
        have := decF_len f (n / 10) k this (by omega)
        simp; omega
theorem decF_head : ∀ (f n : Nat), n < f → 1 ≤ n → ∃ c r, decF f n = c :: r ∧ c ≠ 48
  | 0, n, h, _ => by omega
  | f + 1, n, h, h1 => by
    rw [decF]
    split
    · rename_i h10
      refine ⟨dig n, [], rfl, fun e => ?_⟩
      have := dig_nat h10
      rw [e] at this
      have : 48 = 48 + n := this
      omega
    · obtain ⟨c, r, e, hc⟩ := decF_head f (n / 10) (by omega) (by omega)
      exact ⟨c, r ++ [dig (n % 10)], by rw [e]; rfl, hc⟩

theorem num_dec (n : Nat) : num (dec n) = n := decF_num _ _ (by omega)
theorem numOk_dec {n : Nat} (h1 : 1 ≤ n) (h : n ≤ 999999) : numOk (dec n) = true := by
  obtain ⟨c, r, e, hc⟩ := decF_head (n + 1) n (by omega) h1
  have hl := decF_len (n + 1) n 5 (by simp; omega) (by omega)
  have ha := decF_all (n + 1) n
  unfold dec
  rw [e] at hl ha ⊢
  simp only [numOk, ha, List.isEmpty_cons, Bool.not_false, Bool.true_and, List.head?_cons, Bool.and_eq_true, decide_eq_true_eq, Bool.not_eq_true', Bool.and_eq_false_iff, decide_eq_false_iff_not]
  refine ⟨hl, .inr (decide_eq_false fun h => hc (by injection h))⟩

theorem foldl_num : ∀ (w : Bs) (a : Int), w.all isD = true → 0 ≤ a → 0 ≤ w.foldl (fun n c => 10 * n + (c.toNat - 48 : Int)) a ∧ w.foldl (fun n c => 10 * n + (c.toNat - 48 : Int)) a < (a + 1) * 10 ^ w.length
  | [], a, _, h => by simp; omega
  | c :: w, a, hw, h => by
    simp only [List.all_cons, Bool.and_eq_true] at hw
    have hc := hw.1
    simp only [isD, Bool.and_eq_true, decide_eq_true_eq] at hc
    obtain ⟨h1, h2⟩ := foldl_num w (10 * a + (c.toNat - 48 : Int)) hw.2 (by omega)
    refine ⟨h1, Int.lt_of_lt_of_le h2 ?_⟩
    rw [List.length_cons, Int.pow_succ, Int.mul_comm (10 ^ w.length) 10, ← Int.mul_assoc]
    have hp : (0 : Int) ≤ 10 ^ w.length := Int.pow_nonneg (by omega)
    exact Int.mul_le_mul_of_nonneg_right (by omega) hp

theorem numOk_num {w : Bs} (h : numOk w = true) : 0 ≤ num w ∧ num w ≤ 999999 ∧ (dec (num w).toNat).length ≤ w.length ∧ 1 ≤ w.length := by
  simp only [numOk, Bool.and_eq_true, decide_eq_true_eq, Bool.not_eq_true', List.isEmpty_eq_false_iff] at h
  obtain ⟨⟨⟨hne, hd⟩, hl⟩, -⟩ := h
  obtain ⟨h1, h2⟩ := foldl_num w 0 hd (by omega)
  have hpos := List.length_pos_iff.2 hne
  change 0 ≤ num w at h1
  change num w < _ at h2
  simp only [Int.zero_add, Int.one_mul] at h2
  obtain ⟨k, hk⟩ : ∃ k, w.length = k + 1 := ⟨w.length - 1, by omega⟩
  have h3 : (num w).toNat < 10 ^ (k + 1) := by
    rw [← hk]
    have : ((10 ^ w.length : Nat) : Int) = (10 : Int) ^ w.length := by simp
    omega
  have h4 : 10 ^ (k + 1) ≤ 10 ^ 6 := Nat.pow_le_pow_right (by omega) (by omega)
  refine ⟨h1, by simp at h4; omega, ?_, hpos⟩
  rw [hk]
  exact decF_len _ _ k h3 (by omega)

/-! ### What is printed is accepted -/
theorem nameOk_head {n : Bs} (h : nameOk n = true) : ∃ c r, n = c :: r ∧ isL c = true ∧ ¬ c.toNat = 123 := by
  cases n with
  | nil => simp [nameOk] at h
  | cons c r =>
    simp only [nameOk, Bool.and_eq_true] at h
    refine ⟨c, r, rfl, h.1.2, ?_⟩
    have := h.1.2
    simp only [isL, Bool.and_eq_true, decide_eq_true_eq] at this
    omega

theorem opn_name {n : Bs} (h : nameOk n = true) (r : Bs) : opn (123 :: (n ++ r)) = true := by
  obtain ⟨c, r', rfl, -, hc⟩ := nameOk_head h
  simp [opn, hc]

theorem lexF : ∀ (f : List Bs), f.all nameOk = true → ∀ (r : Bs) (off tag : Nat), noH isW r = true → (noH isW (f.flatMap (fun x => 124 :: x) ++ r) = true ∧ ∃ ts, lexS (f.flatMap (fun x => 124 :: x) ++ r) off (some tag) = ts ++ lexS r (off + (f.flatMap (fun x => 124 :: x)).length) (some tag) ∧ Flt (ts.map kt) f)
  | [], _, r, off, tag, hr => ⟨by simpa using hr, [], by simp, .nil⟩
  | x :: f, hf, r, off, tag, hr => by
    simp only [List.all_cons, Bool.and_eq_true] at hf
    obtain ⟨h1, ts, h2, h3⟩ := lexF f hf.2 r (off + (x.length + 1)) tag hr
    refine ⟨rfl, ⟨5, [124], off⟩ :: ⟨2, x, off + 1⟩ :: ts, ?_, .cons h3⟩
    simp only [List.flatMap_cons, List.cons_append, List.append_assoc]
    rw [lex_pipe, lex_name hf.1 _ h1, show off + 1 + x.length = off + (x.length + 1) by omega, h2]
    simp only [List.length_cons, List.length_append]
    rw [show off + (x.length + 1) + (f.flatMap fun x => 124 :: x).length = off + (x.length + (f.flatMap fun x => 124 :: x).length + 1) by omega]

theorem lexArgs (a : Bs) (c : Int) (ha : a.all isA = true) (h0 : 0 ≤ c) (hc : c ≤ 999999) (R : Bs) (off tag : Nat) :
    noH isW ((if a.isEmpty = true then [] else [32, 34] ++ (a ++ [34])) ++ ((if c = 0 then [] else 32 :: dec c.toNat) ++ (125 :: R))) = true ∧
    ∃ ta tc, lexS ((if a.isEmpty = true then [] else [32, 34] ++ (a ++ [34])) ++ ((if c = 0 then [] else 32 :: dec c.toNat) ++ (125 :: R))) off (some tag) = ta ++ (tc ++ lexS (125 :: R) (off + ((if a.isEmpty = true then [] else [32, 34] ++ (a ++ [34])) : Bs).length + ((if c = 0 then [] else 32 :: dec c.toNat) : Bs).length) (some tag)) ∧ ArgK (ta.map kt) a ∧ CntK (tc.map kt) c := by
  have hC : ∀ o, noH isW ((if c = 0 then [] else 32 :: dec c.toNat) ++ (125 :: R)) = true ∧ ∃ tc, lexS ((if c = 0 then [] else 32 :: dec c.toNat) ++ (125 :: R)) o (some tag) = tc ++ lexS (125 :: R) (o + ((if c = 0 then [] else 32 :: dec c.toNat) : Bs).length) (some tag) ∧ CntK (tc.map kt) c := by
    intro o
    by_cases hz : c = 0
    · rw [if_pos hz, hz]
      exact ⟨rfl, [], rfl, .no⟩
    · rw [if_neg hz]
      refine ⟨rfl, [⟨3, dec c.toNat, o + 1⟩], ?_, ?_⟩
      · rw [List.cons_append, lex_sp, lex_num (numOk_dec (by omega) (by omega)) _ rfl, List.length_cons, show o + 1 + (dec c.toNat).length = o + ((dec c.toNat).length + 1) by omega]
        rfl
      · have := CntK.yes (dec c.toNat)
        rw [num_dec, Int.toNat_of_nonneg h0] at this
        exact this
  by_cases he : a.isEmpty = true
  · rw [if_pos he]
    have : a = [] := by simpa using he
    subst this
    obtain ⟨h1, tc, h2, h3⟩ := hC off
    exact ⟨h1, [], tc, h2, .no, h3⟩
  · rw [if_neg he]
    obtain ⟨h1, tc, h2, h3⟩ := hC (off + (a.length + 3))
    refine ⟨rfl, [⟨4, a, off + 1⟩], tc, ?_, .yes a, h3⟩
    have e : [32, 34] ++ (a ++ [34]) ++ ((if c = 0 then [] else 32 :: dec c.toNat) ++ (125 :: R)) = 32 :: (34 :: (a ++ 34 :: ((if c = 0 then [] else 32 :: dec c.toNat) ++ (125 :: R)))) := by simp
    rw [e, lex_sp, lex_str ha, show off + 1 + (a.length + 2) = off + (a.length + 3) by omega, h2]
    simp

theorem wFor_ok : nameOk wFor = true := by decide
theorem wIf_ok : nameOk wIf = true := by decide
theorem wElse_ok : nameOk wElse = true := by decide
theorem wEnd_ok : nameOk wEnd = true := by decide
theorem wInc_ok : nameOk wInclude = true := by decide

/-- A tag '{word}'. -/
theorem lex_tag {n : Bs} (h : nameOk n = true) (r : Bs) (off : Nat) : lexS (123 :: (n ++ (125 :: r))) off none = ⟨6, [123], off⟩ :: ⟨2, n, off + 1⟩ :: ⟨7, [125], off + 1 + n.length⟩ :: lexS r (off + (n.length + 2)) none := by
  rw [lexS_opn off (opn_name h _), lex_name h _ rfl, lex_close, show off + 1 + n.length + 1 = off + (n.length + 2) by omega]

theorem opn_form {x : Nd} {d : Nat} (h : valN x d = true) (hk : ¬ x.kind = 1) (r : Bs) : opn (formN x ++ r) = true := by
  cases x with
  | mk k t n a c f ks es =>
    simp only [Nd.kind] at hk
    unfold valN at h
    unfold formN
    rw [if_neg hk] at h ⊢
    by_cases h2 : k = 2
    · rw [if_pos h2] at h ⊢
      simp only [Bool.and_eq_true] at h
      simp only [List.cons_append, List.append_assoc]
      exact opn_name h.1.1.1 _
    · rw [if_neg h2] at h ⊢
      by_cases h3 : k = 3
      · rw [if_pos h3] at h ⊢
        simp only [List.cons_append, List.append_assoc]
        exact opn_name wFor_ok _
      · rw [if_neg h3] at h ⊢
        by_cases h4 : k = 4
        · rw [if_pos h4] at h ⊢
          simp only [List.cons_append, List.append_assoc]
          exact opn_name wIf_ok _
        · rw [if_neg h4] at h ⊢
          simp only [Bool.and_eq_true, decide_eq_true_eq] at h
          rw [if_pos h.1.1]
          simp only [List.cons_append, List.append_assoc]
          exact opn_name wInc_ok _

theorem opn_list {l : List Nd} {d : Nat} (h : valL l d true = true) {r : Bs} (hr : r = [] ∨ opn r = true) : formL l ++ r = [] ∨ opn (formL l ++ r) = true := by
  cases l with
  | nil => simpa [formL] using hr
  | cons x l =>
    simp only [valL, Bool.and_eq_true, Bool.true_and, Bool.not_eq_true', decide_eq_false_iff_not] at h
    right
    rw [formL, List.append_assoc]
    exact opn_form h.1.2 h.1.1 _

mutual
theorem lexN : ∀ (x : Nd) (d : Nat), valN x d = true → ∀ (r : Bs) (off : Nat), (x.kind = 1 → r = [] ∨ opn r = true) →
    ∃ ts, lexS (formN x ++ r) off none = ts ++ lexS r (off + (formN x).length) none ∧ ∀ k l, PNs d k l → PNs d (ts.map kt ++ k) (x :: l)
  | .mk k t n a c f ks es, d, h, r, off, hr => by
    unfold valN at h
    unfold formN
    by_cases h1 : k = 1
    · rw [if_pos h1] at h ⊢
      simp only [Bool.and_eq_true, decide_eq_true_eq, List.isEmpty_iff] at h
      obtain ⟨ht, ⟨⟨⟨⟨hn, ha⟩, hc⟩, hf⟩, hks⟩, hes⟩ := h
      subst h1; subst hn; subst ha; subst hc; subst hf; subst hks; subst hes
      exact ⟨[⟨1, t, off⟩], lex_text ht r (hr rfl) off, fun k l hp => .text hp⟩
    · rw [if_neg h1] at h ⊢
      by_cases h2 : k = 2
      · rw [if_pos h2] at h ⊢
        simp only [Bool.and_eq_true, decide_eq_true_eq, List.isEmpty_iff, Bool.not_eq_true'] at h
        obtain ⟨⟨⟨hn, hkw⟩, ⟨⟨⟨ht, ha⟩, hc⟩, hks⟩, hes⟩, hf⟩ := h
        subst h2; subst ht; subst ha; subst hc; subst hks; subst hes
        obtain ⟨g1, tf, g2, g3⟩ := lexF f hf (125 :: r) (off + 1 + n.length) off rfl
        refine ⟨⟨6, [123], off⟩ :: ⟨2, n, off + 1⟩ :: (tf ++ [⟨7, [125], off + 1 + n.length + (f.flatMap (fun x => 124 :: x)).length⟩]), ?_, fun k l hp => ?_⟩
        · simp only [List.cons_append, List.append_assoc, List.nil_append]
          rw [lexS_opn off (opn_name hn _), lex_name hn _ g1, g2, lex_close]
          simp only [List.length_cons, List.length_append, List.length_nil]
          rw [show off + 1 + n.length + (f.flatMap fun x => 124 :: x).length + 1 = off + (n.length + ((f.flatMap fun x => 124 :: x).length + (0 + 1)) + 1) by omega]
        · simp only [isKw, Bool.or_eq_false_iff, decide_eq_false_iff_not] at hkw
          have := PNs.field (o := [123]) (n := n) (c := [125]) (f := f) (fun e => e.elim hkw.1.1.2 hkw.1.2) (fun e => e.elim hkw.1.1.1.1 hkw.1.1.1.2) hkw.2 g3 hp
          simpa [kt] using this
      · rw [if_neg h2] at h ⊢
        by_cases h3 : k = 3
        · rw [if_pos h3] at h ⊢
          simp only [Bool.and_eq_true, decide_eq_true_eq, List.isEmpty_iff] at h
          obtain ⟨⟨⟨⟨hd, ⟨hn, h0⟩, hc⟩, ⟨ht, hf⟩, hes⟩, ha⟩, hk⟩ := h
          subst h3; subst ht; subst hf; subst hes
          have hR : ∀ o, _ := fun o => lexL ks (d + 1) false hk (123 :: (wEnd ++ (125 :: r))) o (.inr (opn_name wEnd_ok _))
          obtain ⟨g1, ta, tc, g2, g3, g4⟩ := lexArgs a c ha h0 hc (formL ks ++ (123 :: (wEnd ++ (125 :: r)))) (off + 1 + wFor.length + 1 + n.length) off
          generalize hA : (if a.isEmpty = true then [] else [32, 34] ++ (a ++ [34]) : Bs) = A at g1 g2 ⊢
          generalize hC : (if c = 0 then [] else 32 :: dec c.toNat : Bs) = C at g1 g2 ⊢
          obtain ⟨tk, g5, g6⟩ := hR (off + 1 + wFor.length + 1 + n.length + A.length + C.length + 1)
          refine ⟨⟨6, [123], off⟩ :: ⟨2, wFor, off + 1⟩ :: ⟨2, n, off + 1 + wFor.length + 1⟩ :: (ta ++ (tc ++ ⟨7, [125], off + 1 + wFor.length + 1 + n.length + A.length + C.length⟩ :: (tk ++ [⟨6, [123], off + 1 + wFor.length + 1 + n.length + A.length + C.length + 1 + (formL ks).length⟩, ⟨2, wEnd, off + 1 + wFor.length + 1 + n.length + A.length + C.length + 1 + (formL ks).length + 1⟩, ⟨7, [125], off + 1 + wFor.length + 1 + n.length + A.length + C.length + 1 + (formL ks).length + 1 + wEnd.length⟩]))), ?_, fun k l hp => ?_⟩
          · simp only [List.cons_append, List.append_assoc, List.nil_append]
            rw [lexS_opn off (opn_name wFor_ok _), lex_name wFor_ok _ rfl, lex_sp, lex_name hn _ g1, g2, lex_close, g5, lex_tag wEnd_ok]
            simp only [List.length_cons, List.length_append, List.length_nil]
            rw [show off + 1 + wFor.length + 1 + n.length + A.length + C.length + 1 + (formL ks).length + (wEnd.length + 2) = off + (wFor.length + (n.length + (A.length + (C.length + ((formL ks).length + (wEnd.length + (0 + 1) + 1) + 1))) + 1) + 1) by omega]
          · have := PNs.loop (o := [123]) (n := n) (c1 := [125]) (o2 := [123]) (c2 := [125]) hd g3 g4 g6 hp
            simpa [kt] using this
        · rw [if_neg h3] at h ⊢
          by_cases h4 : k = 4
          · rw [if_pos h4] at h ⊢
            simp only [Bool.and_eq_true, decide_eq_true_eq, List.isEmpty_iff] at h
            obtain ⟨⟨⟨⟨hd, hn⟩, ⟨⟨ht, ha⟩, hc⟩, hf⟩, hk⟩, he⟩ := h
            subst h4; subst ht; subst ha; subst hc; subst hf
            by_cases hes : es = []
            · subst hes
              obtain ⟨tk, g5, g6⟩ := lexL ks (d + 1) false hk (123 :: (wEnd ++ (125 :: r))) (off + 1 + wIf.length + 1 + n.length + 1) (.inr (opn_name wEnd_ok _))
              refine ⟨⟨6, [123], off⟩ :: ⟨2, wIf, off + 1⟩ :: ⟨2, n, off + 1 + wIf.length + 1⟩ :: ⟨7, [125], off + 1 + wIf.length + 1 + n.length⟩ :: (tk ++ [⟨6, [123], off + 1 + wIf.length + 1 + n.length + 1 + (formL ks).length⟩, ⟨2, wEnd, off + 1 + wIf.length + 1 + n.length + 1 + (formL ks).length + 1⟩, ⟨7, [125], off + 1 + wIf.length + 1 + n.length + 1 + (formL ks).length + 1 + wEnd.length⟩]), ?_, fun k l hp => ?_⟩
              · simp only [List.cons_append, List.append_assoc, List.nil_append, List.isEmpty_nil, if_true]
                rw [lexS_opn off (opn_name wIf_ok _), lex_name wIf_ok _ rfl, lex_sp, lex_name hn _ rfl, lex_close, g5, lex_tag wEnd_ok]
                simp only [List.length_cons, List.length_append, List.length_nil]
                rw [show off + 1 + wIf.length + 1 + n.length + 1 + (formL ks).length + (wEnd.length + 2) = off + (wIf.length + (n.length + ((formL ks).length + (wEnd.length + (0 + 1) + 1) + 1) + 1) + 1) by omega]
              · have := PNs.cond (o := [123]) (n := n) (c1 := [125]) (o2 := [123]) (c2 := [125]) hd g6 hp
                simpa [kt] using this
            · have hem : es.isEmpty = false := by simpa using hes
              obtain ⟨tk, g5, g6⟩ := lexL ks (d + 1) false hk (123 :: (wElse ++ (125 :: (formL es ++ (123 :: (wEnd ++ (125 :: r))))))) (off + 1 + wIf.length + 1 + n.length + 1) (.inr (opn_name wElse_ok _))
              obtain ⟨te, g7, g8⟩ := lexL es (d + 1) false he (123 :: (wEnd ++ (125 :: r))) (off + 1 + wIf.length + 1 + n.length + 1 + (formL ks).length + (wElse.length + 2)) (.inr (opn_name wEnd_ok _))
              refine ⟨⟨6, [123], off⟩ :: ⟨2, wIf, off + 1⟩ :: ⟨2, n, off + 1 + wIf.length + 1⟩ :: ⟨7, [125], off + 1 + wIf.length + 1 + n.length⟩ :: (tk ++ ⟨6, [123], off + 1 + wIf.length + 1 + n.length + 1 + (formL ks).length⟩ :: ⟨2, wElse, off + 1 + wIf.length + 1 + n.length + 1 + (formL ks).length + 1⟩ :: ⟨7, [125], off + 1 + wIf.length + 1 + n.length + 1 + (formL ks).length + 1 + wElse.length⟩ ::
                (te ++ [⟨6, [123], off + 1 + wIf.length + 1 + n.length + 1 + (formL ks).length + (wElse.length + 2) + (formL es).length⟩, ⟨2, wEnd, off + 1 + wIf.length + 1 + n.length + 1 + (formL ks).length + (wElse.length + 2) + (formL es).length + 1⟩, ⟨7, [125], off + 1 + wIf.length + 1 + n.length + 1 + (formL ks).length + (wElse.length + 2) + (formL es).length + 1 + wEnd.length⟩])), ?_, fun k l hp => ?_⟩
              · simp only [List.cons_append, List.append_assoc, List.nil_append, hem, if_neg Bool.false_ne_true]
                rw [lexS_opn off (opn_name wIf_ok _), lex_name wIf_ok _ rfl, lex_sp, lex_name hn _ rfl, lex_close, g5, lex_tag wElse_ok, g7, lex_tag wEnd_ok]
                simp only [List.length_cons, List.length_append, List.length_nil]
                rw [show off + 1 + wIf.length + 1 + n.length + 1 + (formL ks).length + (wElse.length + 2) + (formL es).length + (wEnd.length + 2) = off + (wIf.length + (n.length + ((formL ks).length + (wElse.length + ((formL es).length + 1) + 1 + (wEnd.length + (0 + 1) + 1)) + 1) + 1) + 1) by omega]
                rfl
              · have := PNs.conde (o := [123]) (n := n) (c1 := [125]) (o2 := [123]) (c2 := [125]) (o3 := [123]) (c3 := [125]) hd g6 g8 hp
                simpa [kt] using this
          · rw [if_neg h4] at h ⊢
            simp only [Bool.and_eq_true, decide_eq_true_eq, List.isEmpty_iff] at h
            obtain ⟨⟨h5, hn⟩, ⟨⟨⟨⟨ht, ha⟩, hc⟩, hf⟩, hks⟩, hes⟩ := h
            subst h5; subst ht; subst ha; subst hc; subst hf; subst hks; subst hes
            rw [if_pos rfl]
            refine ⟨[⟨6, [123], off⟩, ⟨2, wInclude, off + 1⟩, ⟨2, n, off + 1 + wInclude.length + 1⟩, ⟨7, [125], off + 1 + wInclude.length + 1 + n.length⟩], ?_, fun k l hp => ?_⟩
            · simp only [List.cons_append, List.append_assoc, List.nil_append]
              rw [lexS_opn off (opn_name wInc_ok _), lex_name wInc_ok _ rfl, lex_sp, lex_name hn _ rfl, lex_close]
              simp only [List.length_cons, List.length_append, List.length_nil]
              rw [show off + 1 + wInclude.length + 1 + n.length + 1 = off + (wInclude.length + (n.length + (0 + 1) + 1) + 1) by omega]
            · have := PNs.incl (o := [123]) (m := n) (c := [125]) hp
              simpa [kt] using this
theorem lexL : ∀ (l : List Nd) (d : Nat) (prev : Bool), valL l d prev = true → ∀ (r : Bs) (off : Nat), (r = [] ∨ opn r = true) →
    ∃ ts, lexS (formL l ++ r) off none = ts ++ lexS r (off + (formL l).length) none ∧ PNs d (ts.map kt) l
  | [], d, prev, _, r, off, _ => ⟨[], by simp [formL], .nil⟩
  | x :: l, d, prev, h, r, off, hr => by
    unfold valL at h
    simp only [Bool.and_eq_true] at h
    obtain ⟨⟨-, hx⟩, hl⟩ := h
    obtain ⟨t2, g3, g4⟩ := lexL l d (decide (x.kind = 1)) hl r (off + (formN x).length) hr
    obtain ⟨t1, g1, g2⟩ := lexN x d hx (formL l ++ r) off (fun hk => by
      rw [decide_eq_true hk] at hl
      exact opn_list hl hr)
    refine ⟨t1 ++ t2, ?_, ?_⟩
    · rw [formL, List.append_assoc, g1, g3, List.append_assoc, List.length_append, Nat.add_assoc]
    · rw [List.map_append]; exact g2 _ _ g4
end

/-- What is printed is accepted with the same nodes. -/
theorem parse_form {l : List Nd} (h : valL l 0 false = true) (hl : (formL l).length ≤ 1000) : parse (formL l) = .ok l := by
  obtain ⟨ts, h1, h2⟩ := lexL l 0 false h [] 0 (.inl rfl)
  rw [List.append_nil, lexS_nil, List.append_nil] at h1
  refine parse_of hl ?_
  rw [h1]; exact h2
end Tpl
/-
  The theory of the parser, in plain Lean: what is accepted is valid, and is printed within a bound.
-/
namespace Tpl

def ktLen (x : KT) : Nat := tkLen ⟨x.1, x.2, 0⟩
def ktOk (x : KT) : Bool := tkOk ⟨x.1, x.2, 0⟩
/-- A space is wanted between a name and a name or a number. -/
def gp (p k : Nat) : Nat := if p = 2 ∧ (k = 2 ∨ k = 3) then 1 else 0
def wt : Nat → List KT → Nat
  | _, [] => 0
  | p, x :: r => gp p x.1 + ktLen x + wt x.1 r
def chn : Nat → List KT → Bool
  | _, [] => true
  | p, x :: r => !(decide (p = 1) && decide (x.1 = 1)) && chn x.1 r

theorem wt_zero (p : Nat) (r : List KT) : wt 0 r ≤ wt p r := by
  cases r with
  | nil => simp [wt]
  | cons x r => simp [wt, gp]
theorem wt_app : ∀ (a b : List KT) (p : Nat), wt p a + wt 0 b ≤ wt p (a ++ b)
  | [], b, p => by simpa [wt] using wt_zero p b
  | x :: a, b, p => by
    have := wt_app a b x.1
    simp only [List.cons_append, wt]
    omega
theorem chn_app : ∀ (a b : List KT) (p : Nat), chn p (a ++ b) = true → chn p a = true ∧ ∃ q, chn q b = true
  | [], b, p, h => ⟨rfl, p, h⟩
  | x :: a, b, p, h => by
    simp only [List.cons_append, chn, Bool.and_eq_true] at h ⊢
    obtain ⟨h1, q, h2⟩ := chn_app a b x.1 h.2
    exact ⟨⟨h.1, h1⟩, q, h2⟩
theorem chn_cons {p : Nat} {x : KT} {r : List KT} (h : chn p (x :: r) = true) : chn x.1 r = true := by
  simp only [chn, Bool.and_eq_true] at h
  exact h.2

mutual
/-- The number of loops. -/
def lpN : Nd → Nat
  | .mk k _ _ _ _ _ ks es => (if k = 3 then 1 else 0) + lpL ks + lpL es
def lpL : List Nd → Nat
  | [] => 0
  | x :: r => lpN x + lpL r
end

theorem gp_le (p k : Nat) : gp p k ≤ 1 := by unfold gp; split <;> omega

/-! ### The lexer's tokens -/
theorem scan_good : ∀ (f : Nat) (s : Bs) (off : Nat) (tag : Option Nat) (p : Nat), s.length + 1 ≤ f → (∀ t ∈ scan f s off tag, t.kind ≠ 0) → (p = 1 → tag = none ∧ (s = [] ∨ opn s = true)) → (p = 2 → tag ≠ none) →
    (∀ t ∈ scan f s off tag, ktOk (kt t) = true) ∧ chn p ((scan f s off tag).map kt) = true ∧ (¬ p = 2 ∨ noH isW s = true → wt p ((scan f s off tag).map kt) ≤ s.length) ∧ wt p ((scan f s off tag).map kt) ≤ s.length + 1
  | 0, _, _, _, _, h, _, _, _ => by omega
  | f + 1, [], off, none, p, _, _, _, _ => ⟨by simp [scan], by simp [scan, chn], by simp [scan, wt], by simp [scan, wt]⟩
  | f + 1, [], off, some tag, p, _, hn, _, _ => by
    have := hn ⟨0, [], tag⟩ (by simp [scan])
    exact absurd rfl this
  | f + 1, c :: r, off, none, p, hf, hn, hp, hp2 => by
    simp only [List.length_cons] at hf
    have hp2' : ¬ p = 2 := fun e => hp2 e rfl
    have hg : ∀ k, gp p k = 0 := fun k => by unfold gp; rw [if_neg (fun h => hp2' h.1)]
    rw [scan_none] at hn ⊢
    by_cases ho : opn (c :: r) = true
    · rw [if_pos ho] at hn ⊢
      simp only [List.forall_mem_cons] at hn
      obtain ⟨h1, h2, h3, h4⟩ := scan_good f r (off + 1) (some off) 6 (by omega) hn.2 (fun h => by omega) (fun h => by omega)
      have h3 := h3 (.inl (by omega))
      simp only [List.forall_mem_cons, List.map_cons, chn, wt, List.length_cons]
      refine ⟨⟨by simp [ktOk, kt, tkOk], h1⟩, by simp [kt, h2], fun _ => ?_, ?_⟩
      · rw [hg]; simp only [kt, ktLen, tkLen]; simp; omega
      · rw [hg]; simp only [kt, ktLen, tkLen]; simp; omega
    · rw [if_neg ho] at hn ⊢
      have ho' : opn (c :: r) = false := by simpa using ho
      by_cases hok : (lit (c :: r)).2.2.2 = true
      · rw [if_pos hok] at hn ⊢
        obtain ⟨g1, g2, g3, g4⟩ := lit_inv _ hok
        have g5 := lit_len (c :: r)
        have g6 := lit_pos ho' hok
        simp only [List.length_cons] at g5
        simp only [List.forall_mem_cons] at hn
        obtain ⟨h1, h2, h3, h4⟩ := scan_good f (lit (c :: r)).2.2.1 (off + (lit (c :: r)).2.1) none 1 (by omega) hn.2 (fun _ => ⟨rfl, g3⟩) (fun h => by omega)
        have h3 := h3 (.inl (by omega))
        have hne : (lit (c :: r)).1 ≠ [] := by
          intro e
          rw [e] at g4
          simp [esc] at g4
          omega
        simp only [List.forall_mem_cons, List.map_cons, chn, wt, List.length_cons]
        refine ⟨⟨?_, h1⟩, ?_, fun _ => ?_, ?_⟩
        · simp [ktOk, kt, tkOk, txOk, g2, hne]
        · have hp1 : ¬ p = 1 := fun e => by
            rcases (hp e).2 with h | h
            · simp at h
            · exact ho h
          simp [kt, h2, hp1]
        · rw [hg]; simp only [kt, ktLen, tkLen]; simp; omega
        · rw [hg]; simp only [kt, ktLen, tkLen]; simp; omega
      · rw [if_neg hok] at hn
        exact absurd rfl (hn _ (List.mem_singleton.2 rfl))
  | f + 1, c :: r, off, some tag, p, hf, hn, hp, hp2 => by
    simp only [List.length_cons] at hf
    have hp1 : ¬ p = 1 := fun e => by simpa using (hp e).1
    rw [scan_some] at hn ⊢
    by_cases hs : c.toNat = 32 ∨ c.toNat = 10
    · rw [if_pos hs] at hn ⊢
      obtain ⟨h1, h2, h3, h4⟩ := scan_good f r (off + 1) (some tag) p (by omega) hn (fun e => absurd e hp1) (fun _ => by simp)
      simp only [List.length_cons]
      exact ⟨h1, h2, fun _ => h4, by omega⟩
    · rw [if_neg hs] at hn ⊢
      cases hq : part c r with
      | none =>
        rw [hq] at hn
        simp only at hn
        exact absurd rfl (hn _ (List.mem_singleton.2 rfl))
      | some q =>
        obtain ⟨k, w, n, t⟩ := q
        rw [hq] at hn
        simp only at hn ⊢
        obtain ⟨g1, g2, g3, g4, g5, g6, g7, g8⟩ := part_inv hq
        simp only [List.forall_mem_cons] at hn
        obtain ⟨h1, h2, h3, h4⟩ := scan_good f t (off + n) (if k = 7 then none else some tag) k (by omega) hn.2 (fun h => by omega) (fun h => by rw [if_neg (by omega)]; simp)
        have h3 := h3 (by by_cases h2 : k = 2; exact .inr (g6 h2); exact .inl h2)
        have hk1 : ¬ k = 1 := by omega
        have e := g2 0
        simp only [List.forall_mem_cons, List.map_cons, chn, wt, List.length_cons]
        refine ⟨⟨e.1, h1⟩, by simp [kt, h2, hp1], fun hh => ?_, ?_⟩
        · have : gp p (kt ⟨k, w, off⟩).1 = 0 := by
            unfold gp
            rw [if_neg]
            rintro ⟨e1, e2⟩
            rcases hh with hh | hh
            · exact hh e1
            · have := g8 e2
              simp [noH, this] at hh
          rw [this]
          simp only [kt, ktLen]
          rw [e.2]; omega
        · have := gp_le p (kt ⟨k, w, off⟩).1
          simp only [kt, ktLen] at this ⊢
          rw [e.2]; omega

theorem lexS_good {s : Bs} (h : ∀ t ∈ lexS s 0 none, t.kind ≠ 0) : (∀ x ∈ (lexS s 0 none).map kt, ktOk x = true) ∧ chn 0 ((lexS s 0 none).map kt) = true ∧ wt 0 ((lexS s 0 none).map kt) ≤ s.length := by
  obtain ⟨h1, h2, h3, -⟩ := scan_good (s.length + 1) s 0 none 0 (by omega) h (fun h => by omega) (fun h => by omega)
  refine ⟨?_, h2, h3 (.inl (by omega))⟩
  intro x hx
  obtain ⟨t, ht, rfl⟩ := List.mem_map.1 hx
  exact h1 t ht

theorem len5 (o : Bs) : ktLen (5, o) = 1 := rfl
theorem len6 (o : Bs) : ktLen (6, o) = 1 := rfl
theorem len7 (o : Bs) : ktLen (7, o) = 1 := rfl
theorem len2 (n : Bs) : ktLen (2, n) = n.length := rfl
theorem len3 (n : Bs) : ktLen (3, n) = n.length := rfl
theorem len4 (n : Bs) : ktLen (4, n) = n.length + 2 := rfl
theorem gp22 : gp 2 2 = 1 := rfl
theorem gp23 : gp 2 3 = 1 := rfl
theorem gp43 : gp 4 3 = 0 := rfl
theorem wFor_len : wFor.length = 3 := rfl
theorem wIf_len : wIf.length = 2 := rfl
theorem wElse_len : wElse.length = 4 := rfl
theorem wEnd_len : wEnd.length = 3 := rfl
theorem wInc_len : wInclude.length = 7 := rfl

/-! ### Valid nodes -/
theorem Flt.good {k : List KT} {f : List Bs} (h : Flt k f) : (∀ x ∈ k, ktOk x = true) → f.all nameOk = true ∧ ∀ p, (f.flatMap (fun x => 124 :: x)).length ≤ wt p k := by
  induction h with
  | nil => intro _; exact ⟨rfl, fun p => by simp⟩
  | @cons p x k f hk ih =>
    intro ho
    simp only [List.forall_mem_cons] at ho
    obtain ⟨h1, h2⟩ := ih ho.2.2
    have hx : nameOk x = true := ho.2.1
    refine ⟨by simp [hx, h1], fun q => ?_⟩
    have := h2 2
    simp only [List.flatMap_cons, List.length_append, List.length_cons, wt, len5, len2]
    omega

theorem kw_of {n : Bs} (a : ¬ (n = wElse ∨ n = wEnd)) (b : ¬ (n = wFor ∨ n = wIf)) (c : ¬ n = wInclude) : isKw n = false := by
  unfold isKw
  simp only [not_or] at a b
  simp [a.1, a.2, b.1, b.2, c]

theorem argLen (a : Bs) : ((if a.isEmpty = true then [] else [32, 34] ++ (a ++ [34])) : Bs).length ≤ a.length + 3 := by split <;> simp
theorem argLen0 : ((if ([] : Bs).isEmpty = true then [] else [32, 34] ++ (([] : Bs) ++ [34])) : Bs).length = 0 := rfl
theorem cntLen {w : Bs} (h : (dec (num w).toNat).length ≤ w.length) : ((if num w = 0 then [] else 32 :: dec (num w).toNat) : Bs).length ≤ w.length + 1 := by split <;> simp; exact h
theorem cntLen0 : ((if (0 : Int) = 0 then [] else 32 :: dec (0 : Int).toNat) : Bs).length = 0 := rfl

theorem args_good {ka kc : List KT} {a : Bs} {c : Int} (ha : ArgK ka a) (hc : CntK kc c) (h1 : ∀ x ∈ ka, ktOk x = true) (h2 : ∀ x ∈ kc, ktOk x = true) (b : List KT) :
    a.all isA = true ∧ 0 ≤ c ∧ c ≤ 999999 ∧ ((if a.isEmpty = true then [] else [32, 34] ++ (a ++ [34])) : Bs).length + ((if c = 0 then [] else 32 :: dec c.toNat) : Bs).length + wt 0 b ≤ wt 2 (ka ++ (kc ++ b)) + 2 := by
  cases ha with
  | no =>
    rw [argLen0]
    cases hc with
    | no =>
      rw [cntLen0]
      refine ⟨rfl, by omega, by omega, ?_⟩
      have := wt_zero 2 b
      simp only [List.nil_append]; omega
    | yes w =>
      have hw : numOk w = true := h2 _ (List.mem_singleton.2 rfl)
      obtain ⟨e1, e2, e3, e4⟩ := numOk_num hw
      refine ⟨rfl, e1, e2, ?_⟩
      have := wt_zero 3 b
      have e5 := cntLen e3
      generalize ((if num w = 0 then [] else 32 :: dec (num w).toNat) : Bs).length = L at e5 ⊢
      simp only [List.nil_append, List.cons_append, wt, gp23, len3]
      omega
  | yes a =>
    have hA : a.all isA = true := h1 _ (List.mem_singleton.2 rfl)
    have e0 := argLen a
    generalize ((if a.isEmpty = true then [] else [32, 34] ++ (a ++ [34])) : Bs).length = M at e0 ⊢
    cases hc with
    | no =>
      rw [cntLen0]
      refine ⟨hA, by omega, by omega, ?_⟩
      have := wt_zero 4 b
      simp only [List.nil_append, List.cons_append, wt, len4]
      omega
    | yes w =>
      have hw : numOk w = true := h2 _ (List.mem_singleton.2 rfl)
      obtain ⟨e1, e2, e3, e4⟩ := numOk_num hw
      refine ⟨hA, e1, e2, ?_⟩
      have := wt_zero 3 b
      have e5 := cntLen e3
      generalize ((if num w = 0 then [] else 32 :: dec (num w).toNat) : Bs).length = L at e5 ⊢
      simp only [List.nil_append, List.cons_append, wt, len4, len3, gp43]
      omega

theorem PNs.good {d : Nat} {k : List KT} {l : List Nd} (h : PNs d k l) : (∀ x ∈ k, ktOk x = true) → ∀ p, chn p k = true → valL l d (decide (p = 1)) = true ∧ (formL l).length ≤ wt p k + 2 * lpL l ∧ 12 * lpL l ≤ wt p k := by
  induction h with
  | nil => intro _ p _; simp [valL, formL, wt, lpL]
  | @text d t k l hk ih =>
    intro ho p hc
    simp only [List.forall_mem_cons] at ho
    obtain ⟨h1, h2, h3⟩ := ih ho.2 1 (chn_cons hc)
    have hp : ¬ p = 1 := by
      simp only [chn, Bool.and_eq_true] at hc
      simpa using hc.1
    have ht : txOk t = true := ho.1
    refine ⟨?_, ?_, ?_⟩
    · simp only [valL, valN, Nd.kind]
      simp only [decide_true] at h1
      simp [hp, ht, h1]
    · simp only [formL, formN, wt, lpL, lpN, List.length_append]
      simp [ktLen, tkLen]
      omega
    · simp only [wt, lpL, lpN, ktLen, tkLen]
      simp
      omega
  | @field d o n kf c f k l a b c' hf hk ih =>
    intro ho p hc
    simp only [List.forall_mem_cons, List.forall_mem_append] at ho
    obtain ⟨-, hn, hof, -, hok⟩ := ho
    obtain ⟨q, hq⟩ := (chn_app kf _ _ (chn_cons (chn_cons hc))).2
    obtain ⟨h1, h2, h3⟩ := ih hok 7 (chn_cons hq)
    obtain ⟨g1, g2⟩ := hf.good hof
    have g2 := g2 2
    have g3 := wt_app kf ((7, c) :: k) 2
    have hn : nameOk n = true := hn
    simp only [wt, len7] at g3
    refine ⟨?_, ?_, ?_⟩
    · simp only [valL, valN, Nd.kind]
      simp only [decide_eq_false (show ¬ 7 = 1 by omega)] at h1
      simp [hn, kw_of a b c', g1, h1]
    · simp only [formL, formN, wt, lpL, lpN, List.length_append, len6, len2]
      simp only [if_neg (show ¬ 2 = 1 by omega), if_neg (show ¬ 2 = 3 by omega), if_true, List.length_cons, List.length_append, List.length_nil]
      omega
    · simp only [wt, lpL, lpN, len6, len2]
      simp only [if_neg (show ¬ 2 = 3 by omega)]
      omega
  | @incl d o m c k l hk ih =>
    intro ho p hc
    simp only [List.forall_mem_cons] at ho
    obtain ⟨-, -, hn, -, hok⟩ := ho
    obtain ⟨h1, h2, h3⟩ := ih hok 7 (chn_cons (chn_cons (chn_cons (chn_cons hc))))
    have hn : nameOk m = true := hn
    refine ⟨?_, ?_, ?_⟩
    · simp only [valL, valN, Nd.kind]
      simp only [decide_eq_false (show ¬ 7 = 1 by omega)] at h1
      simp [hn, h1]
    · simp only [formL, formN, wt, lpL, lpN, List.length_append, len6, len2, len7, gp22, wInc_len]
      simp [wInc_len]
      omega
    · simp only [wt, lpL, lpN, len6, len2]
      simp
      omega
  | @loop d o n ka a kc c c1 k0 ks o2 c2 k l hd ha hcc h0 hk ih0 ih =>
    intro ho p hc
    simp only [List.forall_mem_cons, List.forall_mem_append] at ho
    obtain ⟨-, -, hn, hoa, hoc, -, ho0, -, -, -, hok⟩ := ho
    obtain ⟨q, hq⟩ := (chn_app ka _ _ (chn_cons (chn_cons (chn_cons hc)))).2
    obtain ⟨q, hq⟩ := (chn_app kc _ _ hq).2
    obtain ⟨hq0, q, hq⟩ := (chn_app k0 _ _ (chn_cons hq))
    obtain ⟨h1, h2, h3⟩ := ih hok 7 (chn_cons (chn_cons (chn_cons hq)))
    obtain ⟨i1, i2, i3⟩ := ih0 ho0 7 hq0
    have hn : nameOk n = true := hn
    obtain ⟨g1, g2, g3, g4⟩ := args_good ha hcc hoa hoc ((7, c1) :: (k0 ++ (6, o2) :: (2, wEnd) :: (7, c2) :: k))
    have g5 := wt_app k0 ((6, o2) :: (2, wEnd) :: (7, c2) :: k) 7
    have hpos : 1 ≤ n.length := by obtain ⟨_, _, rfl, _⟩ := nameOk_head hn; simp
    have g7 := wt_app ka (kc ++ ((7, c1) :: (k0 ++ (6, o2) :: (2, wEnd) :: (7, c2) :: k))) 2
    have g8 := wt_app kc ((7, c1) :: (k0 ++ (6, o2) :: (2, wEnd) :: (7, c2) :: k)) 0
    simp only [wt, len6, len2, len7, wEnd_len] at g4 g5 g8
    refine ⟨?_, ?_, ?_⟩
    · simp only [valL, valN, Nd.kind]
      simp only [decide_eq_false (show ¬ 7 = 1 by omega)] at h1 i1
      simp [hn, h1, i1, g1, g2, g3, hd]
    · simp only [formL, formN, wt, lpL, lpN, List.length_append, len6, len2, gp22, wFor_len]
      simp only [if_neg (show ¬ 3 = 1 by omega), if_neg (show ¬ 3 = 2 by omega), if_true, List.length_cons, List.length_append, List.length_nil, wFor_len, wEnd_len]
      omega
    · simp only [wt, lpL, lpN, len6, len2, gp22, wFor_len, if_true]
      omega
  | @cond d o n c1 k0 ks o2 c2 k l hd h0 hk ih0 ih =>
    intro ho p hc
    simp only [List.forall_mem_cons, List.forall_mem_append] at ho
    obtain ⟨-, -, hn, -, ho0, -, -, -, hok⟩ := ho
    obtain ⟨hq0, q, hq⟩ := (chn_app k0 _ _ (chn_cons (chn_cons (chn_cons (chn_cons hc)))))
    obtain ⟨h1, h2, h3⟩ := ih hok 7 (chn_cons (chn_cons (chn_cons hq)))
    obtain ⟨i1, i2, i3⟩ := ih0 ho0 7 hq0
    have hn : nameOk n = true := hn
    have g5 := wt_app k0 ((6, o2) :: (2, wEnd) :: (7, c2) :: k) 7
    simp only [wt, len6, len2, len7, wEnd_len] at g5
    refine ⟨?_, ?_, ?_⟩
    · simp only [valL, valN, Nd.kind]
      simp only [decide_eq_false (show ¬ 7 = 1 by omega)] at h1 i1
      simp [hn, h1, i1, hd]
    · simp only [formL, formN, wt, lpL, lpN, List.length_append, len6, len2, len7, gp22, wIf_len]
      simp only [if_neg (show ¬ 4 = 1 by omega), if_neg (show ¬ 4 = 2 by omega), if_neg (show ¬ 4 = 3 by omega), if_true, List.length_cons, List.length_append, List.length_nil, wIf_len, wEnd_len, List.isEmpty_nil]
      omega
    · simp only [wt, lpL, lpN, len6, len2, gp22, wIf_len, if_neg (show ¬ 4 = 3 by omega)]
      omega
  | @conde d o n c1 k0 ks o2 c2 k1 es o3 c3 k l hd h0 h01 hk ih0 ih1 ih =>
    intro ho p hc
    simp only [List.forall_mem_cons, List.forall_mem_append] at ho
    obtain ⟨-, -, hn, -, ho0, -, -, -, ho1, -, -, -, hok⟩ := ho
    obtain ⟨hq0, q, hq⟩ := (chn_app k0 _ _ (chn_cons (chn_cons (chn_cons (chn_cons hc)))))
    obtain ⟨hq1, q, hq⟩ := (chn_app k1 _ _ (chn_cons (chn_cons (chn_cons hq))))
    obtain ⟨h1, h2, h3⟩ := ih hok 7 (chn_cons (chn_cons (chn_cons hq)))
    obtain ⟨i1, i2, i3⟩ := ih0 ho0 7 hq0
    obtain ⟨j1, j2, j3⟩ := ih1 ho1 7 hq1
    have hn : nameOk n = true := hn
    have g5 := wt_app k0 ((6, o2) :: (2, wElse) :: (7, c2) :: (k1 ++ (6, o3) :: (2, wEnd) :: (7, c3) :: k)) 7
    have g6 := wt_app k1 ((6, o3) :: (2, wEnd) :: (7, c3) :: k) 7
    simp only [wt, len6, len2, len7, wEnd_len, wElse_len] at g5 g6
    have e0 : ((if es.isEmpty = true then [] else 123 :: (wElse ++ (125 :: formL es))) : Bs).length ≤ (formL es).length + 6 := by
      split
      · simp
      · simp [wElse_len]; omega
    refine ⟨?_, ?_, ?_⟩
    · simp only [valL, valN, Nd.kind]
      simp only [decide_eq_false (show ¬ 7 = 1 by omega)] at h1 i1 j1
      simp [hn, h1, i1, j1, hd]
    · simp only [formL, formN, wt, lpL, lpN, List.length_append, len6, len2, len7, gp22, wIf_len]
      simp only [if_neg (show ¬ 4 = 1 by omega), if_neg (show ¬ 4 = 2 by omega), if_neg (show ¬ 4 = 3 by omega), if_true, List.length_cons, List.length_append, List.length_nil, wIf_len, wEnd_len]
      omega
    · simp only [wt, lpL, lpN, len6, len2, gp22, wIf_len, if_neg (show ¬ 4 = 3 by omega)]
      omega

/-- What is accepted is valid, and is printed within a bound. -/
theorem parse_good {s : Bs} {l : List Nd} (h : parse s = .ok l) : valL l 0 false = true ∧ (formL l).length ≤ s.length + 2 * lpL l ∧ 12 * lpL l ≤ s.length := by
  obtain ⟨-, hp⟩ := parse_inv h
  have hn : ∀ t ∈ lexS s 0 none, t.kind ≠ 0 := fun t ht => hp.ne (kt t) (List.mem_map_of_mem ht)
  obtain ⟨h1, h2, h3⟩ := lexS_good hn
  obtain ⟨g1, g2, g3⟩ := hp.good h1 0 h2
  exact ⟨g1, by omega, by omega⟩
end Tpl
