/-
  What the lexer and the parser compute, in plain Lean: no program in sight.
-/
namespace Tpl

abbrev Bs := List UInt8
/-- A token: its kind, its text, its offset. -/
structure Tk where
  kind : Nat
  text : Bs
  off : Nat
deriving DecidableEq

def isL (c : UInt8) : Bool := decide (97 ≤ c.toNat) && decide (c.toNat ≤ 122)
def isD (c : UInt8) : Bool := decide (48 ≤ c.toNat) && decide (c.toNat ≤ 57)
def isP (c : UInt8) : Bool := decide (32 ≤ c.toNat) && decide (c.toNat ≤ 126)
def isW (c : UInt8) : Bool := isL c || isD c || decide (c.toNat = 45)
def isA (c : UInt8) : Bool := isP c && !decide (c.toNat = 34)

/-- The run of literal text at the head: its text, the bytes that it takes, what is left, and whether it ends well. -/
def lit : Bs → Bs × Nat × Bs × Bool
  | [] => ([], 0, [], true)
  | [c] => if c.toNat = 123 then ([], 0, [c], true) else if decide (c.toNat ≠ 10) && !isP c then ([], 0, [c], false) else ([c], 1, [], true)
  | c :: d :: r =>
    if c.toNat = 123 then
      if d.toNat = 123 then let x := lit r; (c :: x.1, x.2.1 + 2, x.2.2)
      else ([], 0, c :: d :: r, true)
    else if decide (c.toNat ≠ 10) && !isP c then ([], 0, c :: d :: r, false)
    else let x := lit (d :: r); (c :: x.1, x.2.1 + 1, x.2.2)

/-- The token in a tag that begins with c: its kind, its text, the bytes that it takes, what is left. -/
def part (c : UInt8) (r : Bs) : Option (Nat × Bs × Nat × Bs) :=
  if isL c then
    let w := c :: r.takeWhile isW
    if 20 < w.length then none else some (2, w, w.length, r.dropWhile isW)
  else if isD c then
    let w := c :: r.takeWhile isD
    if decide (6 < w.length) || (decide (1 < w.length) && decide (c.toNat = 48)) then none else some (3, w, w.length, r.dropWhile isD)
  else if c.toNat = 34 then
    let w := r.takeWhile isA
    match r.dropWhile isA with
    | [] => none
    | d :: t => if d.toNat = 34 then some (4, w, w.length + 2, t) else none
  else if c.toNat = 124 then some (5, [c], 1, r)
  else if c.toNat = 125 then some (7, [c], 1, r)
  else none

/-- The tokens of what is left, from the offset 'off' on; tag: the offset of the tag that is open. A token of the kind 0 is an error. -/
def scan : Nat → Bs → Nat → Option Nat → List Tk
  | 0, _, _, _ => []
  | _ + 1, [], _, none => []
  | _ + 1, [], _, some tag => [⟨0, [], tag⟩]
  | f + 1, c :: r, off, none =>
    if decide (c.toNat = 123) && !(match r with | d :: _ => decide (d.toNat = 123) | [] => false) then ⟨6, [c], off⟩ :: scan f r (off + 1) (some off)
    else
      let x := lit (c :: r)
      if x.2.2.2 then ⟨1, x.1, off⟩ :: scan f x.2.2.1 (off + x.2.1) none else [⟨0, [], off + x.2.1⟩]
  | f + 1, c :: r, off, some tag =>
    if c.toNat = 32 ∨ c.toNat = 10 then scan f r (off + 1) (some tag)
    else
      match part c r with
      | none => [⟨0, [], off⟩]
      | some (k, w, n, t) => ⟨k, w, off⟩ :: scan f t (off + n) (if k = 7 then none else some tag)

/-- 'Tokens': the tokens, or the offset of the first error. -/
def tokens (s : Bs) : Except Nat (List Tk) :=
  if 1000 < s.length then .error 1000
  else
    let l := scan (s.length + 1) s 0 none
    match l.find? (fun t => decide (t.kind = 0)) with
    | some t => .error t.off
    | none => .ok l

/-- A node. -/
inductive Nd where
  | mk (kind : Nat) (text name arg : Bs) (count : Int) (filters : List Bs) (kids els : List Nd)

namespace Nd
def kind : Nd → Nat | mk k _ _ _ _ _ _ _ => k
def text : Nd → Bs | mk _ t _ _ _ _ _ _ => t
def name : Nd → Bs | mk _ _ n _ _ _ _ _ => n
def arg : Nd → Bs | mk _ _ _ a _ _ _ _ => a
def count : Nd → Int | mk _ _ _ _ c _ _ _ => c
def filters : Nd → List Bs | mk _ _ _ _ _ f _ _ => f
def kids : Nd → List Nd | mk _ _ _ _ _ _ k _ => k
def els : Nd → List Nd | mk _ _ _ _ _ _ _ e => e
end Nd

def wFor : Bs := [102, 111, 114]
def wIf : Bs := [105, 102]
def wElse : Bs := [101, 108, 115, 101]
def wEnd : Bs := [101, 110, 100]
def wInclude : Bs := [105, 110, 99, 108, 117, 100, 101]

/-- One token of a kind: its text and what is left; 'size' is the offset of the end. -/
def need (size : Nat) (k : Nat) : List Tk → Except Nat (Tk × List Tk)
  | [] => .error size
  | t :: r => if t.kind = k then .ok (t, r) else .error t.off

def num (w : Bs) : Int := w.foldl (fun n c => 10 * n + (c.toNat - 48 : Int)) 0

/-- Filters up to the tag's end. -/
def filtersS (size : Nat) : Nat → List Tk → List Bs → Except Nat (List Bs × List Tk)
  | 0, _, _ => .error 0
  | f + 1, ts, acc =>
    match ts with
    | t :: r => if t.kind = 5 then do let (n, r') ← need size 2 r; filtersS size f r' (acc ++ [n.text]) else .ok (acc, t :: r)
    | [] => .ok (acc, [])

mutual
/-- Nodes up to a tag of one of the words (or to the end): the nodes, the word, what is left. -/
def listS (size : Nat) : Nat → Nat → List Bs → List Tk → List Nd → Except Nat (List Nd × Bs × List Tk)
  | 0, _, _, _, _ => .error 0
  | f + 1, depth, words, ts, acc =>
    match ts with
    | [] => if words.isEmpty then .ok (acc, [], []) else .error size
    | t :: r =>
      if t.kind = 1 then listS size f depth words r (acc ++ [.mk 1 t.text [] [] 0 [] [] []])
      else do
        let (o, r1) ← need size 6 (t :: r)
        let (n, r2) ← need size 2 r1
        if n.text = wElse ∨ n.text = wEnd then
          if n.text ∈ words then do
            let (_, r3) ← need size 7 r2
            .ok (acc, n.text, r3)
          else .error n.off
        else if n.text = wFor ∨ n.text = wIf then
          if depth = 8 then .error o.off
          else do
            let (nd, r3) ← if n.text = wFor then loopS size f (depth + 1) r2 else condS size f (depth + 1) r2
            listS size f depth words r3 (acc ++ [nd])
        else if n.text = wInclude then do
          let (m, r3) ← need size 2 r2
          let (_, r4) ← need size 7 r3
          listS size f depth words r4 (acc ++ [.mk 5 [] m.text [] 0 [] [] []])
        else do
          let (fl, r3) ← filtersS size f r2 []
          let (_, r4) ← need size 7 r3
          listS size f depth words r4 (acc ++ [.mk 2 [] n.text [] 0 fl [] []])
def loopS (size : Nat) : Nat → Nat → List Tk → Except Nat (Nd × List Tk)
  | 0, _, _ => .error 0
  | f + 1, depth, ts => do
    let (n, r) ← need size 2 ts
    let (a, r) ← match r with
      | t :: r' => if t.kind = 4 then Except.ok (t.text, r') else .ok ([], t :: r')
      | [] => .ok ([], [])
    let (c, r) ← match r with
      | t :: r' => if t.kind = 3 then Except.ok (num t.text, r') else .ok (0, t :: r')
      | [] => .ok (0, [])
    let (_, r) ← need size 7 r
    let (k, _, r) ← listS size f depth [wEnd] r []
    .ok (.mk 3 [] n.text a c [] k [], r)
def condS (size : Nat) : Nat → Nat → List Tk → Except Nat (Nd × List Tk)
  | 0, _, _ => .error 0
  | f + 1, depth, ts => do
    let (n, r) ← need size 2 ts
    let (_, r) ← need size 7 r
    let (k, w, r) ← listS size f depth [wElse, wEnd] r []
    if w = wElse then do
      let (e, _, r) ← listS size f depth [wEnd] r []
      .ok (.mk 4 [] n.text [] 0 [] k e, r)
    else .ok (.mk 4 [] n.text [] 0 [] k [], r)
end

/-- 'Parse': the nodes, or the offset and the error. -/
def parse (s : Bs) : Except (Nat × Int) (List Nd) :=
  match tokens s with
  | .error a => .error (a, 90)
  | .ok ts =>
    match listS s.length (3 * ts.length + 3) 0 [] ts [] with
    | .error a => .error (a, 100)
    | .ok (l, _, _) => .ok l
end Tpl
/-
  What 'Print' and 'Same' compute, in plain Lean.
-/
namespace Tpl

/-- Printing. -/
def isKw (s : Bs) : Bool := decide (s = wFor) || decide (s = wIf) || decide (s = wElse) || decide (s = wEnd) || decide (s = wInclude)
def nameOk : Bs → Bool
  | [] => false
  | c :: r => decide ((c :: r).length ≤ 20) && isL c && (c :: r).all isW
def isT (c : UInt8) : Bool := decide (c.toNat = 10) || isP c
def txOk (s : Bs) : Bool := !s.isEmpty && s.all isT
def esc (s : Bs) : Bs := s.flatMap fun c => if c.toNat = 123 then [c, c] else [c]
def dig (n : Nat) : UInt8 := UInt8.ofNat (48 + n)
def decF : Nat → Nat → Bs
  | 0, _ => []
  | f + 1, n => if n < 10 then [dig n] else decF f (n / 10) ++ [dig (n % 10)]
def dec (n : Nat) : Bs := decF (n + 1) n

mutual
def formN : Nd → Bs
  | .mk k t n a c f ks es =>
    if k = 1 then esc t
    else if k = 2 then 123 :: (n ++ (f.flatMap (fun x => 124 :: x) ++ [125]))
    else if k = 3 then 123 :: (wFor ++ (32 :: (n ++ ((if a.isEmpty then [] else [32, 34] ++ (a ++ [34])) ++ ((if c = 0 then [] else 32 :: dec c.toNat) ++ (125 :: (formL ks ++ (123 :: (wEnd ++ [125])))))))))
    else if k = 4 then 123 :: (wIf ++ (32 :: (n ++ (125 :: (formL ks ++ ((if es.isEmpty then [] else 123 :: (wElse ++ (125 :: formL es))) ++ (123 :: (wEnd ++ [125]))))))))
    else if k = 5 then 123 :: (wInclude ++ (32 :: (n ++ [125])))
    else []
def formL : List Nd → Bs
  | [] => []
  | x :: r => formN x ++ formL r
end

mutual
def valN : Nd → Nat → Bool
  | .mk k t n a c f ks es, d =>
    if k = 1 then txOk t && (n.isEmpty && a.isEmpty && decide (c = 0) && f.isEmpty && ks.isEmpty && es.isEmpty)
    else if k = 2 then nameOk n && !isKw n && (t.isEmpty && a.isEmpty && decide (c = 0) && ks.isEmpty && es.isEmpty) && f.all nameOk
    else if k = 3 then decide (d < 8) && (nameOk n && decide (0 ≤ c) && decide (c ≤ 999999)) && (t.isEmpty && f.isEmpty && es.isEmpty) && a.all isA && valL ks (d + 1) false
    else if k = 4 then decide (d < 8) && nameOk n && (t.isEmpty && a.isEmpty && decide (c = 0) && f.isEmpty) && valL ks (d + 1) false && valL es (d + 1) false
    else decide (k = 5) && nameOk n && (t.isEmpty && a.isEmpty && decide (c = 0) && f.isEmpty && ks.isEmpty && es.isEmpty)
def valL : List Nd → Nat → Bool → Bool
  | [], _, _ => true
  | x :: r, d, prev => !(prev && decide (x.kind = 1)) && valN x d && valL r d (decide (x.kind = 1))
end

/-- 'Print'. -/
def print (l : List Nd) : Option Bs := if valL l 0 false && decide ((formL l).length ≤ 1000) then some (formL l) else none

mutual
def eqN : Nd → Nd → Bool
  | .mk k t n a c f ks es, .mk k' t' n' a' c' f' ks' es' => decide (k = k') && decide (t = t') && decide (n = n') && decide (a = a') && decide (c = c') && decide (f = f') && eqL ks ks' && eqL es es'
def eqL : List Nd → List Nd → Bool
  | [], [] => true
  | x :: r, y :: s => eqN x y && eqL r s
  | [], _ :: _ => false
  | _ :: _, [] => false
end

mutual
theorem eqN_iff : ∀ (x y : Nd), eqN x y = true ↔ x = y
  | .mk k t n a c f ks es, .mk k' t' n' a' c' f' ks' es' => by
    simp only [eqN, Bool.and_eq_true, decide_eq_true_eq, eqL_iff ks ks', eqL_iff es es', Nd.mk.injEq, and_assoc]
theorem eqL_iff : ∀ (l m : List Nd), eqL l m = true ↔ l = m
  | [], [] => by simp [eqL]
  | x :: r, y :: s => by simp only [eqL, Bool.and_eq_true, eqN_iff x y, eqL_iff r s, List.cons.injEq]
  | [], _ :: _ => by simp [eqL]
  | _ :: _, [] => by simp [eqL]
end

end Tpl
