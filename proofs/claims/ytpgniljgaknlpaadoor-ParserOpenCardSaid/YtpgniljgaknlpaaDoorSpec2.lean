import Derived.Test.YtpgniljgaknlpaaDoorSpec
/-
  What 'Print' and 'Same' compute, in plain Lean.
-/
namespace Tpl

/-- Printing. -/
def isKw (s : Bs) : Bool := decide (s = wFor) || decide (s = wIf) || decide (s = wElse) || decide (s = wEnd) || decide (s = wInclude)
def nameOk : Bs → Bool
  | [] => false
  | c :: r => decide ((c :: r).length ≤ 20) && isL c && (c :: r).all isW
def isT (c : UInt8) : Bool := decide (c.toNat = 10) || isP c
def txOk (s : Bs) : Bool := !s.isEmpty && s.all isT
def esc (s : Bs) : Bs := s.flatMap fun c => if c.toNat = 123 then [c, c] else [c]
def dig (n : Nat) : UInt8 := UInt8.ofNat (48 + n)
def decF : Nat → Nat → Bs
  | 0, _ => []
  | f + 1, n => if n < 10 then [dig n] else decF f (n / 10) ++ [dig (n % 10)]
def dec (n : Nat) : Bs := decF (n + 1) n

mutual
def formN : Nd → Bs
  | .mk k t n a c f ks es =>
    if k = 1 then esc t
    else if k = 2 then 123 :: (n ++ (f.flatMap (fun x => 124 :: x) ++ [125]))
    else if k = 3 then 123 :: (wFor ++ (32 :: (n ++ ((if a.isEmpty then [] else [32, 34] ++ (a ++ [34])) ++ ((if c = 0 then [] else 32 :: dec c.toNat) ++ (125 :: (formL ks ++ (123 :: (wEnd ++ [125])))))))))
    else if k = 4 then 123 :: (wIf ++ (32 :: (n ++ (125 :: (formL ks ++ ((if es.isEmpty then [] else 123 :: (wElse ++ (125 :: formL es))) ++ (123 :: (wEnd ++ [125]))))))))
    else if k = 5 then 123 :: (wInclude ++ (32 :: (n ++ [125])))
    else []
def formL : List Nd → Bs
  | [] => []
  | x :: r => formN x ++ formL r
end

mutual
def valN : Nd → Nat → Bool
  | .mk k t n a c f ks es, d =>
    if k = 1 then txOk t && (n.isEmpty && a.isEmpty && decide (c = 0) && f.isEmpty && ks.isEmpty && es.isEmpty)
    else if k = 2 then nameOk n && !isKw n && (t.isEmpty && a.isEmpty && decide (c = 0) && ks.isEmpty && es.isEmpty) && f.all nameOk
    else if k = 3 then decide (d < 8) && (nameOk n && decide (0 ≤ c) && decide (c ≤ 999999)) && (t.isEmpty && f.isEmpty && es.isEmpty) && a.all isA && valL ks (d + 1) false
    else if k = 4 then decide (d < 8) && nameOk n && (t.isEmpty && a.isEmpty && decide (c = 0) && f.isEmpty) && valL ks (d + 1) false && valL es (d + 1) false
    else decide (k = 5) && nameOk n && (t.isEmpty && a.isEmpty && decide (c = 0) && f.isEmpty && ks.isEmpty && es.isEmpty)
def valL : List Nd → Nat → Bool → Bool
  | [], _, _ => true
  | x :: r, d, prev => !(prev && decide (x.kind = 1)) && valN x d && valL r d (decide (x.kind = 1))
end

/-- 'Print'. -/
def print (l : List Nd) : Option Bs := if valL l 0 false && decide ((formL l).length ≤ 1000) then some (formL l) else none

mutual
def eqN : Nd → Nd → Bool
  | .mk k t n a c f ks es, .mk k' t' n' a' c' f' ks' es' => decide (k = k') && decide (t = t') && decide (n = n') && decide (a = a') && decide (c = c') && decide (f = f') && eqL ks ks' && eqL es es'
def eqL : List Nd → List Nd → Bool
  | [], [] => true
  | x :: r, y :: s => eqN x y && eqL r s
  | [], _ :: _ => false
  | _ :: _, [] => false
end

mutual
theorem eqN_iff : ∀ (x y : Nd), eqN x y = true ↔ x = y
  | .mk k t n a c f ks es, .mk k' t' n' a' c' f' ks' es' => by
    simp only [eqN, Bool.and_eq_true, decide_eq_true_eq, eqL_iff ks ks', eqL_iff es es', Nd.mk.injEq, and_assoc]
theorem eqL_iff : ∀ (l m : List Nd), eqL l m = true ↔ l = m
  | [], [] => by simp [eqL]
  | x :: r, y :: s => by simp only [eqL, Bool.and_eq_true, eqN_iff x y, eqL_iff r s, List.cons.injEq]
  | [], _ :: _ => by simp [eqL]
  | _ :: _, [] => by simp [eqL]
end

end Tpl
