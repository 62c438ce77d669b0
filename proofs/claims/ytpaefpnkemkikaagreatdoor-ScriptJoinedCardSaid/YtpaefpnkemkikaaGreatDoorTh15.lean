import Derived.Test.YtpaefpnkemkikaaGreatDoorTh14
namespace Scr
theorem join_snoc (c : UInt8) : ∀ (A : List Bs) (x : Bs), join c (A ++ [x]) = if A = [] then x else join c A ++ c :: x
 | [], x => by simp [join]
 | [a], x => by simp [join]
 | a :: b :: r, x => by
  have ih := join_snoc c (b :: r) x
  simp only [List.cons_append] at ih ⊢
  rw [join, ih]
  simp [join]
theorem doubled_snoc (rem : Bs) : ∀ (L : List Bs) (x : Bs), doubled rem (L ++ [x]) = doubled rem L ++ [rem, x]
 | [], x => rfl
 | a :: r, x => by simp only [List.cons_append, doubled, doubled_snoc rem r x]
theorem doubled_nil {rem : Bs} {L : List Bs} : doubled rem L = [] ↔ L = [] := by cases L <;> simp [doubled]
def dj (rem : Bs) (L : List Bs) : Bs := join 10 (doubled rem L)
theorem dj_succ (rem : Bs) (L : List Bs) {j : Nat} (hj : j < L.length) : dj rem (L.take (j + 1)) = (if j = 0 then rem else dj rem (L.take j) ++ [10] ++ rem) ++ [10] ++ L[j] := by
 have e : doubled rem (L.take (j + 1)) = (doubled rem (L.take j) ++ [rem]) ++ [L[j]] := by
  rw [List.take_succ_eq_append_getElem hj, doubled_snoc]; simp
 unfold dj
 rw [e, join_snoc, if_neg (by simp), join_snoc]
 have h0 : doubled rem (L.take j) = [] ↔ j = 0 := by
  rw [doubled_nil, List.take_eq_nil_iff]
  constructor
  ·rintro (h | h)
   ·exact h
   ·subst h; simp at hj
  ·exact Or.inl
 by_cases h : j = 0
 ·rw [if_pos (h0.2 h), if_pos h]; simp
 ·rw [if_neg (fun e => h (h0.1 e)), if_neg h]; simp
theorem dj_len (rem : Bs) : ∀ (L : List Bs), (dj rem L).length <= (L.flatMap (fun t => t ++ [10])).length + L.length * (rem.length + 1)
 | [] => by simp [dj, doubled, join]
 | [a] => by simp [dj, doubled, join]; omega
 | a :: b :: r => by
  have ih := dj_len rem (b :: r)
  unfold dj at ih ⊢
  simp only [doubled, join, List.length_append, List.length_cons, List.flatMap_cons, Nat.add_mul, Nat.one_mul, List.length_nil] at ih ⊢
  omega
theorem flat_take (L : List Bs) (j : Nat) : ((L.take j).flatMap (fun t => t ++ [10])).length <= (L.flatMap (fun t => t ++ [10])).length := by
 conv => rhs; rw [<- List.take_append_drop j L]
 rw [List.flatMap_append, List.length_append]; omega
theorem dj_bound {s rem : Bs} (hs : s.length <= 3000) (hr : rem.length <= 41) (j : Nat) : (dj rem ((parts 10 s).take j)).length <= 200000 := by
 have h1 := dj_len rem ((parts 10 s).take j)
 have h2 := flat_take (parts 10 s) j
 have h3 := join_len (parts_ne 10 s)
 rw [join_parts] at h3
 have h4 := parts_len 10 s
 have h5 : ((parts 10 s).take j).length <= 3001 := by rw [List.length_take]; omega
 have h6 : ((parts 10 s).take j).length * (rem.length + 1) <= 3001 * 42 := Nat.mul_le_mul h5 (by omega)
 omega
def hashL (r : Bs) : Bs := 35 :: r.filter (fun c => decide (c ≠ 10))
theorem hash_succ (r : Bs) {j : Nat} (hj : j < r.length) : hashL (r.take (j + 1)) = if r[j] = 10 then hashL (r.take j) else hashL (r.take j) ++ [r[j]] := by
 rw [List.take_succ_eq_append_getElem hj]
 unfold hashL
 rw [List.filter_append]
 by_cases h : r[j] = 10
 ·simp [h]
 ·simp [h]
theorem hash_len (r : Bs) : (hashL r).length <= r.length + 1 := by
 unfold hashL
 have := List.length_filter_le (fun c : UInt8 => decide (c ≠ 10)) r
 simp only [List.length_cons]; omega
theorem hash_nl (r : Bs) : (10 : UInt8) ∉ hashL r := by
 unfold hashL
 simp
theorem hash_skip (r : Bs) : skip (hashL r) = true := rfl
theorem line_len {s : Bs} {j : Nat} (hj : j < (parts 10 s).length) : (parts 10 s)[j].length <= s.length := by
 have h1 := join_len (parts_ne 10 s)
 rw [join_parts] at h1
 obtain ⟨p, q, h⟩ := List.append_of_mem (List.getElem_mem hj)
 rw [h] at h1
 simp only [List.flatMap_append, List.flatMap_cons, List.length_append, List.length_cons, List.length_nil] at h1
 omega
end Scr
