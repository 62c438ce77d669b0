import Derived.Test.YtpaefpnkemkikaaGreatDoorF4
namespace Scr
def kept (L : List Bs) : Bs := (L.filter (fun t => !skip t)).flatMap (fun t => t ++ [10])
theorem kept_succ (L : List Bs) {j : Nat} (hj : j < L.length) : kept (L.take (j + 1)) = if skip L[j] then kept (L.take j) else kept (L.take j) ++ L[j] ++ [10] := by
 rw [List.take_succ_eq_append_getElem hj]
 unfold kept
 rw [List.filter_append, List.flatMap_append]
 by_cases h : skip L[j] = true
 ·simp [h]
 ·simp [h]
theorem kept_len (L : List Bs) (j : Nat) : (kept (L.take j)).length <= (kept L).length := by
 conv => rhs; rw [<- List.take_append_drop j L]
 unfold kept
 rw [List.filter_append, List.flatMap_append, List.length_append]
 omega
theorem kept_parts (s : Bs) : (kept (parts 10 s)).length <= s.length + 1 := by
 unfold kept
 have h1 := filter_len (parts 10 s) (fun t => !skip t)
 have h2 := join_len (parts_ne 10 s)
 rw [join_parts] at h2
 omega
theorem kept_bound (s : Bs) {j : Nat} (hj : j < (parts 10 s).length) (h : skip (parts 10 s)[j] = false) : (kept ((parts 10 s).take j)).length + (parts 10 s)[j].length + 1 <= s.length + 1 := by
 have h1 := kept_len (parts 10 s) (j + 1)
 rw [kept_succ _ hj, h] at h1
 have h2 := kept_parts s
 simp at h1
 omega
theorem all_succ (l : List Ac) {j : Nat} (hj : j < l.length) (p : Ac -> Bool) : (l.take (j + 1)).all p = ((l.take j).all p && p l[j]) := by
 rw [List.take_succ_eq_append_getElem hj, List.all_append]; simp
theorem plS_succ (l : List Ac) {j : Nat} (hj : j < l.length) : plS (l.take (j + 1)) = plS (l.take j) + pl l[j] := by
 rw [List.take_succ_eq_append_getElem hj, plS_app]; simp [plS]
theorem plS_le : ∀ l : List Ac, plS l <= l.length * 65536
 | [] => by simp [plS]
 | x :: r => by have := plS_le r; have := pl_le x; simp only [plS, List.length_cons]; omega
theorem map_succG {α β : Type} (f : α -> β) (l : List α) {j : Nat} (hj : j < l.length) : (l.take (j + 1)).map f = (l.take j).map f ++ [f l[j]] := by
 rw [List.take_succ_eq_append_getElem hj, List.map_append]; rfl
end Scr
