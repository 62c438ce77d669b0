import Derived.Test.YtncmhcfhbogjnaaT1
import Derived.Test.YtncmhcfhbogjnaaRows0
namespace Go.Proofs.Ytncmhcfhbogjnaa
open Go.RowKit Cdk

/-- A page: address, text, what it has read. -/
abbrev Pg := ByteArray × ByteArray × Value
def pgCells (p : Pg) : List Value := [.string p.1, .string p.2.1, p.2.2]
theorem pgCells_len (p : Pg) : (pgCells p).length = 3 := rfl
def findI (l : List Pg) (a : ByteArray) : Int := match l.findIdx? (fun p => decide (p.1 = a)) with | some i => i | none => -1
theorem findI_none {l : List Pg} {a : ByteArray} (h : ∀ j : Nat, j < l.length → ∀ p, l[j]? = some p → p.1 ≠ a) : findI l a = -1 := by
  have : l.findIdx? (fun p => decide (p.1 = a)) = none := by
    rw [List.findIdx?_eq_none_iff]
    intro p hp
    obtain ⟨j, hj, rfl⟩ := List.mem_iff_getElem.1 hp
    simpa using h j hj _ (List.getElem?_eq_getElem hj)
  unfold findI; rw [this]
theorem findI_some {l : List Pg} {a : ByteArray} {k : Nat} (hk : k < l.length) (h : ∀ j : Nat, j < k → ∀ p, l[j]? = some p → p.1 ≠ a) (he : l[k].1 = a) : findI l a = k := by
  have : l.findIdx? (fun p => decide (p.1 = a)) = some k := by
    rw [List.findIdx?_eq_some_iff_getElem]
    refine ⟨hk, by simpa using he, fun j hj => ?_⟩
    simpa using h j hj _ (List.getElem?_eq_getElem (by omega))
  unfold findI; rw [this]
theorem pg_at {w : World} {ao : Option Addr} {l : List Pg} (hr : RowIs w ao (l.flatMap pgCells)) {k : Nat} (hk : k < l.length) :
    ∃ b off, ao = some ⟨b, off, none⟩ ∧ w.cell? ⟨b, off + k * 3, none⟩ = some (.string l[k].1) ∧ w.cell? ⟨b, off + k * 3 + 1, none⟩ = some (.string l[k].2.1) ∧ w.cell? ⟨b, off + k * 3 + 2, none⟩ = some l[k].2.2 := by
  obtain ⟨b, off, rfl, hc⟩ := hr.at (by rw [flat_length _ 3 pgCells_len]; omega)
  have f := fun j => flat_get pgCells 3 pgCells_len l k j l[k] (List.getElem?_eq_getElem hk)
  exact ⟨b, off, rfl, hc (k * 3) _ (by simpa [pgCells] using f 0 (by omega)), by rw [Nat.add_assoc]; exact hc (k * 3 + 1) _ (by simpa [pgCells] using f 1 (by omega)),
    by rw [Nat.add_assoc]; exact hc (k * 3 + 2) _ (by simpa [pgCells] using f 2 (by omega))⟩

set_option maxHeartbeats 400000 in
theorem find_any (l : List Pg) (a : ByteArray) (ao : Option Addr) (cap : Nat) (w : World) (hr : RowIs w ao (l.flatMap pgCells)) (hl : l.length ≤ 9223372036854775807) :
    Calls Try.prog 34 #[.slice ao l.length cap, .string a] w fun e w' => e = .returned (.int .i64 (findI l a)) ∧ w = w' := by
  replace hr := hid hr
  go_enter Try.func34, Try.ntmps34
  go_wp2
  go_loopg [5] l.length (fun g i wr => ∃ k : Nat, k + g = l.length ∧ i = .int .i64 k ∧ wr = w ∧ ∀ j : Nat, j < k → ∀ p, l[j]? = some p → p.1 ≠ a)
  case atStart => exact ⟨0, by omega, rfl, rfl, fun j h => by omega⟩
  case round =>
    obtain ⟨k, hk, rfl, rfl, hno⟩ := hrel
    have hk' : k ≤ l.length := by omega
    replace hk := hid hk
    replace hno := hid hno
    by_cases hlt : k < l.length
    · obtain ⟨b, off, rfl, hc0, hc1, _⟩ := pg_at hr.out hlt
      by_cases he : l[k].1 = a
      · have hb : (l[k].1.toList == a.toList) = true := sEq_true he
        replace hf := hid (findI_some hlt hno.out he)
        clear he
        go_wp2
        go_ret
        rw [hf.out]; exact ⟨rfl, rfl⟩
      · have hb : (l[k].1.toList == a.toList) = false := sEq_false he
        replace he := hid he
        go_wp2
        go_roundg (gk - 1)
        case measure => have := hk.out; omega
        case rel => exact ⟨k + 1, by have := hk.out; omega, by go_num, rfl, fun j hj p hp => by
          rcases Nat.lt_succ_iff_lt_or_eq.1 hj with h | h
          · exact hno.out j h p hp
          · subst h; rw [List.getElem?_eq_getElem hlt] at hp; simp at hp; subst hp; exact he.out⟩
    · have hf : findI l a = -1 := findI_none (fun j hj => hno.out j (by omega))
      replace hf := hid hf
      go_wp2
      go_ret
      rw [hf.out]; exact ⟨rfl, rfl⟩
def textI (l : List Pg) (a : ByteArray) : Option ByteArray := (l.find? (fun p => decide (p.1 = a))).map (·.2.1)
end Go.Proofs.Ytncmhcfhbogjnaa
