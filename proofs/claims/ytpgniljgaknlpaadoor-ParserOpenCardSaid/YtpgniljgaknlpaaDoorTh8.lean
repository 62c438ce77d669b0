import Derived.Test.YtpgniljgaknlpaaDoorTh7
/-
  The theory of the parser, in plain Lean: what stays open behind an accepted source.
-/
namespace Tpl

/-- An error of the parser behind what was printed. -/
theorem parse_behind {l : List Nd} (h : valL l 0 false = true) {t : Bs} (ht : opn t = true) (hl : (formL l ++ t).length ≤ 1000) (hn : ∀ x ∈ lexS t (formL l).length none, x.kind ≠ 0) {e : Nat}
    (he : ∀ f acc, listS (formL l ++ t).length (f + 9) 0 [] (lexS t (formL l).length none) acc = .error e) (hlen : 2 ≤ (lexS t (formL l).length none).length) : parse (formL l ++ t) = .error (e, 100) := by
  obtain ⟨ts, h1, h2⟩ := lexL l 0 false h t 0 (.inr ht)
  rw [Nat.zero_add] at h1
  have hm : ∀ x ∈ lexS (formL l ++ t) 0 none, x.kind ≠ 0 := by
    rw [h1, List.forall_mem_append]
    exact ⟨fun x hx => h2.ne (kt x) (List.mem_map_of_mem hx), hn⟩
  refine parse_err hl hm ?_
  have hle := h2.len
  rw [List.length_map] at hle
  have hlen2 : (lexS (formL l ++ t) 0 none).length = ts.length + (lexS t (formL l).length none).length := by rw [h1, List.length_append]
  rw [hlen2, h1]
  generalize lexS t (formL l).length none = us at he hlen
  have e1 := listS_PNs (size := (formL l ++ t).length) h2 ts us rfl (3 * (ts.length + us.length) + 3 - l.length) [] [] (by omega)
  rw [show 3 * (ts.length + us.length) + 3 - l.length + l.length = 3 * (ts.length + us.length) + 3 by omega] at e1
  rw [e1]
  obtain ⟨g, hg⟩ : ∃ g, 3 * (ts.length + us.length) + 3 - l.length = g + 9 := ⟨3 * (ts.length + us.length) + 3 - l.length - 9, by omega⟩
  rw [hg]
  exact he g _

/-- An error of the lexer behind what was printed. -/
theorem lex_behind {l : List Nd} (h : valL l 0 false = true) {t : Bs} (ht : opn t = true) (hl : (formL l ++ t).length ≤ 1000) {x : Tk} (hx : (lexS t (formL l).length none).find? (fun t => decide (t.kind = 0)) = some x) : parse (formL l ++ t) = .error (x.off, 90) := by
  obtain ⟨ts, h1, h2⟩ := lexL l 0 false h t 0 (.inr ht)
  rw [Nat.zero_add] at h1
  have hf : (lexS (formL l ++ t) 0 none).find? (fun t => decide (t.kind = 0)) = some x := by
    rw [h1, List.find?_append, hx]
    have : ts.find? (fun t => decide (t.kind = 0)) = none := by
      rw [List.find?_eq_none]
      intro y hy
      have := h2.ne (kt y) (List.mem_map_of_mem hy)
      simpa [kt] using this
    rw [this]; rfl
  unfold parse tokens
  rw [if_neg (by omega)]
  simp only
  rw [show scan ((formL l ++ t).length + 1) (formL l ++ t) 0 none = lexS (formL l ++ t) 0 none from rfl, hf]

def opI : Bs := [123, 105, 102, 32, 97, 125]
def opF : Bs := [123, 102, 111, 114, 32, 98, 32, 51, 125]
def opE : Bs := [123, 105, 102, 32, 97, 125, 120, 123, 101, 108, 115, 101, 125]
def opN : Bs := [123, 102, 111, 114, 32, 99, 125, 123, 105, 102, 32, 100, 125, 123, 101, 110, 100, 125]
def opL : List Bs := [opI, opF, opE, opN]
def clE : Bs := [123, 101, 110, 100, 125]
def clL : Bs := [123, 101, 108, 115, 101, 125]
def clX : Bs := [123, 101, 110, 100, 125, 120]
def clY : Bs := [123, 101, 108, 115, 101, 32, 120]
def clo : List Bs := [clE, clL, clX, clY]

theorem lxI (o : Nat) : lexS opI o none = [⟨6, [123], o⟩, ⟨2, [105, 102], o + 1⟩, ⟨2, [97], o + 4⟩, ⟨7, [125], o + 5⟩] := rfl
theorem lxF (o : Nat) : lexS opF o none = [⟨6, [123], o⟩, ⟨2, [102, 111, 114], o + 1⟩, ⟨2, [98], o + 5⟩, ⟨3, [51], o + 7⟩, ⟨7, [125], o + 8⟩] := rfl
theorem lxE (o : Nat) : lexS opE o none = [⟨6, [123], o⟩, ⟨2, [105, 102], o + 1⟩, ⟨2, [97], o + 4⟩, ⟨7, [125], o + 5⟩, ⟨1, [120], o + 6⟩, ⟨6, [123], o + 7⟩, ⟨2, [101, 108, 115, 101], o + 8⟩, ⟨7, [125], o + 12⟩] := rfl
theorem lxN (o : Nat) : lexS opN o none = [⟨6, [123], o⟩, ⟨2, [102, 111, 114], o + 1⟩, ⟨2, [99], o + 5⟩, ⟨7, [125], o + 6⟩, ⟨6, [123], o + 7⟩, ⟨2, [105, 102], o + 8⟩, ⟨2, [100], o + 11⟩, ⟨7, [125], o + 12⟩, ⟨6, [123], o + 13⟩, ⟨2, [101, 110, 100], o + 14⟩, ⟨7, [125], o + 17⟩] := rfl
theorem lxCE (o : Nat) : lexS clE o none = [⟨6, [123], o⟩, ⟨2, [101, 110, 100], o + 1⟩, ⟨7, [125], o + 4⟩] := rfl
theorem lxCL (o : Nat) : lexS clL o none = [⟨6, [123], o⟩, ⟨2, [101, 108, 115, 101], o + 1⟩, ⟨7, [125], o + 5⟩] := rfl
theorem lxCX (o : Nat) : lexS clX o none = [⟨6, [123], o⟩, ⟨2, [101, 110, 100], o + 1⟩, ⟨7, [125], o + 4⟩, ⟨1, [120], o + 5⟩] := rfl
theorem lxCY (o : Nat) : lexS clY o none = [⟨6, [123], o⟩, ⟨2, [101, 108, 115, 101], o + 1⟩, ⟨2, [120], o + 6⟩, ⟨0, [], o⟩] := rfl

theorem open_len : ∀ t ∈ opL, t.length ≤ 18 ∧ opn t = true := by decide
theorem clo_len : ∀ t ∈ clo, t.length ≤ 7 ∧ opn t = true := by decide

/-- What is opened behind a source is reported at its end. -/
theorem parse_open {l : List Nd} (h : valL l 0 false = true) (hl : (formL l).length ≤ 900) : ∀ t ∈ opL, parse (formL l ++ t) = .error ((formL l ++ t).length, 100) := by
  intro t ht
  have hb := open_len t ht
  have hlen : (formL l ++ t).length ≤ 1000 := by rw [List.length_append]; omega
  simp only [opL, List.mem_cons, List.not_mem_nil, or_false] at ht
  rcases ht with rfl | rfl | rfl | rfl
  · exact parse_behind h hb.2 hlen (by rw [lxI]; simp) (fun f acc => by rw [lxI]; rfl) (by rw [lxI]; simp)
  · exact parse_behind h hb.2 hlen (by rw [lxF]; simp) (fun f acc => by rw [lxF]; rfl) (by rw [lxF]; simp)
  · exact parse_behind h hb.2 hlen (by rw [lxE]; simp) (fun f acc => by rw [lxE]; rfl) (by rw [lxE]; simp)
  · exact parse_behind h hb.2 hlen (by rw [lxN]; simp) (fun f acc => by rw [lxN]; rfl) (by rw [lxN]; simp)

/-- What ends nothing is reported at its word. -/
theorem parse_close {l : List Nd} (h : valL l 0 false = true) (hl : (formL l).length ≤ 900) : ∀ t ∈ clo, parse (formL l ++ t) = if t = clY then .error ((formL l).length, 90) else .error ((formL l).length + 1, 100) := by
  intro t ht
  have hb := clo_len t ht
  have hlen : (formL l ++ t).length ≤ 1000 := by rw [List.length_append]; omega
  simp only [clo, List.mem_cons, List.not_mem_nil, or_false] at ht
  rcases ht with rfl | rfl | rfl | rfl
  · rw [if_neg (by decide)]
    exact parse_behind h hb.2 hlen (by rw [lxCE]; simp) (fun f acc => by rw [lxCE]; rfl) (by rw [lxCE]; simp)
  · rw [if_neg (by decide)]
    exact parse_behind h hb.2 hlen (by rw [lxCL]; simp) (fun f acc => by rw [lxCL]; rfl) (by rw [lxCL]; simp)
  · rw [if_neg (by decide)]
    exact parse_behind h hb.2 hlen (by rw [lxCX]; simp) (fun f acc => by rw [lxCX]; rfl) (by rw [lxCX]; simp)
  · rw [if_pos rfl]
    exact lex_behind h hb.2 hlen (x := ⟨0, [], (formL l).length⟩) (by rw [lxCY]; rfl)
end Tpl
