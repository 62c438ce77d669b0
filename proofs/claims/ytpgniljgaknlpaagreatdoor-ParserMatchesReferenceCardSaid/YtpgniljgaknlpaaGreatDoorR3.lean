import Derived.Test.YtpgniljgaknlpaaGreatDoorR2
import Derived.Test.YtpgniljgaknlpaaGreatDoorThAll
/-
  The reference lexer's 'tag' and 'Tokens'.
-/
namespace Go.Proofs.YtpgniljgaknlpaaGreatDoor
open Go.RowKit Cdk Tpl

theorem opn_opens (l : Bs) (hne : l ≠ []) : opn l = opensB l := by
  cases l with
  | nil => exact absurd rfl hne
  | cons c r => cases r <;> simp [opn, opensB]

theorem Own.ne {α : Type} {f : α → List Value} {base : Nat} {e : TypeId} {size : Nat} {w : World} {v : Value} {xs : List α} (h : Cdk.Own w base e size f v xs) {B : Nat} (hB : w.heap.size ≤ B) : v.ownBlock ≠ some B := fun e => by
  have := (h.block B e).2; omega

/-- What 'tag' answers. -/
def TagP (L : Bs) (k base : Nat) (acc : List Tk) (w : World) (e : Ending) (w' : World) : Prop :=
  Mod (fun b => base ≤ b) w w' ∧
  ((∃ toks i v', e = .returned (.tuple #[v', .int .i64 (i : Nat), .bool false]) ∧ Cdk.Own w' base 77 3 tokC v' (acc ++ ⟨6, [123], k⟩ :: toks) ∧ k < i ∧ i ≤ L.length ∧ toks.length + 1 ≤ i - k ∧ (∀ t ∈ toks, t.kind ≠ 0) ∧ lexS (L.drop (k + 1)) (k + 1) (some k) = toks ++ lexS (L.drop i) i none)
  ∨ (∃ toks off, e = .returned (.tuple #[.slice none 0 0, .int .i64 (off : Nat), .bool true]) ∧ (∀ t ∈ toks, t.kind ≠ 0) ∧ lexS (L.drop (k + 1)) (k + 1) (some k) = toks ++ [⟨0, [], off⟩]))

set_option maxRecDepth 100000 in
set_option maxHeartbeats 8000000 in
theorem tag_any (s : ByteArray) (k : Nat) (hk : k < s.size) (hs : s.size ≤ 1000) (base : Nat) (v0 : Value) (acc : List Tk) (w : World) (h0 : Cdk.Own w base 77 3 tokC v0 acc) (hbw : base ≤ w.heap.size) (hal : acc.length ≤ 1000) :
    Calls Tryz.prog 41 #[.string s, .int .i64 k, v0] w (TagP s.data.toList k base acc w) := by
  obtain ⟨L, hL⟩ : ∃ L, L = s.data.toList := ⟨_, rfl⟩
  have hLn : L.length = s.size := by rw [hL]; rfl
  rw [← hL]
  obtain ⟨post, hpost⟩ : ∃ post, post = TagP L k base acc w := ⟨_, rfl⟩
  rw [← hpost]
  have hwk : IntKind.i64.wrap ((k : Int) + 1) = ((k + 1 : Nat) : Int) := by rw [Go.IntWalk.i64_in _ (by omega)]; omega
  replace hpost := hid hpost
  replace hLn := hid hLn
  replace hL := hid hL
  replace h0 := hid h0
  go_enter Tryz.func41, Tryz.ntmps41
  go_upto_region 3 with (at_builtin; refine wpList_app rfl _ _ _ rfl Tryz.underlying46 el69 rfl (h0.out.ext ((Mod.refl _ _).alloc _)) _ 1 1 rfl [⟨6, [123], k⟩] rfl (by exact RowIs.new _ _ _) tokC_len (fun z hz u hu => ?_) (by simp only [List.length_singleton]; omega) (by rw [World.size_alloc]; omega) (by simp) (fun v1 w1 H1 => ?_))
  · simp only [List.mem_singleton] at hz
    subst hz
    simp only [tokC, List.mem_cons, List.not_mem_nil, or_false] at hu
    rcases hu with rfl | rfl | rfl <;> rfl
  have hown1 := H1.out.1
  have hm1 : Mod (fun b => base ≤ b) w w1 := ((Mod.refl (fun b => base ≤ b) w).alloc _).then H1.out.2 (fun b _ e => (h0.out.block b e).1)
  clear H1
  go_loopg [9, 10] (s.size - (k + 1)) (fun g v i wr => ∃ (j : Nat) (toks : List Tk), k + 1 ≤ j ∧ j + g = s.size ∧ i = .int .i64 j ∧ Cdk.Own wr base 77 3 tokC v (acc ++ ⟨6, [123], k⟩ :: toks) ∧ Mod (fun b => base ≤ b) w wr ∧
      Hid (lexS (L.drop (k + 1)) (k + 1) (some k) = toks ++ lexS (L.drop j) j (some k)) ∧ toks.length + 1 ≤ j - k ∧ Hid (∀ t ∈ toks, t.kind ≠ 0))
  case atStart => exact ⟨k + 1, [], Nat.le_refl _, by omega, by first | rfl | (rw [← hwk]), hown1, hm1, hid (by simp), by simp only [List.length_nil]; omega, hid (by simp)⟩
  case round =>
    clear hown1 hm1
    obtain ⟨j, toks, hkj, hj, rfl, hown, hm, hlex, htl, htk⟩ := hrel
    have hjs : j ≤ s.size := by omega
    replace hj := hid hj
    replace hm := hid hm
    replace hown := hid hown
    by_cases hlt : j < s.size
    · have hdj : L.drop j = s[j] :: L.drop (j + 1) := by rw [hL.out]; exact drop_at s hlt
      have hw1 : IntKind.i64.wrap ((j : Int) + 1) = ((j + 1 : Nat) : Int) := by rw [Go.IntWalk.i64_in _ (by omega)]; omega
      cases h32 : (((s[j]).toNat : Int) == 32) with
      | true =>
        have h32' : (s[j]).toNat = 32 := by have : ((s[j]).toNat : Int) = 32 := (by simpa using h32); omega
        have hlex := hlex.out
        rw [hdj, lexS_sp j k (.inl h32')] at hlex
        replace hlex := hid hlex
        clear hdj h32'
        go_wp2_with fail
        go_roundg (gk - 1)
        case measure => have := hj.out; omega
        case rel => exact ⟨j + 1, toks, by omega, by have := hj.out; omega, by first | rfl | go_num, hown.out, hm.out, hlex, by omega, htk⟩
      | false =>
        cases h10 : (((s[j]).toNat : Int) == 10) with
        | true =>
          have h10' : (s[j]).toNat = 10 := by have : ((s[j]).toNat : Int) = 10 := (by simpa using h10); omega
          have hlex := hlex.out
          rw [hdj, lexS_sp j k (.inr h10')] at hlex
          replace hlex := hid hlex
          clear hdj h10'
          go_wp2_with fail
          go_roundg (gk - 1)
          case measure => have := hj.out; omega
          case rel => exact ⟨j + 1, toks, by omega, by have := hj.out; omega, by first | rfl | go_num, hown.out, hm.out, hlex, by omega, htk⟩
        | false =>
          have hns : ¬ ((s[j]).toNat = 32 ∨ (s[j]).toNat = 10) := by
            have h1 : ¬ ((s[j]).toNat : Int) = 32 := by simpa using h32
            have h2 : ¬ ((s[j]).toNat : Int) = 10 := by simpa using h10
            omega
          have hone := one_any s j hlt hs wr
          rw [← hL.out, hdj] at hone
          have hlex := hlex.out
          cases hp : Tpl.part s[j] (L.drop (j + 1)) with
          | none =>
            have hr : oneR (s[j] :: L.drop (j + 1)) j = (⟨0, [], 0⟩, -1) := by simp only [oneR, hp]
            rw [hr] at hone
            rw [hdj, lexS_wrong j k hns hp] at hlex
            unfold tokV at hone
            replace hone := hid hone
            replace hlex := hid hlex
            clear hdj hns hp hr
            go_wp2_with fail
            refine hone.out.mono ?_; rintro e w' ⟨rfl, hx'⟩
            have hm' := hid (hm.out.trans (hx'.mono (fun _ h => h.elim)))
            have hxa := Mod.alloc (Mod.refl (fun b => base ≤ b) w') (.cells #[.int .i64 0, .string ⟨#[]⟩, .int .i64 0] 77)
            have hB := heap_alloc_new w' (.cells #[.int .i64 0, .string ⟨#[]⟩, .int .i64 0] 77)
            have fz := free_of' hB
            have hbw' : base ≤ w'.heap.size := by have := hm'.out.size; omega
            go_wp2_with fail
            refine bodyPost_ret (results_tmp3 rfl _ _ _) rfl ?_
            rw [hpost.out]
            refine ⟨?_, .inr ⟨toks, j, rfl, htk.out, hlex.out⟩⟩
            refine hm'.out.trans ?_
            first
              | exact hxa
              | exact ((hxa.setCell (fun _ => hbw') _).setCell (fun _ => hbw') _).setCell (fun _ => hbw') _
          | some x =>
            obtain ⟨kd, tx, n, t⟩ := x
            have hr : oneR (s[j] :: L.drop (j + 1)) j = (⟨kd, tx, j⟩, ((j + n : Nat) : Int)) := by simp only [oneR, hp]
            obtain ⟨ht, hn1, hn2, hk0⟩ := part_rest hp
            rw [← hdj, List.drop_drop] at ht
            have hrl : (L.drop (j + 1)).length + (j + 1) = s.size := by rw [List.length_drop, hLn.out]; omega
            rw [hr] at hone
            rw [hdj, lexS_part j k hns hp, ht] at hlex
            obtain ⟨i, hi⟩ : ∃ i, i = j + n := ⟨_, rfl⟩
            rw [← hi] at hone hlex
            have his : i ≤ s.size := by omega
            have hi0 : ¬ (i : Int) < 0 := by omega
            have hij : j < i := by omega
            unfold tokV at hone
            replace hone := hid hone
            replace hlex := hid hlex
            clear hdj hns hp hr ht hn1 hn2 hrl
            replace hi := hid hi
            go_wp2_with fail
            refine hone.out.mono ?_; rintro e w' ⟨rfl, hx'⟩
            have hm' := hid (hm.out.trans (hx'.mono (fun _ h => h.elim)))
            have hown' := hid (hown.out.ext hx')
            have hbw' : base ≤ w'.heap.size := by have := hm'.out.size; omega
            clear hown hm hone hx'
            go_upto_region 9 with fail
            have hxa := Mod.alloc (Mod.refl (fun _ => False) w') (.cells #[.int .i64 kd, .string ⟨tx.toArray⟩, .int .i64 j] 77)
            have hB := heap_alloc_new w' (.cells #[.int .i64 kd, .string ⟨tx.toArray⟩, .int .i64 j] 77)
            have hsz := World.size_alloc w' (.cells #[.int .i64 kd, .string ⟨tx.toArray⟩, .int .i64 j] 77)
            generalize (w'.alloc (.cells #[.int .i64 kd, .string ⟨tx.toArray⟩, .int .i64 j] 77)) = wB at hxa hB hsz ⊢
            obtain ⟨B, hBs⟩ : ∃ B, B = w'.heap.size := ⟨_, rfl⟩
            rw [← hBs] at hB hbw' hsz ⊢
            have hownB := hid (hown'.out.ext hxa)
            have hBne := hid (Own.ne hown'.out (Nat.le_of_eq hBs.symm))
            have hmB := hid (hm'.out.trans (hxa.mono (T := fun b => base ≤ b) (fun _ h => h.elim)))
            have q0 : wB.cell? ⟨B, 0, none⟩ = some (.int .i64 kd) := cell_of' hB 0
            have q1 : wB.cell? ⟨B, 1, none⟩ = some (.string ⟨tx.toArray⟩) := cell_of' hB 1
            have q2 : wB.cell? ⟨B, 2, none⟩ = some (.int .i64 j) := cell_of' hB 2
            replace hB := hid hB
            replace hsz := hid hsz
            replace hBs := hid hBs
            clear hm' hown' hxa
            go_upto_region 10 with (at_builtin; refine wpList_app rfl _ _ _ rfl Tryz.underlying46 el69 rfl (hownB.out.ext ((Mod.refl _ _).alloc _)) _ 1 1 rfl [⟨kd, tx, j⟩] rfl (by exact RowIs.new _ _ _) tokC_len (fun z hz u hu => ?_) (by simp only [List.length_singleton, List.length_append, List.length_cons, List.length_nil]; omega) (by have := hsz.out; rw [World.size_alloc]; omega) (by simp) (fun v2 w2 H2 => ?_))
            · simp only [List.mem_singleton] at hz
              subst hz
              simp only [tokC, List.mem_cons, List.not_mem_nil, or_false] at hu
              rcases hu with rfl | rfl | rfl <;> rfl
            have hB2 := H2.out.2.at ((Mod.alloc (Mod.refl (fun _ => False) wB) _).at hB.out (fun h => h)) (fun e => hBne.out e)
            have c0 : w2.cell? ⟨B, 0, none⟩ = some (.int .i64 kd) := cell_of' hB2 0
            have c1 : w2.cell? ⟨B, 1, none⟩ = some (.string ⟨tx.toArray⟩) := cell_of' hB2 1
            have c2 : w2.cell? ⟨B, 2, none⟩ = some (.int .i64 j) := cell_of' hB2 2
            have hown2 := H2.out.1
            have hm2 : Mod (fun b => base ≤ b) w w2 := (hmB.out.alloc _).then H2.out.2 (fun b _ e => (hownB.out.block b e).1)
            rw [List.append_assoc, List.cons_append] at hown2
            replace hown2 := hid hown2
            replace hm2 := hid hm2
            clear hB2 q0 q1 q2 H2 hownB hmB hB
            have htk' : Hid (∀ t ∈ toks ++ [⟨kd, tx, j⟩], t.kind ≠ 0) := hid (fun t ht => by
              rcases List.mem_append.1 ht with ht | ht
              · exact htk.out t ht
              · simp only [List.mem_singleton] at ht; subst ht; exact hk0)
            cases h7 : ((kd : Int) == 7) with
            | true =>
              have h7' : kd = 7 := by have : (kd : Int) = 7 := (by simpa using h7); omega
              have hlex := hlex.out
              rw [if_pos h7'] at hlex
              replace hlex := hid hlex
              clear h7' hk0
              go_wp2_with fail
              refine bodyPost_ret (results_tmp3 rfl _ _ _) rfl ?_
              rw [hpost.out]
              exact ⟨hm2.out, .inl ⟨toks ++ [⟨kd, tx, j⟩], i, v2, rfl, hown2.out, by omega, by have := hLn.out; omega, by simp only [List.length_append, List.length_singleton]; omega, htk'.out, by rw [hlex.out]; simp⟩⟩
            | false =>
              have h7' : ¬ kd = 7 := by have : ¬ (kd : Int) = 7 := (by simpa using h7); omega
              have hlex := hlex.out
              rw [if_neg h7'] at hlex
              replace hlex := hid hlex
              clear h7' hk0
              go_wp2_with fail
              go_roundg (s.size - i)
              case measure => have := hj.out; omega
              case rel => exact ⟨i, toks ++ [⟨kd, tx, j⟩], by omega, by omega, rfl, hown2.out, hm2.out, hid (by rw [hlex.out]; simp), by simp only [List.length_append, List.length_singleton]; omega, htk'⟩
    · obtain rfl : j = s.size := by omega
      have hdj : L.drop s.size = [] := List.drop_eq_nil_of_le (by rw [hLn.out]; exact Nat.le_refl _)
      have hlex := hlex.out
      rw [hdj, lexS_nil_tag] at hlex
      replace hlex := hid hlex
      clear hdj
      go_wp2_with fail
      refine bodyPost_ret (results_tmp3 rfl _ _ _) rfl ?_
      rw [hpost.out]
      exact ⟨hm.out, .inr ⟨toks, k, rfl, htk.out, hlex.out⟩⟩

set_option maxRecDepth 100000 in
set_option maxHeartbeats 8000000 in
theorem rTokens_any (s : ByteArray) (w : World) : Calls Tryz.prog 24 #[.string s] w (TokPost w s.data.toList) := by
  obtain ⟨L, hL⟩ : ∃ L, L = s.data.toList := ⟨_, rfl⟩
  have hLn : L.length = s.size := by rw [hL]; rfl
  rw [← hL]
  obtain ⟨post, hpost⟩ : ∃ post, post = TokPost w L := ⟨_, rfl⟩
  rw [← hpost]
  replace hpost := hid hpost
  by_cases h1000 : s.size ≤ 1000
  · have hbig : ¬ (1000 : Int) < (s.size : Int) := by omega
    have hbad : Hid (∀ p off, lexS L 0 none = p ++ [⟨0, [], off⟩] → (∀ t ∈ p, t.kind ≠ 0) → tokens L = .error off) := hid (fun p off h1 h2 =>
      Go.Proofs.YtpgniljgaknlpaaGreatDoor.tokens_bad (t := ⟨0, [], off⟩) (by omega) (p := p) ⟨[], by rw [List.append_nil]; exact h1.symm⟩ rfl h2)
    have hgood : Hid (∀ p, lexS L 0 none = p → (∀ t ∈ p, t.kind ≠ 0) → tokens L = .ok p) := hid (fun p h1 h2 => by
      rw [← h1] at h2 ⊢
      exact Go.Proofs.YtpgniljgaknlpaaGreatDoor.tokens_ok (by omega) h2)
    replace hLn := hid hLn
    replace hL := hid hL
    go_enter Tryz.func24, Tryz.ntmps24
    go_wp2_with fail
    go_loopg [5, 6] s.size (fun g v i wr => ∃ (j : Nat) (toks : List Tk), j + g = s.size ∧ i = .int .i64 j ∧ Cdk.Own wr w.heap.size 77 3 tokC v toks ∧ Ext w wr ∧
        Hid (lexS L 0 none = toks ++ lexS (L.drop j) j none) ∧ toks.length ≤ j ∧ Hid (∀ t ∈ toks, t.kind ≠ 0))
    case atStart => exact ⟨0, [], by omega, rfl, Own.nil _ _ _ _ _, Mod.refl _ _, hid (by simp), by simp, hid (by simp)⟩
    case round =>
      obtain ⟨j, toks, hj, rfl, hown, hx, hlex, htl, htk⟩ := hrel
      have hjs : j ≤ s.size := by omega
      have hbw : w.heap.size ≤ wr.heap.size := hx.size
      replace hj := hid hj
      replace hx := hid hx
      by_cases hlt : j < s.size
      · have hdj : L.drop j = s[j] :: L.drop (j + 1) := by rw [hL.out]; exact drop_at s hlt
        have hte := textEnd_any s j hlt h1000 wr
        rw [← hL.out] at hte
        have hlex := hlex.out
        obtain ⟨n, hn⟩ : ∃ n, n = (lit (L.drop j)).2.1 := ⟨_, rfl⟩
        have hll := (lit_len _ (L.drop j) (Nat.le_refl _)).1
        rw [← hn, List.length_drop, hLn.out] at hll
        obtain ⟨i, hi⟩ : ∃ i, i = j + n := ⟨_, rfl⟩
        have his : i ≤ s.size := by omega
        cases hok : (lit (L.drop j)).2.2.2 with
        | false =>
          have hop : opn (L.drop j) = false := by
            cases ho : opn (L.drop j) with
            | false => rfl
            | true =>
              rw [opn_opens _ (by rw [hdj]; simp), hdj] at ho
              rw [hdj, lit_open ho] at hok
              cases hok
          have hr : txE (L.drop j) j = (((i : Nat) : Int), [], ((i : Nat) : Int)) := by unfold txE; rw [hok, if_neg (by decide), ← hn, ← hi]
          rw [hdj] at hop hok hn
          rw [hdj, lexS_bad j hop hok, ← hn, ← hi] at hlex
          rw [hr] at hte
          have htok := hbad.out toks i hlex htk.out
          have hi0 : (0 : Int) ≤ (i : Int) := by omega
          replace htok := hid htok
          replace hte := hid hte
          replace hlex := hid hlex
          clear hdj hop hok hr hn hi hll
          go_wp2_with fail
          refine hte.out.mono ?_; rintro e w' ⟨rfl, hx'⟩
          replace hx' := hid hx'
          go_wp2_with fail
          refine bodyPost_ret (results_tmp3 rfl _ _ _) rfl ?_
          rw [hpost.out]
          refine ⟨hx.out.trans hx'.out, ?_⟩
          rw [htok.out]
          rfl
        | true =>
          have hr : txE (L.drop j) j = (((i : Nat) : Int), (lit (L.drop j)).1, -1) := by unfold txE; rw [hok, if_pos rfl, ← hn, ← hi]
          rw [hr] at hte
          by_cases hn0 : 0 < n
          · have hop : opn (L.drop j) = false := by
              cases ho : opn (L.drop j) with
              | false => rfl
              | true =>
                rw [opn_opens _ (by rw [hdj]; simp), hdj] at ho
                rw [hdj, lit_open ho] at hn
                simp only at hn; omega
            have hrest := lit_rest _ (L.drop j) (Nat.le_refl _)
            rw [← hn, List.drop_drop, ← hi] at hrest
            have hrest' := hrest
            rw [hdj] at hop hok hn hrest'
            obtain ⟨tx, htx⟩ : ∃ tx, tx = (lit (L.drop j)).1 := ⟨_, rfl⟩
            rw [hdj] at htx
            rw [hdj, lexS_lit j hop hok, hrest', ← hn, ← hi, ← htx] at hlex
            rw [hdj, ← htx] at hte
            have hij : (j : Int) < (i : Int) := by omega
            have hji : j < i := by omega
            have htk' : Hid (∀ t ∈ toks ++ [⟨1, tx, j⟩], t.kind ≠ 0) := hid (fun t ht => by
              rcases List.mem_append.1 ht with ht | ht
              · exact htk.out t ht
              · simp only [List.mem_singleton] at ht; subst ht; simp)
            replace hte := hid hte
            replace hlex := hid hlex
            replace hown := hid hown
            clear hdj hop hok hr hn hll hrest hrest' htx hn0
            replace hi := hid hi
            go_wp2_with fail
            refine hte.out.mono ?_; rintro e w' ⟨rfl, hx'⟩
            have hown' := hid (hown.out.ext hx')
            have hx2 := hid (hx.out.trans hx')
            clear hx hx' hown hte
            go_wp2_with (at_builtin; refine wpList_app rfl _ _ _ rfl Tryz.underlying46 el69 rfl (hown'.out.ext ((Mod.refl _ _).alloc _)) _ 1 1 rfl [⟨1, tx, j⟩] rfl (by exact RowIs.new _ _ _) tokC_len (fun z hz u hu => ?_) (by simp only [List.length_singleton]; omega) (by have := hx2.out.size; rw [World.size_alloc]; omega) (by simp) (fun v2 w2 H2 => ?_))
            · simp only [List.mem_singleton] at hz
              subst hz
              simp only [tokC, List.mem_cons, List.not_mem_nil, or_false] at hu
              rcases hu with rfl | rfl | rfl <;> rfl
            go_wp2_with fail
            go_roundg (s.size - i)
            case measure => have := hj.out; omega
            case rel => exact ⟨i, toks ++ [⟨1, tx, j⟩], by omega, rfl, H2.out.1, (hx2.out.alloc _).then H2.out.2 (fun b hb e => by have := (hown'.out.block b e).1; omega), hid (by rw [hlex.out]; simp), by simp only [List.length_append, List.length_singleton]; omega, htk'⟩
          · have hop : opn (L.drop j) = true := by
              cases ho : opn (L.drop j) with
              | true => rfl
              | false =>
                rw [opn_opens _ (by rw [hdj]; simp), hdj] at ho
                rw [hdj] at hn hok
                have := lit_pos ho hok
                omega
            have hi2 : i = j := by omega
            rw [hi2] at hte
            have h123 : s[j] = 123 := by
              rw [hdj] at hop
              simp only [opn, Bool.and_eq_true, decide_eq_true_eq] at hop
              exact UInt8.toNat_inj.1 (by rw [hop.1]; rfl)
            rw [hdj] at hop
            rw [hdj, lexS_opn j hop, h123] at hlex
            have hlit0 : (lit (L.drop j)).1 = [] := by
              rw [opn_opens _ (by simp)] at hop
              rw [hdj, lit_open hop]
            rw [hlit0] at hte
            have hij : ¬ (j : Int) < (j : Int) := by omega
            have hdl : (L.drop (j + 1)).length = s.size - (j + 1) := by rw [List.length_drop, hLn.out]
            have htag := hid (fun w' v (h : Cdk.Own w' w.heap.size 77 3 tokC v toks) (hb : w.heap.size ≤ w'.heap.size) => tag_any s j hlt h1000 w.heap.size v toks w' h hb (by omega))
            replace hte := hid hte
            replace hlex := hid hlex
            replace hown := hid hown
            clear hdj hop hok hr hn hll h123 hi2 hlit0 hi hn0 his
            go_wp2_with fail
            refine hte.out.mono ?_; rintro e w' ⟨rfl, hx'⟩
            have hown' := hid (hown.out.ext hx')
            have hx2 := hid (hx.out.trans hx')
            clear hx hx' hown hte
            go_wp2_with fail
            refine (htag.out w' _ hown'.out hx2.out.size).mono ?_
            rintro e w3 ⟨hm3, hcase⟩
            rw [← hL.out] at hcase
            have hx3 : Hid (Ext w w3) := hid (hx2.out.then hm3 (fun b hb e => by have : w.heap.size ≤ b := e; omega))
            clear htag hm3
            rcases hcase with ⟨ts, i2, v2, rfl, hown2, hi1, hi2, hl2, hk2, hlex2⟩ | ⟨ts, off, rfl, hk2, hlex2⟩
            · have hlex3 := hlex.out
              rw [hlex2] at hlex3
              rw [hLn.out] at hi2
              have htk' : Hid (∀ t ∈ toks ++ ⟨6, [123], j⟩ :: ts, t.kind ≠ 0) := hid (fun t ht => by
                rcases List.mem_append.1 ht with ht | ht
                · exact htk.out t ht
                · rcases List.mem_cons.1 ht with rfl | ht
                  · simp
                  · exact hk2 t ht)
              replace hlex3 := hid hlex3
              replace hown2 := hid hown2
              clear hlex hlex2 hk2
              go_wp2_with fail
              go_roundg (s.size - i2)
              case measure => have := hj.out; omega
              case rel => exact ⟨i2, toks ++ ⟨6, [123], j⟩ :: ts, by omega, rfl, hown2.out, hx3.out, hid (by rw [hlex3.out]; simp), by simp only [List.length_append, List.length_cons]; omega, htk'⟩
            · have htok := hbad.out (toks ++ ⟨6, [123], j⟩ :: ts) off (by rw [hlex.out, hlex2]; simp) (fun t ht => by
                rcases List.mem_append.1 ht with ht | ht
                · exact htk.out t ht
                · rcases List.mem_cons.1 ht with rfl | ht
                  · simp
                  · exact hk2 t ht)
              replace htok := hid htok
              clear hlex hlex2 hk2
              go_wp2_with fail
              refine bodyPost_ret (results_tmp3 rfl _ _ _) rfl ?_
              rw [hpost.out]
              refine ⟨hx3.out, ?_⟩
              rw [htok.out]
              rfl
      · obtain rfl : j = s.size := by omega
        have hdj : L.drop s.size = [] := List.drop_eq_nil_of_le (by rw [hLn.out]; exact Nat.le_refl _)
        have hlex := hlex.out
        rw [hdj, lexS_nil, List.append_nil] at hlex
        have htok := hgood.out toks hlex htk.out
        replace htok := hid htok
        replace hown := hid hown
        clear hdj hlex
        go_wp2_with fail
        refine bodyPost_ret (results_tmp3 rfl _ _ _) rfl ?_
        rw [hpost.out]
        refine ⟨hx.out, ?_⟩
        rw [htok.out]
        exact ⟨_, rfl, hown.out⟩
  · have htok : tokens L = .error 1000 := by unfold tokens; rw [if_pos (by omega)]
    have hbig : (1000 : Int) < (s.size : Int) := by omega
    replace htok := hid htok
    go_enter Tryz.func24, Tryz.ntmps24
    go_wp2_with fail
    refine bodyPost_ret (results_tmp3 rfl _ _ _) rfl ?_
    rw [hpost.out]
    refine ⟨Mod.refl _ _, ?_⟩
    rw [htok.out]
    rfl
end Go.Proofs.YtpgniljgaknlpaaGreatDoor
