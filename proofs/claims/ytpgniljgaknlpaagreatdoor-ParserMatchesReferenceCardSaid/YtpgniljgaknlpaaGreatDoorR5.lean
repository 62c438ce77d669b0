import Derived.Test.YtpgniljgaknlpaaGreatDoorR4
import Derived.Test.YtpgniljgaknlpaaGreatDoorK13
/-
  The reference parser: what its functions answer, in words of the specification; 'condition'.
-/
namespace Go.Proofs.YtpgniljgaknlpaaGreatDoor
open Go.RowKit Cdk Tpl

/-- The recorded offset. -/
def badI : Option Nat → Int
  | none => -1
  | some a => a

/-- A block that is new since w0 is none of the state's. -/
theorem RS.keep {S : Nat → Prop} {B : Nat} {ao : Option Addr} {cap : Nat} {T : List Tk} {sz k d k0 d0 : Nat} {bad bad0 : Int} {w0 w1 w2 : World} (h0 : RS B ao cap T sz k0 d0 bad0 w0) (h : RS B ao cap T sz k d bad w1) (hm : Mod S w1 w2) (hS : ∀ j, S j → w0.heap.size ≤ j) : RS B ao cap T sz k d bad w2 := by
  refine ⟨hm.at h.cell (fun s => by have := hS B s; have := lt_of_at h0.cell; omega), ?_, h.apart, h.le, h.small, h.sz⟩
  intro j u hu
  obtain ⟨b, off, e, hc⟩ := h.row j u hu
  obtain ⟨b', off', e', hc'⟩ := h0.row j u hu
  have h1 := World.block_lt_of_cell? w0 _ hc'
  rw [e] at e'; injection e' with e'; injection e' with e' _ _
  exact ⟨b, off, e, hm.cell hc (fun s => by have := hS b s; simp only at h1; omega)⟩

/-- What 'take' does. -/
def TkR (T : List Tk) (sz kd k : Nat) (bad : Option Nat) (tx : Bs) (k' : Nat) (bad' : Option Nat) : Prop :=
  (bad = none ∧ ∃ hk : k < T.length, T[k].kind = kd ∧ tx = T[k].text ∧ k' = k + 1 ∧ bad' = none) ∨ (bad = none ∧ ∃ a, Tpl.need sz kd (T.drop k) = .error a ∧ tx = [] ∧ k' = k ∧ bad' = some a) ∨ (∃ a, bad = some a ∧ tx = [] ∧ k' = k ∧ bad' = some a)

theorem rtake_gen {B : Nat} {ao : Option Addr} {cap : Nat} {T : List Tk} {sz k d : Nat} (kd : Nat) (hk0 : kd ≠ 0) (bad : Option Nat) (w : World) (h : RS B ao cap T sz k d (badI bad) w) :
    Calls Tryz.prog 44 #[.pointer (some ⟨B, 0, none⟩), .int .i64 kd] w fun e w' => ∃ tx k' bad', e = .returned (.string ⟨(tx : Bs).toArray⟩) ∧ RS B ao cap T sz k' d (badI bad') w' ∧ Mod (Eq B) w w' ∧ TkR T sz kd k bad tx k' bad' := by
  cases bad with
  | none =>
    refine (rtake_any kd hk0 w h).mono ?_
    rintro e w' ⟨hm, ⟨hk, hkd, rfl, hr⟩ | ⟨a, ha, rfl, hr⟩⟩
    · exact ⟨_, k + 1, none, rfl, hr, hm, .inl ⟨rfl, hk, hkd, rfl, rfl, rfl⟩⟩
    · exact ⟨[], k, some a, rfl, hr, hm, .inr (.inl ⟨rfl, a, ha, rfl, rfl, rfl⟩)⟩
  | some a =>
    refine (rtake_bad kd a w h).mono ?_
    rintro e w' ⟨rfl, hx⟩
    exact ⟨[], k, some a, rfl, h.ext hx, hx.mono (fun _ h => h.elim), .inr (.inr ⟨a, rfl, rfl, rfl, rfl⟩)⟩

/-- The words of 'list'. -/
def W3 (one two : Bs) (words : List Bs) : Prop := (one = [] ∧ two = [] ∧ words = []) ∨ (one = wEnd ∧ two = wEnd ∧ words = [wEnd]) ∨ (one = wElse ∧ two = wEnd ∧ words = [wElse, wEnd])

/-- What 'list' does. -/
def LsR (T : List Tk) (k : Nat) (bad : Option Nat) (r : Except Nat (List Nd × Bs × List Tk)) (l : List Nd) (x : Bs) (k' : Nat) (bad' : Option Nat) : Prop :=
  (bad = none ∧ r = .ok (l, x, T.drop k') ∧ k ≤ k' ∧ bad' = none) ∨ (bad = none ∧ ∃ a, r = .error a ∧ bad' = some a) ∨ (∃ a, bad = some a ∧ x = [] ∧ bad' = some a)

def RLP (B : Nat) (ao : Option Addr) (cap : Nat) (T : List Tk) (sz k d : Nat) (bad : Option Nat) (w : World) (r : Except Nat (List Nd × Bs × List Tk)) (e : Ending) (w' : World) : Prop :=
  ∃ ao1 n1 c1 l x k' bad', e = .returned (.tuple #[.slice ao1 n1 c1, .string ⟨(x : Bs).toArray⟩]) ∧ NodesAt (Since w w') w' (.slice ao1 n1 c1) l ∧ RS B ao cap T sz k' d (badI bad') w' ∧ Mod (Eq B) w w' ∧ LsR T k bad r l x k' bad'

/-- What the lexer's tokens are. -/
def TokOk (T : List Tk) : Prop := NumOk T ∧ ∀ t ∈ T, t.kind ≠ 0

/-- 'list' is right wherever the fuel is 'fuel'. -/
def RListC (fuel : Nat) : Prop := ∀ (B : Nat) (ao : Option Addr) (cap : Nat) (T : List Tk) (sz k d : Nat) (bad : Option Nat) (one two : Bs) (words : List Bs) (w : World), RS B ao cap T sz k d (badI bad) w → TokOk T → d ≤ 8 → W3 one two words →
  (bad = none → 2 * (T.length - k) + 1 ≤ fuel) → Calls Tryz.prog 25 #[.pointer (some ⟨B, 0, none⟩), .string ⟨one.toArray⟩, .string ⟨two.toArray⟩] w (RLP B ao cap T sz k d bad w (listS sz fuel d words (T.drop k) []))

/-- What 'node', 'loop' and 'condition' do. -/
def NdR (T : List Tk) (k : Nat) (r : Except Nat (Nd × List Tk)) (nd : Nd) (k' : Nat) (bad' : Option Nat) : Prop :=
  (r = .ok (nd, T.drop k') ∧ k ≤ k' ∧ bad' = none) ∨ ∃ a, r = .error a ∧ bad' = some a

def NP (B : Nat) (ao : Option Addr) (cap : Nat) (T : List Tk) (sz k d : Nat) (w : World) (r : Except Nat (Nd × List Tk)) (e : Ending) (w' : World) : Prop :=
  ∃ c nd k' bad', e = .returned (ncV c) ∧ NodeAt (Since w w') w' c nd ∧ RS B ao cap T sz k' d (badI bad') w' ∧ Mod (Eq B) w w' ∧ NdR T k r nd k' bad'


theorem cond_fin {T : List Tk} {sz fuel d k k1 k2 k3 k4 : Nat} {b1 b2 b3 b4 : Option Nat} {nm t7 x x2 : Bs} {l l2 : List Nd} (h1 : TkR T sz 2 k none nm k1 b1) (h2 : TkR T sz 7 k1 b1 t7 k2 b2) (h3 : LsR T k2 b2 (listS sz fuel d [wElse, wEnd] (T.drop k2) []) l x k3 b3)
    (h4 : (x = wElse ∧ LsR T k3 b3 (listS sz fuel d [wEnd] (T.drop k3) []) l2 x2 k4 b4) ∨ (x ≠ wElse ∧ l2 = [] ∧ k4 = k3 ∧ b4 = b3)) : NdR T k (condS sz (fuel + 1) d (T.drop k)) (.mk 4 [] nm [] 0 [] l l2) k4 b4 := by
  rcases h1 with ⟨-, hk, hkd, rfl, rfl, rfl⟩ | ⟨-, a, ha, rfl, rfl, rfl⟩ | ⟨a, h, -⟩
  · have n1 := need_hit (sz := sz) hk hkd
    rcases h2 with ⟨-, hk2, hkd2, -, rfl, rfl⟩ | ⟨-, a, ha, -, rfl, rfl⟩ | ⟨a, h, -⟩
    · have n2 := need_hit (sz := sz) hk2 hkd2
      rcases h3 with ⟨-, hl, hle, rfl⟩ | ⟨-, a, ha, rfl⟩ | ⟨a, h, -⟩
      · rcases h4 with ⟨hx, ⟨-, hl2, hle2, rfl⟩ | ⟨-, a, ha, rfl⟩ | ⟨a, h, -⟩⟩ | ⟨hx, rfl, rfl, rfl⟩
        · refine .inl ⟨?_, by omega, rfl⟩
          simp only [condS, n1, n2, hl, if_pos hx, hl2, bind, Except.bind]
        · refine .inr ⟨a, ?_, rfl⟩
          simp only [condS, n1, n2, hl, if_pos hx, ha, bind, Except.bind]
        · cases h
        · refine .inl ⟨?_, by omega, rfl⟩
          simp only [condS, n1, n2, hl, if_neg hx, bind, Except.bind]
      · have e : condS sz (fuel + 1) d (T.drop k) = .error a := by simp only [condS, n1, n2, ha, bind, Except.bind]
        rcases h4 with ⟨-, ⟨h, -⟩ | ⟨h, -⟩ | ⟨a', h, -, rfl⟩⟩ | ⟨-, -, -, rfl⟩
        · cases h
        · cases h
        · cases h; exact .inr ⟨a, e, rfl⟩
        · exact .inr ⟨a, e, rfl⟩
      · cases h
    · have e : condS sz (fuel + 1) d (T.drop k) = .error a := by simp only [condS, n1, ha, bind, Except.bind]
      rcases h3 with ⟨h, -⟩ | ⟨h, -⟩ | ⟨a', h, rfl, rfl⟩
      · cases h
      · cases h
      · cases h
        rcases h4 with ⟨h, -⟩ | ⟨-, -, -, rfl⟩
        · cases h
        · exact .inr ⟨a, e, rfl⟩
    · cases h
  · have e : condS sz (fuel + 1) d (T.drop k1) = .error a := by simp only [condS, ha, bind, Except.bind]
    rcases h2 with ⟨h, -⟩ | ⟨h, -⟩ | ⟨a', h, -, rfl, rfl⟩
    · cases h
    · cases h
    · cases h
      rcases h3 with ⟨h, -⟩ | ⟨h, -⟩ | ⟨a', h, rfl, rfl⟩
      · cases h
      · cases h
      · cases h
        rcases h4 with ⟨h, -⟩ | ⟨-, -, -, rfl⟩
        · cases h
        · exact .inr ⟨a, e, rfl⟩
  · cases h

theorem TkR.le {T : List Tk} {sz kd k k' : Nat} {bad bad' : Option Nat} {tx : Bs} (h : TkR T sz kd k bad tx k' bad') : k ≤ k' := by
  rcases h with ⟨-, hk, hkd, rfl, rfl, rfl⟩ | ⟨-, a, ha, rfl, rfl, rfl⟩ | ⟨a, h, -, rfl, -⟩ <;> omega
theorem TkR.lt {T : List Tk} {sz kd k k' : Nat} {bad : Option Nat} {tx : Bs} (h : TkR T sz kd k bad tx k' none) : k' = k + 1 ∧ k < T.length ∧ bad = none := by
  rcases h with ⟨h0, hk, hkd, rfl, rfl, -⟩ | ⟨-, a, ha, rfl, rfl, h⟩ | ⟨a, h, -, rfl, h'⟩
  · exact ⟨rfl, hk, h0⟩
  · cases h
  · cases h'
theorem LsR.lt {T : List Tk} {k k' : Nat} {bad : Option Nat} {r : Except Nat (List Nd × Bs × List Tk)} {l : List Nd} {x : Bs} (h : LsR T k bad r l x k' none) : k ≤ k' ∧ bad = none := by
  rcases h with ⟨h0, -, h, -⟩ | ⟨-, a, ha, h⟩ | ⟨a, -, -, h⟩
  · exact ⟨h, h0⟩
  · cases h
  · cases h

set_option maxRecDepth 100000 in
set_option maxHeartbeats 8000000 in
theorem rcond_any (fuel : Nat) (ih : RListC fuel) {B : Nat} {ao : Option Addr} {cap : Nat} {T : List Tk} {sz k : Nat} (d : Nat) (w : World) (h : RS B ao cap T sz k d (-1) w) (hT : TokOk T) (hd : d ≤ 8) (hf : 2 * (T.length - k) ≤ fuel) :
    Calls Tryz.prog 67 #[.pointer (some ⟨B, 0, none⟩)] w (NP B ao cap T sz k d w (condS sz (fuel + 1) d (T.drop k))) := by
  obtain ⟨post, hpost⟩ : ∃ post, post = NP B ao cap T sz k d w (condS sz (fuel + 1) d (T.drop k)) := ⟨_, rfl⟩
  rw [← hpost]
  replace hpost := hid hpost
  have hBw := lt_of_at h.cell
  have hsm := h.small
  replace h := hid h
  replace hT := hid hT
  replace ih := hid ih
  go_enter Tryz.func67, Tryz.ntmps67
  go_wp2_with fail
  have hx1 := Mod.alloc (Mod.refl (fun _ => False) w) (.cells #[.int .i64 0, .string ⟨#[]⟩, .string ⟨#[]⟩, .string ⟨#[]⟩, .int .i64 0, .slice none 0 0, .slice none 0 0, .slice none 0 0] 36)
  have hR0 := heap_alloc_new w (.cells #[.int .i64 0, .string ⟨#[]⟩, .string ⟨#[]⟩, .string ⟨#[]⟩, .int .i64 0, .slice none 0 0, .slice none 0 0, .slice none 0 0] 36)
  have hs1 : (w.alloc (.cells #[.int .i64 0, .string ⟨#[]⟩, .string ⟨#[]⟩, .string ⟨#[]⟩, .int .i64 0, .slice none 0 0, .slice none 0 0, .slice none 0 0] 36)).heap.size = w.heap.size + 1 := World.size_alloc _ _
  generalize (w.alloc (.cells #[.int .i64 0, .string ⟨#[]⟩, .string ⟨#[]⟩, .string ⟨#[]⟩, .int .i64 0, .slice none 0 0, .slice none 0 0, .slice none 0 0] 36)) = w1 at hx1 hR0 hs1 ⊢
  obtain ⟨R, hR⟩ : ∃ R, R = w.heap.size := ⟨_, rfl⟩
  rw [← hR] at hR0 hs1 hBw ⊢
  replace hR := hid hR
  refine (rtake_gen 2 (by decide) none _ (h.out.ext hx1)).mono ?_
  rintro e w2 ⟨nm, k1, bad1, rfl, hrs2, hm2, htk1⟩
  have hBR : ¬ B = R := by omega
  have hR02 := hm2.at hR0 hBR
  have hmw2 := (hx1.mono (T := Eq B) (fun _ h => h.elim)).trans hm2
  replace htk1 := hid htk1
  clear hx1 hm2 hR0
  go_wp2_with fail
  have hxa := Mod.alloc (Mod.refl (fun _ => False) w2) (.cells #[.int .i64 4, .string ⟨#[]⟩, .string ⟨nm.toArray⟩, .string ⟨#[]⟩, .int .i64 0, .slice none 0 0, .slice none 0 0, .slice none 0 0] 36)
  have hQa := heap_alloc_new w2 (.cells #[.int .i64 4, .string ⟨#[]⟩, .string ⟨nm.toArray⟩, .string ⟨#[]⟩, .int .i64 0, .slice none 0 0, .slice none 0 0, .slice none 0 0] 36)
  have hRQ : R < w2.heap.size := lt_of_at hR02
  generalize hQ : w2.heap.size = Q at hQa hRQ ⊢
  generalize (w2.alloc (.cells #[.int .i64 4, .string ⟨#[]⟩, .string ⟨nm.toArray⟩, .string ⟨#[]⟩, .int .i64 0, .slice none 0 0, .slice none 0 0, .slice none 0 0] 36)) = wa at hxa hQa ⊢
  have hBQ : ¬ B = Q := by omega
  have hQR : ¬ Q = R := by omega
  have hRQ' : ¬ R = Q := by omega
  have hRa := hxa.at hR02 (fun h => h)
  have hrsa := hrs2.ext hxa
  have hma := hid (hmw2.then hxa (fun _ _ h => h.elim))
  replace hQ := hid hQ
  clear hxa hrs2 hmw2 hR02
  refine (rtake_gen 7 (by decide) bad1 _ hrsa).mono ?_
  rintro e we ⟨t7, k2, bad2, rfl, hrse, hme, htk2⟩
  have hRe := hme.at hRa hBR
  have hQe := hme.at hQa hBQ
  have hmwe := hid (hma.out.trans hme)
  replace htk2 := hid htk2
  replace hrsa := hid hrsa
  replace hRa := hid hRa
  replace hQa := hid hQa
  clear hme
  go_wp2_with fail
  refine (ih.out B ao cap T sz k2 d bad2 wElse wEnd [wElse, wEnd] we hrse hT.out hd (.inr (.inr ⟨rfl, rfl, rfl⟩)) (fun hb => ?_)).mono ?_
  · subst hb
    obtain ⟨e1, e2, rfl⟩ := htk2.out.lt
    obtain ⟨e3, e4, -⟩ := htk1.out.lt
    omega
  rintro e wg ⟨aov, nv, capv, l, x, k3, bad3, rfl, hnv, hrsg, hmg, hls⟩
  have hRg := hmg.at hRe hBR
  have hQg := hmg.at hQe hBQ
  obtain ⟨a0, a1, a2, a3, a4, a5, a6, a7⟩ := cells8 hQg
  obtain ⟨b0, b1, b2, b3, b4, b5, b6, b7⟩ := cells8 hRg
  have z0 := free_of' hQg
  have z1 := free_of' hRg
  have hmwg := hid (hmwe.out.trans hmg)
  have hRf := lt_of_at hRe
  have hQf := lt_of_at hQe
  have hws := hmwe.out.size
  have hBg := lt_of_at hrsg.cell
  have hgs := hmg.size
  replace hls := hid hls
  replace hRe := hid hRe
  replace hQe := hid hQe
  replace hrse := hid hrse
  replace hrsg := hid hrsg
  replace hmg := hid hmg
  replace hRg := hid hRg
  replace hQg := hid hQg
  replace hnv := hid hnv
  have hbeq : (x == [101, 108, 115, 101]) = decide (x = wElse) := by rw [Bool.eq_iff_iff, decide_eq_true_eq, beq_iff_eq]; rfl
  cases hw : decide (x = wElse) with
  | true =>
    rw [hw] at hbeq
    rw [decide_eq_true_eq] at hw
    replace hw := hid hw
    go_wp2_with fail
    clear a0 a1 a2 a3 a4 a5 a6 a7 b0 b1 b2 b3 b4 b5 b6 b7 z0 z1
    have hQh := put_at hQg.out 6 (.slice aov nv capv)
    have hmh := (Mod.refl (Eq Q) wg).setCell (a := ⟨Q, 6, none⟩) (fun _ => rfl) (.slice aov nv capv)
    have hRh := (put_ne wg (b := Q) (k := R) 6 (.slice aov nv capv) (by omega)).trans hRg.out
    simp only [List.setIfInBounds_toArray, List.set_cons_zero, List.set_cons_succ] at hQh
    have hhs : (wg.setCell ⟨Q, 6, none⟩ (.slice aov nv capv)).heap.size = wg.heap.size := by simp [World.setCell]
    generalize (wg.setCell ⟨Q, 6, none⟩ (.slice aov nv capv)) = wi at hhs hRh hQh hmh ⊢
    have hRR := hR.out
    have hrsi := RS.keep h.out hrsg.out hmh (fun j e => by omega)
    refine (ih.out B ao cap T sz k3 d bad3 wEnd wEnd [wEnd] wi hrsi hT.out hd (.inr (.inl ⟨rfl, rfl, rfl⟩)) (fun hb => ?_)).mono ?_
    · subst hb
      obtain ⟨e5, rfl⟩ := hls.out.lt
      obtain ⟨e1, e2, rfl⟩ := htk2.out.lt
      obtain ⟨e3, e4, -⟩ := htk1.out.lt
      omega
    rintro e wj ⟨aou, nu, capu, l2, x2, k4, bad4, rfl, hnv2, hrsj, hmj, hls2⟩
    have hRj := hmj.at hRh hBR
    have hQj := hmj.at hQh hBQ
    obtain ⟨a0, a1, a2, a3, a4, a5, a6, a7⟩ := cells8 hQj
    obtain ⟨b0, b1, b2, b3, b4, b5, b6, b7⟩ := cells8 hRj
    have z0 := free_of' hQj
    have z1 := free_of' hRj
    replace hRh := hid hRh
    replace hQh := hid hQh
    replace hrsi := hid hrsi
    replace hrsj := hid hrsj
    replace hmj := hid hmj
    replace hmh := hid hmh
    replace hRj := hid hRj
    replace hQj := hid hQj
    replace hnv2 := hid hnv2
    replace hls2 := hid hls2
    replace hRR := hid hRR
    go_wp2_with fail
    change bodyPost _ _ _ _ _ (put8 (wj.setCell ⟨Q, 7, none⟩ (.slice aou nu capu)) R (.int .i64 4) (.string ⟨#[]⟩) (.string ⟨nm.toArray⟩) (.string ⟨#[]⟩) (.int .i64 0) (.slice none 0 0) (.slice aov nv capv) (.slice aou nu capu))
    have hQq := put_at hQj.out 7 (.slice aou nu capu)
    have hmq := (Mod.refl (Eq Q) wj).setCell (a := ⟨Q, 7, none⟩) (fun _ => rfl) (.slice aou nu capu)
    have hRq := (put_ne wj (b := Q) (k := R) 7 (.slice aou nu capu) (by omega)).trans hRj.out
    generalize (wj.setCell ⟨Q, 7, none⟩ (.slice aou nu capu)) = wh at hQq hmq hRq ⊢
    have hRz := put8_at (x0 := .int .i64 4) (x1 := .string ⟨#[]⟩) (x2 := .string ⟨nm.toArray⟩) (x3 := .string ⟨#[]⟩) (x4 := .int .i64 0) (x5 := .slice none 0 0) (x6 := .slice aov nv capv) (x7 := .slice aou nu capu) hRq
    have hmz := put8_mod wh R (.int .i64 4) (.string ⟨#[]⟩) (.string ⟨nm.toArray⟩) (.string ⟨#[]⟩) (.int .i64 0) (.slice none 0 0) (.slice aov nv capv) (.slice aou nu capu)
    generalize (put8 wh R (.int .i64 4) (.string ⟨#[]⟩) (.string ⟨nm.toArray⟩) (.string ⟨#[]⟩) (.int .i64 0) (.slice none 0 0) (.slice aov nv capv) (.slice aou nu capu)) = wz at hRz hmz ⊢
    refine bodyPost_ret (results_cell_row rfl _ _ R _ _ _ _ rfl hRz Tryz.underlying36 rfl node_size) rfl ?_
    rw [hpost.out]
    have hRR := hR.out
    have hzz : Mod (fun j => j = Q ∨ j = R) wj wz := (hmq.mono (fun _ h => .inl h.symm)).then hmz (fun _ _ h => .inr h.symm)
    have hgi : Mod (fun j => j = B ∨ j = Q) wg wj := (hmh.out.mono (fun _ h => .inr h.symm)).then hmj.out (fun _ _ h => .inl h.symm)
    have hrsz := RS.keep h.out hrsj.out hzz (fun j e => by omega)
    have hn1 := ((hnv.out.mod hgi (fun j hj e => by have := hj.1; omega)).mod hzz (fun j hj e => by have := hj.1; omega)).mono (F' := Since w wz) (fun j hj => ⟨by have := hj.1; omega, by have := hj.2; have := hzz.size; have := hgi.size; omega⟩)
    have hn2 := (hnv2.out.mod hzz (fun j hj e => by have := hj.1; omega)).mono (F' := Since w wz) (fun j hj => ⟨by have := hj.1; omega, by have := hj.2; have := hzz.size; omega⟩)
    exact ⟨⟨4, [], nm, [], 0, .slice none 0 0, .slice aov nv capv, .slice aou nu capu⟩, .mk 4 [] nm [] 0 [] l l2, k4, bad4, rfl, .mk ⟨4, [], nm, [], 0, .slice none 0 0, .slice aov nv capv, .slice aou nu capu⟩ [] l l2 (StrsAt.nil _ _) hn1 hn2, hrsz, (hmwg.out.then hgi (fun j hj e => by omega)).then hzz (fun j hj e => by omega), cond_fin htk1.out htk2.out hls.out (.inl ⟨hw.out, hls2.out⟩)⟩
  | false =>
    rw [hw] at hbeq
    rw [decide_eq_false_iff_not] at hw
    replace hw := hid hw
    go_wp2_with fail
    change bodyPost _ _ _ _ _ (put8 (wg.setCell ⟨Q, 6, none⟩ (.slice aov nv capv)) R (.int .i64 4) (.string ⟨#[]⟩) (.string ⟨nm.toArray⟩) (.string ⟨#[]⟩) (.int .i64 0) (.slice none 0 0) (.slice aov nv capv) (.slice none 0 0))
    have hQh := put_at hQg.out 6 (.slice aov nv capv)
    have hmh := (Mod.refl (Eq Q) wg).setCell (a := ⟨Q, 6, none⟩) (fun _ => rfl) (.slice aov nv capv)
    have hRh := (put_ne wg (b := Q) (k := R) 6 (.slice aov nv capv) (by omega)).trans hRg.out
    generalize (wg.setCell ⟨Q, 6, none⟩ (.slice aov nv capv)) = wh at hQh hmh hRh ⊢
    have hRz := put8_at (x0 := .int .i64 4) (x1 := .string ⟨#[]⟩) (x2 := .string ⟨nm.toArray⟩) (x3 := .string ⟨#[]⟩) (x4 := .int .i64 0) (x5 := .slice none 0 0) (x6 := .slice aov nv capv) (x7 := .slice none 0 0) hRh
    have hmz := put8_mod wh R (.int .i64 4) (.string ⟨#[]⟩) (.string ⟨nm.toArray⟩) (.string ⟨#[]⟩) (.int .i64 0) (.slice none 0 0) (.slice aov nv capv) (.slice none 0 0)
    generalize (put8 wh R (.int .i64 4) (.string ⟨#[]⟩) (.string ⟨nm.toArray⟩) (.string ⟨#[]⟩) (.int .i64 0) (.slice none 0 0) (.slice aov nv capv) (.slice none 0 0)) = wz at hRz hmz ⊢
    refine bodyPost_ret (results_cell_row rfl _ _ R _ _ _ _ rfl hRz Tryz.underlying36 rfl node_size) rfl ?_
    rw [hpost.out]
    have hRR := hR.out
    have hzz : Mod (fun j => j = Q ∨ j = R) wg wz := (hmh.mono (fun _ h => .inl h.symm)).then hmz (fun _ _ h => .inr h.symm)
    have hrsz := RS.keep h.out hrsg.out hzz (fun j e => by omega)
    have hnz := (hnv.out.mod hzz (fun j hj e => by have := hj.1; omega)).mono (F' := Since w wz) (fun j hj => ⟨by have := hj.1; omega, by have := hj.2; have := hzz.size; omega⟩)
    exact ⟨⟨4, [], nm, [], 0, .slice none 0 0, .slice aov nv capv, .slice none 0 0⟩, .mk 4 [] nm [] 0 [] l [], k3, bad3, rfl, .mk ⟨4, [], nm, [], 0, .slice none 0 0, .slice aov nv capv, .slice none 0 0⟩ [] l [] (StrsAt.nil _ _) hnz (NodesAt.nil _ _), hrsz, hmwg.out.then hzz (fun j hj e => by omega), cond_fin (x2 := []) htk1.out htk2.out hls.out (.inr ⟨hw.out, rfl, rfl, rfl⟩)⟩
end Go.Proofs.YtpgniljgaknlpaaGreatDoor
