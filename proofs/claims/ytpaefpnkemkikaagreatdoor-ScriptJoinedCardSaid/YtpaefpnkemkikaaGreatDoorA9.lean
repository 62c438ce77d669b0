import Derived.Test.YtpaefpnkemkikaaGreatDoorA3
import Derived.Test.YtpaefpnkemkikaaGreatDoorAppend
import Derived.Laws.EntriesVeiled
set_option maxRecDepth 100000
set_option maxHeartbeats 16000000
namespace Cdk
open Go Go.RowKit
section
variable {K : Type} [DecidableEq K] {P : Program} {kt : TypeId} {mk : K -> Value} {ops : Array Oper} {rest : List Oper} {o : Oper} {a : Act} {Q : Exit -> Act -> World -> Prop} {w : World} {mb : Nat} {d : List (K × Value)}
theorem wpList_insert (hg : o.guard = none) (m x v : Operand) (t e : TypeId) (hop : o.op = Op.insert t m x v) (ok : KeyOk P kt mk) (ht : P.underlying t = some (.map kt e))
  (h : MapAt w mk mb d) (k : K) (val : Value) (hm : a.eval m = .map (some mb)) (hx : a.eval x = mk k) (hv : a.eval v = val)
  (hK : ∀ w', Hid (MapAt w' mk mb (upd d k val) /\ Mod (Eq mb) w w' /\ w'.heap.size = w.heap.size) -> wpList P ops Q rest (a.put o.dst undef) w') : wpList P ops Q (o :: rest) a w := by
 refine wpList_plain hg fun K' hK' => ?_
 obtain ⟨w', hrun, r1, r2, r3⟩ := run_updateM ok ht h k val
 unfold Oper.wp
 simp [execOp, hop, hm, hx, hv, hrun, Result.andThen]
 exact hK' _ _ (hK w' ⟨r1, r2, r3⟩)
end
end Cdk
namespace Go.Proofs.YtpaefpnkemkikaaGreatDoor
open Go.RowKit Cdk Scr
abbrev fnV (f : Nat) : Value := .func (.func f) #[] #[]
def ruleV (t : Nat) (q : Bool) (l : Nat) : Value := .agg #[fnV t, .bool q, fnV l]
def rulesD : List (Int × Value) := [(1, ruleV 223 false 225), (2, ruleV 223 false 226), (3, ruleV 224 true 228), (4, ruleV 223 false 229), (5, ruleV 230 false 231)]
abbrev RulesAt (w : World) (m : Nat) : Prop := MapAt w (Value.int .i64) m rulesD
theorem rules_any (w : World) : Calls Tryz.prog 202 #[] w fun e w' => e = .returned (.map (some w.heap.size)) /\ RulesAt w' w.heap.size /\ Ext w w' := by
 have hmm := @run_makeMap Tryz.prog
 have h0 : Hid (MapAt (w.alloc (.map #[] 0)) (Value.int .i64) w.heap.size ([] : List (Int × Value)) /\ Mod (Eq w.heap.size) w (w.alloc (.map #[] 0)) /\ (w.alloc (.map #[] 0)).heap.size = w.heap.size + 1) := hid ⟨MapAt.made w _, (Mod.refl _ w).alloc _, World.size_alloc _ _⟩
 go_enter Tryz.func202, Tryz.ntmps202
 go_wp2_with (first
  | (refine wpList_insert rfl _ _ _ 173 206 rfl (keyOk_int Tryz.underlying3) Tryz.underlying173 H3.out.1 _ _ rfl rfl rfl (fun w3 H4 => ?_); replace H3 := hid (⟨H4.out.1, H3.out.2.1.trans H4.out.2.1, H4.out.2.2.trans H3.out.2.2⟩ : _ /\ _ /\ _); clear H4)
  | (refine wpList_insert rfl _ _ _ 173 206 rfl (keyOk_int Tryz.underlying3) Tryz.underlying173 h0.out.1 _ _ rfl rfl rfl (fun w3 H4 => ?_); have H3 := hid (⟨H4.out.1, h0.out.2.1.trans H4.out.2.1, H4.out.2.2.trans h0.out.2.2⟩ : _ /\ _ /\ _); clear H4))
 go_ret
 exact ⟨rfl, H3.out.1, H3.out.2.1.mono' (fun k hk e => by omega)⟩
theorem str_of (s : Bs) : (⟨s.toArray⟩ : ByteArray).data.toList = s := rfl
theorem filled_any (s : ByteArray) (w : World) : Calls Tryz.prog 223 #[.string s] w fun e w' => e = .returned (.bool (isTx s.data.toList)) /\ w = w' := by
 have hr : Hid (isTx s.data.toList = (decide (1 <= s.size) && tx300 s.data.toList)) := hid (by unfold isTx; rw [<- size_of])
 have hT := hid (bkText_any s w)
 rw [hr.out]
 clear hr
 generalize tx300 s.data.toList = b at hT ⊢
 by_cases h : s.size = 0
 ·obtain ⟨⟨⟨l⟩⟩⟩ : Nonempty (Subtype fun x : ByteArray => x = s) := ⟨⟨s, rfl⟩⟩
  have hs : s = .empty := by
   obtain ⟨⟨l⟩⟩ := s
   cases l with
   | nil => rfl
   | cons x l => simp [ByteArray.size] at h
  subst hs
  clear h
  go_enter Tryz.func223, Tryz.ntmps223
  go_wp2_with fail
  go_ret
  exact ⟨rfl, rfl⟩
 ·have hs : decide (1 <= s.size) = true := decide_eq_true (by omega)
  rw [hs, Bool.true_and]
  have he : (s == ByteArray.empty) = false := by
   rw [beq_eq_false_iff_ne]; rintro rfl; exact h rfl
  have he2 : s.toList.isEmpty = false := by
   rw [Go.ByteArray.toList_eq]
   cases hl : s.data.toList with
   | nil => rw [size_of, hl] at h; exact absurd rfl h
   | cons x l => rfl
  clear hs
  replace h := hid h
  go_enter Tryz.func223, Tryz.ntmps223
  go_wp2_with fail
  refine hT.out.mono ?_
  rintro e w' ⟨rfl, rfl⟩
  go_wp2_with fail
  go_ret
  exact ⟨rfl, rfl⟩
theorem zero_rule (w : World) : (zeroValue 206).run Tryz.prog w = .ok (.agg #[.nilFunc, .bool false, .nilFunc]) w := by kernel_rfl
theorem assoc_rules (k : Int) (h1 : k ≠ 1) (h2 : k ≠ 2) (h3 : k ≠ 3) (h4 : k ≠ 4) (h5 : k ≠ 5) : assoc rulesD k = none := by
 simp [assoc, rulesD, Ne.symm h1, Ne.symm h2, Ne.symm h3, Ne.symm h4, Ne.symm h5]
def bkV (ao : Option Addr) (n c : Nat) (b : Bk) : Value := .agg #[.int .i64 b.id, .int .i64 b.kd, .string ⟨b.tx.toArray⟩, .int .i64 b.st, .int .i64 b.rf, .int .i64 b.lb.til, .slice ao n c, .int .i64 b.lb.app, .int .i64 b.lb.den]
theorem follows_un (m : Nat) (ao : Option Addr) (n c : Nat) (b : Bk) (w : World) (hm : RulesAt w m) (hk : assoc rulesD b.kd = none) :
  Calls Tryz.prog 203 #[bkV ao n c b, .map (some m)] w fun e w' => e = .returned (.bool false) /\ Ext w w' := by
 obtain ⟨i, k, x, s, r, til, aft, app, den⟩ := b
 simp only at hk
 have hx := Mod.alloc (Mod.refl (fun _ => False) w) (.cells #[.int .i64 i, .int .i64 k, .string ⟨x.toArray⟩, .int .i64 s, .int .i64 r, .int .i64 til, .slice ao n c, .int .i64 app, .int .i64 den] 118)
 have hlk := run_lookupM (P := Tryz.prog) (t := 173) (keyOk_int Tryz.underlying3) Tryz.underlying173 (hm.mod hx (fun h => h)) k (zero_rule _) true
 rw [hk] at hlk
 simp only [if_true, Option.getD_none, Option.isSome_none] at hlk
 have hxx := hid (hx.alloc (.cells #[.nilFunc, .bool false, .nilFunc] 206))
 replace hx := hid hx
 replace hm := hid hm
 clear hk
 unfold bkV
 go_enter Tryz.func203, Tryz.ntmps203
 go_wp2_with fail
 go_ret
 exact ⟨rfl, hxx.out⟩
theorem follows_kn {F : Nat -> Prop} (m : Nat) (ao : Option Addr) (n c : Nat) (b : Bk) (w : World) (hm : RulesAt w m) (ft fl : Nat) (q tb : Bool) (hk : assoc rulesD b.kd = some (ruleV ft q fl)) (hI : IntsAt F w (.slice ao n c) b.lb.aft)
  (he : ∀ args w, (callFunc ft args).run Tryz.prog w = .ok (.enter ft args) w) (hT : ∀ W, Calls Tryz.prog ft #[.string ⟨b.tx.toArray⟩] W fun e w' => e = .returned (.bool tb) /\ W = w') :
  Calls Tryz.prog 203 #[bkV ao n c b, .map (some m)] w fun e w' => e = .returned (.bool (rng b.id 1 1000 && (vLb b.lb && (tb && (if q then rng b.st 1 64 && rng b.rf 1 1000 else decide (b.st = 0) && decide (b.rf = 0)))))) /\ Ext w w' := by
 obtain ⟨post, hpost⟩ : ∃ post : Ending -> World -> Prop, post = fun e w' => e = .returned (.bool (rng b.id 1 1000 && (vLb b.lb && (tb && (if q then rng b.st 1 64 && rng b.rf 1 1000 else decide (b.st = 0) && decide (b.rf = 0)))))) /\ Ext w w' := ⟨_, rfl⟩
 rw [<- hpost]
 obtain ⟨i, k, x, s, r, lb⟩ := b
 simp only at hk hI hT hpost
 have hL := fun W (hX : Ext w W) => labelValid_any (F := F) (.slice ao n c) lb W (hI.ext hX)
 obtain ⟨til, aft, app, den⟩ := lb
 generalize vLb ⟨til, aft, app, den⟩ = vl at hL hpost
 replace hpost := hid hpost
 have hx := Mod.alloc (Mod.refl (fun _ => False) w) (.cells #[.int .i64 i, .int .i64 k, .string ⟨x.toArray⟩, .int .i64 s, .int .i64 r, .int .i64 til, .slice ao n c, .int .i64 app, .int .i64 den] 118)
 have hlk := run_lookupM (P := Tryz.prog) (t := 173) (keyOk_int Tryz.underlying3) Tryz.underlying173 (hm.mod hx (fun h => h)) k (zero_rule _) true
 rw [hk] at hlk
 simp only [if_true, Option.getD_some, Option.isSome_some, ruleV] at hlk
 obtain ⟨hB1, hB2, hB3, hB4⟩ := two_boxes w #[.int .i64 i, .int .i64 k, .string ⟨x.toArray⟩, .int .i64 s, .int .i64 r, .int .i64 til, .slice ao n c, .int .i64 app, .int .i64 den] #[fnV ft, .bool q, fnV fl] 118 206
 have hLL := hid (hL _ hB1)
 unfold lbC at hLL
 simp only at hLL
 have hAt := hid (fun w2 (hX : Ext ((w.alloc (.cells #[.int .i64 i, .int .i64 k, .string ⟨x.toArray⟩, .int .i64 s, .int .i64 r, .int .i64 til, .slice ao n c, .int .i64 app, .int .i64 den] 118)).alloc (.cells #[fnV ft, .bool q, fnV fl] 206)) w2) => (⟨hX.at hB2 (fun h => h), hX.at hB3 (fun h => h)⟩ : _ /\ _))
 have hxx := hid hB1
 clear hB1 hB2 hB3 hB4 hx hL hI hk
 replace hm := hid hm
 replace hT := hid hT
 unfold bkV
 simp only
 by_cases g1 : i < 1
 ·have hi : Hid (rng i 1 1000 = false) := hid (by unfold rng; simp; omega)
  go_enter Tryz.func203, Tryz.ntmps203
  go_wp2_with fail
  rw [hpost.out]
  exact ⟨by rw [hi.out]; rfl, hxx.out⟩
 by_cases g2 : 1000 < i
 ·have hi : Hid (rng i 1 1000 = false) := hid (by unfold rng; simp; omega)
  go_enter Tryz.func203, Tryz.ntmps203
  go_wp2_with fail
  rw [hpost.out]
  exact ⟨by rw [hi.out]; rfl, hxx.out⟩
 have hi : Hid (rng i 1 1000 = true) := hid (rng_iff.2 (by omega))
 go_enter Tryz.func203, Tryz.ntmps203
 go_wp2_with fail
 refine hLL.out.mono ?_
 rintro e w2 ⟨rfl, hx2⟩
 obtain ⟨k1, k2⟩ := hAt.out w2 hx2
 replace hx2 := hid (hxx.out.trans hx2)
 have p0 : w2.cell? ⟨w.heap.size + 1, 0, none⟩ = some (.func (.func ft) #[] #[]) := cell_of' k2 0
 have p1 : w2.cell? ⟨w.heap.size + 1, 1, none⟩ = some (.bool q) := cell_of' k2 1
 have p2 : w2.cell? ⟨w.heap.size, 2, none⟩ = some (.string ⟨x.toArray⟩) := cell_of' k1 2
 have p3 : w2.cell? ⟨w.heap.size, 3, none⟩ = some (.int .i64 s) := cell_of' k1 3
 have p4 : w2.cell? ⟨w.heap.size, 4, none⟩ = some (.int .i64 r) := cell_of' k1 4
 clear hLL hAt hlk k1 k2
 generalize w.heap.size = R at p0 p1 p2 p3 p4 ⊢
 cases vl with
 | false =>
  go_wp2_with fail
  rw [hpost.out]
  exact ⟨by simp, hx2.out⟩
 | true =>
  go_wp2_with fail
  refine (hT.out w2).mono ?_
  rintro e w3 ⟨rfl, rfl⟩
  cases tb with
  | false =>
   go_wp2_with fail
   rw [hpost.out]
   exact ⟨by simp, hx2.out⟩
  | true =>
   have c1 := int_beq s 0
   have c2 := int_beq r 0
   cases q with
   | false =>
    generalize decide (s = 0) = d1 at c1 hpost
    generalize decide (r = 0) = d2 at c2 hpost
    go_wp2_with fail
    all_goals
     rw [hpost.out]
     exact ⟨by rw [hi.out]; simp [*], hx2.out⟩
   | true =>
    clear c1 c2
    go_wp2_with fail
    all_goals
     rw [hpost.out]
     exact ⟨by rw [hi.out]; first | (simp [rng, *]; done) | (simp [rng, *]; omega), hx2.out⟩
theorem follows_any {F : Nat -> Prop} (m : Nat) (ao : Option Addr) (n c : Nat) (b : Bk) (w : World) (hm : RulesAt w m) (hI : IntsAt F w (.slice ao n c) b.lb.aft) :
  Calls Tryz.prog 203 #[bkV ao n c b, .map (some m)] w fun e w' => e = .returned (.bool (vBk b)) /\ Ext w w' := by
 have e223 := enters_of Tryz.func223 (by kernel_rfl) rfl
 have e224 := enters_of Tryz.func224 (by kernel_rfl) rfl
 have e230 := enters_of Tryz.func230 (by kernel_rfl) rfl
 by_cases h1 : b.kd = 1
 ·refine (follows_kn m ao n c b w hm 223 225 false _ (by rw [h1]; rfl) hI e223 (fun W => filled_any _ W)).mono ?_
  rintro e w' ⟨rfl, hx⟩
  exact ⟨by unfold vBk; rw [if_pos (Or.inl h1)]; rfl, hx⟩
 by_cases h2 : b.kd = 2
 ·refine (follows_kn m ao n c b w hm 223 226 false _ (by rw [h2]; rfl) hI e223 (fun W => filled_any _ W)).mono ?_
  rintro e w' ⟨rfl, hx⟩
  exact ⟨by unfold vBk; rw [if_pos (Or.inr (Or.inl h2))]; rfl, hx⟩
 by_cases h4 : b.kd = 4
 ·refine (follows_kn m ao n c b w hm 223 229 false _ (by rw [h4]; rfl) hI e223 (fun W => filled_any _ W)).mono ?_
  rintro e w' ⟨rfl, hx⟩
  exact ⟨by unfold vBk; rw [if_pos (Or.inr (Or.inr h4))]; rfl, hx⟩
 by_cases h3 : b.kd = 3
 ·refine (follows_kn m ao n c b w hm 224 228 true _ (by rw [h3]; rfl) hI e224 (fun W => bkText_any _ W)).mono ?_
  rintro e w' ⟨rfl, hx⟩
  exact ⟨by unfold vBk; rw [if_neg (show ¬ (b.kd = 1 \/ b.kd = 2 \/ b.kd = 4) by omega), if_pos h3]; rfl, hx⟩
 by_cases h5 : b.kd = 5
 ·refine (follows_kn m ao n c b w hm 230 231 false _ (by rw [h5]; rfl) hI e230 (fun W => bkName_any _ W)).mono ?_
  rintro e w' ⟨rfl, hx⟩
  exact ⟨by unfold vBk; rw [if_neg (show ¬ (b.kd = 1 \/ b.kd = 2 \/ b.kd = 4) by omega), if_neg h3, if_pos h5]; rfl, hx⟩
 ·refine (follows_un m ao n c b w hm (assoc_rules _ h1 h2 h3 h4 h5)).mono ?_
  rintro e w' ⟨rfl, hx⟩
  exact ⟨by unfold vBk; rw [if_neg (show ¬ (b.kd = 1 \/ b.kd = 2 \/ b.kd = 4) by omega), if_neg h3, if_neg h5]; simp, hx⟩
theorem RowCap {α : Type} {F : Nat -> Prop} {w : World} {f : α -> List Value} {ao : Option Addr} {n cap : Nat} {l : List α} (h : RowAt F w f (.slice ao n cap) l) : n <= cap := by
 obtain ⟨a, c, e, -, -, h1, -⟩ := h
 injection e with e1 e2 e3
 omega
theorem bksCap {F : Nat -> Prop} {w : World} {ao : Option Addr} {n cap : Nat} {l : List Bk} (h : BksAt F w (.slice ao n cap) l) : n <= cap := by
 obtain ⟨r, -, h1, -⟩ := h
 exact RowCap h1
theorem take_all {l : List Bk} {j k : Nat} {p : Bk -> Bool} (hk : k < j) (hj : j <= l.length) : ((l.take j).drop k).all p = (p (l[k]'(by omega)) && ((l.take j).drop (k + 1)).all p) := by
 have h : k < (l.take j).length := by rw [List.length_take]; omega
 rw [List.drop_eq_getElem_cons h, List.all_cons, List.getElem_take]
theorem blockList_any {F : Nat -> Prop} (v : Value) (l : List Bk) (w : World) (h : BksAt F w v l) :
  Calls Tryz.prog 168 #[v] w fun e w' => e = .returned (.bool (vBks l)) /\ Ext w w' := by
 obtain ⟨r, hr⟩ : ∃ r, r = vBks l := ⟨_, rfl⟩
 rw [<- hr]
 unfold vBks at hr
 obtain ⟨ao, cap, rfl⟩ := h.slice
 have hcap := bksCap h
 obtain ⟨n, hn⟩ : ∃ n, n = l.length := ⟨_, rfl⟩
 rw [<- hn] at h hcap hr ⊢
 replace hn := hid hn
 replace h := hid h
 by_cases hl : n <= 24
 rotate_left
 ·have hq : (24 : Int) < (n : Int) := by omega
  rw [decide_eq_false hl, Bool.false_and] at hr
  replace hr := hid hr
  go_enter Tryz.func168, Tryz.ntmps168
  go_wp2_with fail
  go_ret
  exact ⟨by rw [hr.out]; rfl, Mod.refl _ _⟩
 have hq : ¬ (24 : Int) < (n : Int) := by omega
 rw [decide_eq_true hl, Bool.true_and] at hr
 replace hr := hid hr
 have hR := hid (rules_any w)
 go_enter Tryz.func168, Tryz.ntmps168
 go_wp2_with fail
 refine hR.out.mono ?_
 rintro e w1 ⟨rfl, hm1, hx1⟩
 clear hR
 generalize w.heap.size = M at hm1 ⊢
 replace hm1 := hid hm1
 replace hx1 := hid hx1
 go_wp2_with fail
 go_loopg [14] n (fun g i wr => ∃ j : Nat, j + g = n /\ i = .int .i64 j /\ Ext w wr /\ RulesAt wr M /\ r = vBksF (l.take j) (l.drop j))
 case atStart => exact ⟨0, by omega, rfl, hx1.out, hm1.out, hr.out⟩
 case round =>
  clear hr hm1 hx1
  obtain ⟨j, hj, rfl, hx, hm, hrj⟩ := hrel
  replace hj := hid hj
  by_cases hlt : j < n
  rotate_left
  ·have hdi : ¬ (j : Int) < (n : Int) := by omega
   have hd : decide ((j : Int) < (n : Int)) = false := decide_eq_false hdi
   rw [List.drop_eq_nil_of_le (by have := hn.out; omega)] at hrj
   replace hrj := hid hrj
   replace hx := hid hx
   replace hm := hid hm
   go_wp2_with fail
   go_ret
   exact ⟨by rw [hrj.out]; rfl, hx.out⟩
  ·have hdi : (j : Int) < (n : Int) := by omega
   have hd : decide ((j : Int) < (n : Int)) = true := decide_eq_true hdi
   have hjl : j < l.length := by have := hn.out; omega
   obtain ⟨b1, o1, a1, m1, c1, rfl, -, hF1, hI1, g0, g1, g2, g3, g4, g5, g6, g7, g8⟩ := (h.out.ext hx).cells hjl
   have hrest : Hid (∀ bb, bb = l[j] -> r = (vBk bb && ((l.take j).all (fun x => !decide (x.id = bb.id)) && vBksF (l.take (j + 1)) (l.drop (j + 1))))) := hid (fun bb e => by
    rw [hrj, List.drop_eq_getElem_cons hjl, e]
    simp only [vBksF]
    rw [List.take_succ_eq_append_getElem hjl])
   clear hrj
   have hfol := fun W (hX : Ext wr W) => follows_any (F := F) M a1 m1 c1 l[j] W (hm.mod hX (fun h => h)) (hI1.ext hX)
   obtain ⟨bb, hbb⟩ : ∃ bb, bb = l[j] := ⟨_, rfl⟩
   rw [<- hbb] at g0 g1 g2 g3 g4 g5 g7 g8 hfol
   have hrest := hid (hrest.out bb hbb)
   clear hI1 hF1
   replace hbb := hid hbb
   obtain ⟨i1, k1, x1, s1, r1, t1, y1, p1, q1⟩ := bb
   simp only at g0 g1 g2 g3 g4 g5 g6 g7 g8
   have hB := two_boxes wr #[.int .i64 i1, .int .i64 k1, .string ⟨x1.toArray⟩, .int .i64 s1, .int .i64 r1, .int .i64 t1, .slice a1 m1 c1, .int .i64 p1, .int .i64 q1] #[] 118 0
   have hxa := Mod.alloc (Mod.refl (fun _ => False) wr) (.cells #[.int .i64 i1, .int .i64 k1, .string ⟨x1.toArray⟩, .int .i64 s1, .int .i64 r1, .int .i64 t1, .slice a1 m1 c1, .int .i64 p1, .int .i64 q1] 118)
   have hfol := hid (hfol _ hxa)
   unfold bkV at hfol
   have hbx := heap_alloc_new wr (.cells #[.int .i64 i1, .int .i64 k1, .string ⟨x1.toArray⟩, .int .i64 s1, .int .i64 r1, .int .i64 t1, .slice a1 m1 c1, .int .i64 p1, .int .i64 q1] 118)
   replace hxa := hid hxa
   replace hbx := hid hbx
   replace hm := hid hm
   replace hx := hid hx
   clear hB
   go_wp2_with fail
   refine hfol.out.mono ?_
   rintro e w2 ⟨rfl, hx2⟩
   clear hfol g0 g1 g2 g3 g4 g5 g6 g7 g8
   have hbx2 := hid (hx2.at hbx.out (fun h => h))
   have hx2 := hid (hxa.out.trans hx2)
   have hm2 := hid (hm.out.mod hx2.out (fun h => h))
   have hx2 := hid (hx.out.trans hx2.out)
   clear hx hm hxa hbx
   generalize wr.heap.size = R at hbx2 ⊢
   generalize vBk ⟨i1, k1, x1, s1, r1, t1, y1, p1, q1⟩ = vb at hrest ⊢
   have hjc : (j : Int) <= (cap : Int) := by omega
   cases vb with
   | false =>
    go_wp2_with fail
    go_ret
    exact ⟨by rw [hrest.out]; rfl, hx2.out⟩
   | true =>
    go_wp2_with fail
    obtain ⟨J, rfl⟩ : ∃ J, J = j := ⟨_, rfl⟩
    obtain ⟨G, rfl⟩ : ∃ G, G = gk := ⟨_, rfl⟩
    obtain ⟨rest, hrs⟩ : ∃ rest, rest = vBksF (l.take (J + 1)) (l.drop (J + 1)) := ⟨_, rfl⟩
    rw [<- hrs] at hrest
    replace hrs := hid hrs
    go_loopg [27] J (fun g i wi => ∃ k : Nat, k + g = J /\ i = .int .i64 k /\ Ext w wi /\ RulesAt wi M /\ wi.heap[R]? = some (.cells #[.int .i64 i1, .int .i64 k1, .string ⟨x1.toArray⟩, .int .i64 s1, .int .i64 r1, .int .i64 t1, .slice a1 m1 c1, .int .i64 p1, .int .i64 q1] 118 (0, 0)) /\ r = (((l.take J).drop k).all (fun x => !decide (x.id = i1)) && rest))
    case atStart => exact ⟨0, by omega, rfl, hx2.out, hm2.out, hbx2.out, hrest.out⟩
    case round =>
     obtain ⟨wi, rfl⟩ : ∃ wi : World, wi = wr := ⟨_, rfl⟩
     clear hrest hx2 hm2 hbx2
     obtain ⟨k, hk, rfl, hx, hm, hbx, hrk⟩ := hrel
     replace hk := hid hk
     by_cases hlk : k < J
     ·have hdk : (k : Int) < (J : Int) := by omega
      have hdd : decide ((k : Int) < (J : Int)) = true := decide_eq_true hdk
      have hkl : k < l.length := by omega
      obtain ⟨b2, o2, a2, m2, c2, e2, -, -, -, f0, f1, f2, f3, f4, f5, f6, f7, f8⟩ := (h.out.ext hx).cells hkl
      injection e2 with e2; injection e2 with e2 e3 _
      subst e2; subst e3
      rw [take_all hlk (Nat.le_of_lt hjl)] at hrk
      have up2 : ∀ {o : Nat} {v : Value}, wi.cell? ⟨b1, o, none⟩ = some v -> ∀ ob, (wi.alloc ob).cell? ⟨b1, o, none⟩ = some v := fun h ob => (Mod.alloc (Mod.refl (fun _ => False) wi) ob).cell h (fun h => h)
      have c0 : ∀ ob, (wi.alloc ob).cell? ⟨R, 0, none⟩ = some (.int .i64 i1) := fun ob => (Mod.alloc (Mod.refl (fun _ => False) wi) ob).cell (cell_of' hbx 0) (fun h => h)
      obtain ⟨z, hz⟩ : ∃ z, z = l[k] := ⟨_, rfl⟩
      rw [<- hz] at f0 f1 f2 f3 f4 f5 f7 f8 hrk
      clear hz up2
      have hc := int_beq z.id i1
      have hxa := hid (hx.alloc (.cells #[.int .i64 z.id, .int .i64 z.kd, .string ⟨z.tx.toArray⟩, .int .i64 z.st, .int .i64 z.rf, .int .i64 z.lb.til, .slice a2 m2 c2, .int .i64 z.lb.app, .int .i64 z.lb.den] 118))
      have hma := hid (hm.mod (Mod.alloc (Mod.refl (fun _ => False) wi) (.cells #[.int .i64 z.id, .int .i64 z.kd, .string ⟨z.tx.toArray⟩, .int .i64 z.st, .int .i64 z.rf, .int .i64 z.lb.til, .slice a2 m2 c2, .int .i64 z.lb.app, .int .i64 z.lb.den] 118)) (fun h => h))
      have hba := hid ((Mod.alloc (Mod.refl (fun _ => False) wi) (.cells #[.int .i64 z.id, .int .i64 z.kd, .string ⟨z.tx.toArray⟩, .int .i64 z.st, .int .i64 z.rf, .int .i64 z.lb.til, .slice a2 m2 c2, .int .i64 z.lb.app, .int .i64 z.lb.den] 118)).at hbx (fun h => h))
      generalize decide (z.id = i1) = q at hc hrk
      replace hrk := hid hrk
      replace hx := hid hx
      replace hm := hid hm
      replace hbx := hid hbx
      cases q with
      | true =>
       go_wp2_with fail
       go_ret
       exact ⟨by rw [hrk.out]; rfl, hxa.out⟩
      | false =>
       go_wp2_with fail
       go_roundg (gk - 1)
       case measure => have := hk.out; omega
       case rel => exact ⟨k + 1, by have := hk.out; omega, by go_num, hxa.out, hma.out, hba.out, by rw [hrk.out]; rfl⟩
     ·obtain rfl : k = J := by have := hk.out; omega
      have hdk : ¬ (k : Int) < (k : Int) := by omega
      rw [List.drop_eq_nil_of_le (by rw [List.length_take]; omega)] at hrk
      replace hrk := hid hrk
      replace hx := hid hx
      replace hm := hid hm
      replace hbx := hid hbx
      go_wp2_with fail
      go_roundg (G - 1)
      case measure => have := hj.out; omega
      case rel => exact ⟨k + 1, by have := hj.out; omega, by go_num, hx.out, hm.out, by rw [hrk.out]; exact hrs.out⟩
theorem fwithin_any (n a b : Int) (w : World) : Calls Tryz.prog 53 #[.int .i64 n, .int .i64 a, .int .i64 b] w fun e w' => e = .returned (.bool (rng n a b)) /\ w = w' := by
 obtain ⟨r, hr⟩ : ∃ r, r = rng n a b := ⟨_, rfl⟩
 rw [<- hr]
 unfold rng at hr
 by_cases h1 : a <= n <;> by_cases h2 : n <= b
 all_goals
  replace hr := hid hr
  go_enter Tryz.func53, Tryz.ntmps53
  go_wp2
  go_ret
  exact ⟨by rw [hr.out]; simp [*], rfl⟩
theorem swithin_any (n a b : Int) (w : World) : Calls Tryz.prog 29 #[.int .i64 n, .int .i64 a, .int .i64 b] w fun e w' => e = .returned (.bool (rng n a b)) /\ w = w' := by
 obtain ⟨r, hr⟩ : ∃ r, r = rng n a b := ⟨_, rfl⟩
 rw [<- hr]
 unfold rng at hr
 by_cases h1 : a <= n <;> by_cases h2 : n <= b
 all_goals
  replace hr := hid hr
  go_enter Tryz.func29, Tryz.ntmps29
  go_wp2
  go_ret
  exact ⟨by rw [hr.out]; simp [*], rfl⟩
theorem fprint_any (c : UInt8) (w : World) : Calls Tryz.prog 171 #[.int .u8 c.toNat] w fun e w' => e = .returned (.bool (isPr c)) /\ w = w' := by
 have e1 : Hid (isPr c = (decide (32 <= c.toNat) && decide (c.toNat <= 126))) := hid rfl
 generalize isPr c = r at e1 ⊢
 generalize c.toNat = n at e1 ⊢
 by_cases h1 : (32 : Int) <= (n : Int) <;> by_cases h2 : (n : Int) <= 126
 all_goals
  go_enter Tryz.func171, Tryz.ntmps171
  go_wp2
  go_ret
  refine ⟨?_, rfl⟩
  rw [e1.out]
  congr 2
  simp only
  first | omega | (simp; omega)
theorem fnamec_any (c : UInt8) (w : World) : Calls Tryz.prog 172 #[.int .u8 c.toNat] w fun e w' => e = .returned (.bool (isNc c)) /\ w = w' := by
 have hc := hid (nc_iff c)
 generalize isNc c = r at hc ⊢
 generalize c.toNat = n at hc ⊢
 by_cases h1 : (97 : Int) <= (n : Int) <;> by_cases h2 : (n : Int) <= 122 <;> by_cases h3 : (48 : Int) <= (n : Int) <;> by_cases h4 : (n : Int) <= 57 <;> cases h5 : ((n : Int) == 45)
 all_goals
  have h5' := h5
  simp only [beq_iff_eq, beq_eq_false_iff_ne, ne_eq] at h5'
  replace h5' := hid h5'
 all_goals try (exfalso; have := h5'.out; omega)
 all_goals
  go_enter Tryz.func172, Tryz.ntmps172
  go_wp2
  go_ret
  refine ⟨?_, rfl⟩
  rw [hc.out]
  congr 2
  have := h5'.out
  simp
  omega
theorem fsourcec_any (c : UInt8) (w : World) : Calls Tryz.prog 173 #[.int .u8 c.toNat] w fun e w' => e = .returned (.bool (isSc c)) /\ w = w' := by
 have hc : Hid (isSc c = (decide (c.toNat = 10) || isPr c)) := hid rfl
 have hp := hid (fprint_any c w)
 generalize isSc c = r at hc ⊢
 generalize isPr c = p at hc hp
 cases h5 : ((c.toNat : Int) == 10)
 ·have h5' := h5
  simp only [beq_eq_false_iff_ne, ne_eq] at h5'
  replace h5' := hid h5'
  go_enter Tryz.func173, Tryz.ntmps173
  go_wp2_with fail
  refine hp.out.mono ?_; rintro e w' ⟨rfl, rfl⟩
  go_wp2_with fail
  go_ret
  refine ⟨?_, rfl⟩
  rw [hc.out, decide_eq_false (show ¬ c.toNat = 10 by have := h5'.out; omega)]
  rfl
 ·have h5' := h5
  simp only [beq_iff_eq] at h5'
  replace h5' := hid h5'
  go_enter Tryz.func173, Tryz.ntmps173
  go_wp2_with fail
  go_ret
  refine ⟨?_, rfl⟩
  rw [hc.out, decide_eq_true (show c.toNat = 10 by have := h5'.out; omega)]
  rfl
theorem consists_any (s : ByteArray) (a b : Nat) (fp : Nat) (p : UInt8 -> Bool) (hb : b <= 100000) (he : ∀ args w, (callFunc fp args).run Tryz.prog w = .ok (.enter fp args) w)
  (hp : ∀ (c : UInt8) (w : World), Calls Tryz.prog fp #[.int .u8 c.toNat] w fun e w' => e = .returned (.bool (p c)) /\ w = w') (w : World) :
  Calls Tryz.prog 170 #[.string s, .int .i64 a, .int .i64 b, fnV fp] w fun e w' => e = .returned (.bool (decide (a <= s.data.toList.length) && (decide (s.data.toList.length <= b) && s.data.toList.all p))) /\ w = w' := by
 obtain ⟨r, hr⟩ : ∃ r, r = (decide (a <= s.data.toList.length) && (decide (s.data.toList.length <= b) && s.data.toList.all p)) := ⟨_, rfl⟩
 rw [<- hr]
 rw [<- size_of] at hr
 have hw := hid (fwithin_any s.size a b w)
 have hrg : rng s.size a b = (decide (a <= s.size) && decide (s.size <= b)) := by unfold rng; rw [Bool.eq_iff_iff]; simp
 rw [<- Bool.and_assoc, <- hrg] at hr
 clear hrg
 replace hp := hid hp
 cases hrg : rng (s.size : Int) a b with
 | false =>
  rw [hrg] at hw hr
  replace hr := hid hr
  clear hrg
  go_enter Tryz.func170, Tryz.ntmps170
  go_wp2_with fail
  refine hw.out.mono ?_; rintro e w' ⟨rfl, rfl⟩
  go_wp2_with fail
  go_ret
  exact ⟨by rw [hr.out]; rfl, rfl⟩
 | true =>
  have hsz := (rng_iff.1 hrg).2
  rw [hrg] at hw hr
  rw [Bool.true_and] at hr
  replace hr := hid hr
  have hss : s.size <= 100000 := by omega
  clear hrg hsz
  go_enter Tryz.func170, Tryz.ntmps170
  go_wp2_with fail
  refine hw.out.mono ?_; rintro e w' ⟨rfl, rfl⟩
  clear hw
  go_wp2_with fail
  go_loopg [9] s.size (fun g i wr => ∃ j : Nat, j + g = s.size /\ i = .int .i64 j /\ wr = w /\ r = (s.data.toList.drop j).all p)
  case atStart => exact ⟨0, by omega, rfl, rfl, hr.out⟩
  case round =>
   obtain ⟨j, hj, rfl, rfl, hrj⟩ := hrel
   replace hj := hid hj
   by_cases hlt : j < s.size
   ·rw [all_drop s p hlt] at hrj
    have hc := hp.out s[j] wr
    generalize hrest : (s.data.toList.drop (j + 1)).all p = rest at hrj
    generalize p s[j] = pb at hc hrj
    replace hrj := hid hrj
    replace hrest := hid hrest
    replace hc := hid hc
    go_wp2_with fail
    refine hc.out.mono ?_; rintro e w' ⟨rfl, rfl⟩
    cases pb with
    | false =>
     go_wp2_with fail
     go_ret
     exact ⟨by rw [hrj.out]; rfl, rfl⟩
    | true =>
     go_wp2_with fail
     go_roundg (gk - 1)
     case measure => have := hj.out; omega
     case rel => exact ⟨j + 1, by have := hj.out; omega, by go_num, rfl, by rw [hrj.out, Bool.true_and]; exact hrest.out.symm⟩
   ·obtain rfl : j = s.size := by have := hj.out; omega
    rw [List.drop_eq_nil_of_le (by rw [<- size_of]; exact Nat.le_refl _)] at hrj
    replace hrj := hid hrj
    go_wp2_with fail
    go_ret
    exact ⟨by rw [hrj.out]; rfl, rfl⟩
theorem fname_any (s : ByteArray) (w : World) : Calls Tryz.prog 92 #[.string s] w fun e w' => e = .returned (.bool (isNm s.data.toList)) /\ w = w' := by
 have h := hid (consists_any s 1 20 172 isNc (by decide) (enters_of Tryz.func172 (by kernel_rfl) rfl) fnamec_any w)
 have hr : Hid (isNm s.data.toList = (decide (1 <= s.data.toList.length) && (decide (s.data.toList.length <= 20) && s.data.toList.all isNc))) := hid rfl
 rw [hr.out]
 clear hr
 generalize (decide (1 <= s.data.toList.length) && (decide (s.data.toList.length <= 20) && s.data.toList.all isNc)) = r at h ⊢
 go_enter Tryz.func92, Tryz.ntmps92
 go_wp2_with fail
 refine h.out.mono ?_; rintro e w' ⟨rfl, rfl⟩
 go_wp2_with fail
 go_ret
 exact ⟨rfl, rfl⟩
theorem ftext_any (s : ByteArray) (w : World) : Calls Tryz.prog 91 #[.string s] w fun e w' => e = .returned (.bool (isTx s.data.toList)) /\ w = w' := by
 have h := hid (consists_any s 1 300 171 isPr (by decide) (enters_of Tryz.func171 (by kernel_rfl) rfl) fprint_any w)
 have hr : Hid (isTx s.data.toList = (decide (1 <= s.data.toList.length) && (decide (s.data.toList.length <= 300) && s.data.toList.all isPr))) := hid rfl
 rw [hr.out]
 clear hr
 generalize (decide (1 <= s.data.toList.length) && (decide (s.data.toList.length <= 300) && s.data.toList.all isPr)) = r at h ⊢
 go_enter Tryz.func91, Tryz.ntmps91
 go_wp2_with fail
 refine h.out.mono ?_; rintro e w' ⟨rfl, rfl⟩
 go_wp2_with fail
 go_ret
 exact ⟨rfl, rfl⟩
theorem fsource_any (s : ByteArray) (w : World) : Calls Tryz.prog 93 #[.string s] w fun e w' => e = .returned (.bool (isSo s.data.toList)) /\ w = w' := by
 have h := hid (consists_any s 0 1000 173 isSc (by decide) (enters_of Tryz.func173 (by kernel_rfl) rfl) fsourcec_any w)
 have hr : Hid (isSo s.data.toList = (decide (0 <= s.data.toList.length) && (decide (s.data.toList.length <= 1000) && s.data.toList.all isSc))) := hid (by simp [isSo])
 rw [hr.out]
 clear hr
 generalize (decide (0 <= s.data.toList.length) && (decide (s.data.toList.length <= 1000) && s.data.toList.all isSc)) = r at h ⊢
 go_enter Tryz.func93, Tryz.ntmps93
 go_wp2_with fail
 refine h.out.mono ?_; rintro e w' ⟨rfl, rfl⟩
 go_wp2_with fail
 go_ret
 exact ⟨rfl, rfl⟩
theorem StrsCell {F : Nat -> Prop} {w : World} {ao : Option Addr} {n cap : Nat} {l : List Bs} (h : StrsAt F w (.slice ao n cap) l) {j : Nat} (hj : j < l.length) : ∃ b off, ao = some ⟨b, off, none⟩ /\ w.cell? ⟨b, off + j, none⟩ = some (.string ⟨l[j].toArray⟩) := by
 obtain ⟨b, off, c, e, -, hc⟩ := h.get 1 strC_len (by decide) hj
 injection e with e1 _ _
 have := hc 0 _ (by decide) rfl
 rw [Nat.mul_one, Nat.add_zero] at this
 exact ⟨b, off, e1, this⟩
theorem ltS_eq : ∀ (a b : Bs), Go.Op.bytesLess a b = ltS a b
 | [], [] => rfl
 | _ :: _, [] => rfl
 | [], _ :: _ => rfl
 | x :: a, y :: b => by
  simp only [Go.Op.bytesLess, ltS, ltS_eq a b]
  congr 1
  congr 1
  rw [Bool.eq_iff_iff, beq_iff_eq, decide_eq_true_eq, UInt8.toNat_inj]
theorem ltS_total : ∀ (x y : Bs), ltS x y = !(ltS y x || decide (y = x))
 | [], [] => rfl
 | _ :: _, [] => rfl
 | [], _ :: _ => rfl
 | x :: a, y :: b => by
  have ih := ltS_total a b
  simp only [ltS, List.cons.injEq]
  have h3 : (y = x) ↔ y.toNat = x.toNat := UInt8.toNat_inj.symm
  simp only [h3]
  rcases Nat.lt_trichotomy x.toNat y.toNat with h | h | h
  ·simp [h, show ¬ y.toNat < x.toNat by omega, show ¬ y.toNat = x.toNat by omega]
  ·simp [h, ih]
  ·simp [h, show ¬ x.toNat < y.toNat by omega, show ¬ x.toNat = y.toNat by omega, show ¬ y.toNat = x.toNat by omega]
def tpFrom (l : List Bs) (j : Nat) : Bool := if j = 0 then (match l with | [] => true | t :: r => isNm t && vTpF t r) else vTpF (l.getD (j - 1) []) (l.drop j)
theorem tpFrom_zero {l : List Bs} (h : 0 < l.length) : tpFrom l 0 = (isNm l[0] && tpFrom l 1) := by
 cases l with
 | nil => simp at h
 | cons t r => simp [tpFrom]
theorem tpFrom_succ {l : List Bs} {j : Nat} (hj : 0 < j) (h : j < l.length) : tpFrom l j = (isNm l[j] && (ltS (l[j - 1]'(by omega)) l[j] && tpFrom l (j + 1))) := by
 unfold tpFrom
 rw [if_neg (by omega), if_neg (by omega), List.drop_eq_getElem_cons h]
 simp only [vTpF]
 have e1 : l.getD (j - 1) [] = l[j - 1]'(by omega) := by simp [List.getD, show j - 1 < l.length by omega]
 have e2 : l.getD (j + 1 - 1) [] = l[j] := by simp [List.getD, h]
 rw [e1, e2]
theorem tpFrom_end {l : List Bs} {j : Nat} (h : l.length <= j) : tpFrom l j = true := by
 unfold tpFrom
 split
 ·rename_i h0
  subst h0
  have : l = [] := List.eq_nil_of_length_eq_zero (by omega)
  subst this; rfl
 ·rw [List.drop_eq_nil_of_le h]; rfl
theorem ftopics_any {F : Nat -> Prop} (v : Value) (l : List Bs) (w : World) (h : StrsAt F w v l) :
  Calls Tryz.prog 167 #[v] w fun e w' => e = .returned (.bool (vTp l)) /\ w = w' := by
 obtain ⟨r, hr⟩ : ∃ r, r = vTp l := ⟨_, rfl⟩
 rw [<- hr]
 obtain ⟨ao, cap, rfl⟩ := h.slice
 obtain ⟨n, hn⟩ : ∃ n, n = l.length := ⟨_, rfl⟩
 have hr2 : r = (decide (l.length <= 4) && tpFrom l 0) := hr
 clear hr
 rw [<- hn] at h hr2 ⊢
 replace hn := hid hn
 replace h := hid h
 by_cases hl : n <= 4
 rotate_left
 ·have hq : (4 : Int) < (n : Int) := by omega
  rw [decide_eq_false hl, Bool.false_and] at hr2
  replace hr2 := hid hr2
  go_enter Tryz.func167, Tryz.ntmps167
  go_wp2_with fail
  go_ret
  exact ⟨by rw [hr2.out]; rfl, rfl⟩
 have hq : ¬ (4 : Int) < (n : Int) := by omega
 rw [decide_eq_true hl, Bool.true_and] at hr2
 replace hr2 := hid hr2
 go_enter Tryz.func167, Tryz.ntmps167
 go_wp2_with fail
 go_loopg [10] n (fun g i wr => ∃ j : Nat, j + g = n /\ i = .int .i64 j /\ wr = w /\ r = tpFrom l j)
 case atStart => exact ⟨0, by omega, rfl, rfl, hr2.out⟩
 case round =>
  clear hr2
  obtain ⟨j, hj, rfl, rfl, hrj⟩ := hrel
  replace hj := hid hj
  by_cases hlt : j < n
  rotate_left
  ·have hdi : ¬ (j : Int) < (n : Int) := by omega
   have hd : decide ((j : Int) < (n : Int)) = false := decide_eq_false hdi
   rw [tpFrom_end (by have := hn.out; omega)] at hrj
   replace hrj := hid hrj
   go_wp2_with fail
   go_ret
   exact ⟨by rw [hrj.out]; rfl, rfl⟩
  ·have hdi : (j : Int) < (n : Int) := by omega
   have hd : decide ((j : Int) < (n : Int)) = true := decide_eq_true hdi
   have hjl : j < l.length := by have := hn.out; omega
   obtain ⟨b, off, rfl, c0⟩ := StrsCell h.out hjl
   have hN := fname_any ⟨l[j].toArray⟩ wr
   rw [str_of] at hN
   by_cases h0 : j = 0
   ·subst h0
    rw [tpFrom_zero hjl] at hrj
    generalize l[0] = x at c0 hN hrj
    generalize isNm x = bx at hN hrj
    replace hN := hid hN
    obtain ⟨rest, hrs⟩ : ∃ rest, rest = tpFrom l 1 := ⟨_, rfl⟩
    rw [<- hrs] at hrj
    replace hrs := hid hrs
    replace hrj := hid hrj
    simp only [Nat.add_zero] at c0
    go_wp2_with fail
    refine hN.out.mono ?_; rintro e w' ⟨rfl, rfl⟩
    cases bx with
    | false =>
     go_wp2_with fail
     go_ret
     exact ⟨by rw [hrj.out]; rfl, rfl⟩
    | true =>
     go_wp2_with fail
     go_roundg (gk - 1)
     case measure => have := hj.out; omega
     case rel => exact ⟨1, by have := hj.out; omega, rfl, rfl, by rw [hrj.out]; exact hrs.out⟩
   ·rw [tpFrom_succ (by omega) hjl] at hrj
    have hp1 : j - 1 < l.length := by omega
    obtain ⟨b2, off2, e2, c1⟩ := StrsCell h.out hp1
    injection e2 with e2; injection e2 with e2 e3 _
    subst e2; subst e3
    rw [ltS_total, <- ltS_eq, <- bs_beq] at hrj
    generalize l[j] = x at c0 hN hrj
    generalize l[j - 1] = y at c1 hrj
    generalize isNm x = bx at hN hrj
    obtain ⟨q, hq1⟩ : ∃ q, q = Go.Op.bytesLess x y := ⟨_, rfl⟩
    obtain ⟨q2, hq2⟩ : ∃ q2, q2 = (x == y) := ⟨_, rfl⟩
    rw [<- hq1, <- hq2] at hrj
    replace hq1 := hq1.symm
    replace hq2 := hq2.symm
    replace hN := hid hN
    obtain ⟨rest, hrs⟩ : ∃ rest, rest = tpFrom l (j + 1) := ⟨_, rfl⟩
    rw [<- hrs] at hrj
    replace hrs := hid hrs
    replace hrj := hid hrj
    have hj0 : (0 : Int) < (j : Int) := by omega
    have hj1 : (j : Int) - 1 = ((j - 1 : Nat) : Int) := by omega
    obtain ⟨m, rfl⟩ : ∃ m, j = m + 1 := ⟨j - 1, by omega⟩
    clear hj1
    simp only [Nat.add_sub_cancel] at c1
    go_wp2_with fail
    refine hN.out.mono ?_; rintro e w' ⟨rfl, rfl⟩
    cases bx with
    | false =>
     go_wp2_with fail
     go_ret
     exact ⟨by rw [hrj.out]; rfl, rfl⟩
    | true =>
     cases q <;> cases q2
     ·go_wp2_with fail
      go_roundg (gk - 1)
      case measure => have := hj.out; omega
      case rel => exact ⟨m + 1 + 1, by have := hj.out; omega, by go_num, rfl, by rw [hrj.out]; exact hrs.out⟩
     all_goals
      go_wp2_with fail
      go_ret
      exact ⟨by rw [hrj.out]; rfl, rfl⟩
def fcA (a1 : Option Addr) (n1 c1 : Nat) (a2 : Option Addr) (n2 c2 : Nat) (a3 : Option Addr) (n3 c3 : Nat) (f : Fc) : Array Value :=
 #[.int .i64 f.n, .int .i64 f.tm, .int .i64 f.kd, .int .i64 f.st, .string ⟨f.lg.toArray⟩, .int .i64 f.rv, .int .i64 f.bs, .string ⟨f.ti.toArray⟩, .string ⟨f.au.toArray⟩, .slice a1 n1 c1, .slice a2 n2 c2, .int .i64 f.lb.til, .slice a3 n3 c3, .int .i64 f.lb.app, .int .i64 f.lb.den, .int .i64 f.ed, .int .i64 f.bk, .int .i64 f.se, .string ⟨f.tx.toArray⟩, .string ⟨f.nm.toArray⟩, .int .i64 f.pa, .int .i64 f.cl, .int .i64 f.un]
theorem frevision_any {F : Nat -> Prop} (a1 : Option Addr) (n1 c1 : Nat) (a2 : Option Addr) (n2 c2 : Nat) (a3 : Option Addr) (n3 c3 : Nat) (f : Fc) (w : World) (h1 : StrsAt F w (.slice a1 n1 c1) f.tp) (h2 : BksAt F w (.slice a2 n2 c2) f.bl) (h3 : IntsAt F w (.slice a3 n3 c3) f.lb.aft) :
  Calls Tryz.prog 88 #[.agg (fcA a1 n1 c1 a2 n2 c2 a3 n3 c3 f)] w fun e w' => e = .returned (.bool (isNm f.lg && (rng f.rv 1 100 && (rng f.bs 0 (f.rv - 1) && (isTx f.ti && (isNm f.au && (vTp f.tp && (vBks f.bl && vLb f.lb)))))))) /\ Ext w w' := by
 obtain ⟨r, hr⟩ : ∃ r, r = (isNm f.lg && (rng f.rv 1 100 && (rng f.bs 0 (f.rv - 1) && (isTx f.ti && (isNm f.au && (vTp f.tp && (vBks f.bl && vLb f.lb))))))) := ⟨_, rfl⟩
 rw [<- hr]
 have k1 := hid (fun W => fname_any ⟨f.lg.toArray⟩ W)
 have k2 := hid (fun W => fwithin_any f.rv 1 100 W)
 have k3 := hid (fun W => fwithin_any f.bs 0 (f.rv - 1) W)
 have k4 := hid (fun W => ftext_any ⟨f.ti.toArray⟩ W)
 have k5 := hid (fun W => fname_any ⟨f.au.toArray⟩ W)
 have k6 := hid (fun W (hX : Ext w W) => ftopics_any (F := F) (.slice a1 n1 c1) f.tp W (h1.ext hX))
 have k7 := hid (fun W (hX : Ext w W) => blockList_any (F := F) (.slice a2 n2 c2) f.bl W (h2.ext hX))
 have k8 := hid (fun W (hX : Ext w W) => labelValid_any (F := F) (.slice a3 n3 c3) f.lb W (h3.ext hX))
 simp only [] at k1 k4 k5
 clear h1 h2 h3
 obtain ⟨fn, ftm, fkd, fst, flg, frv, fbs, fti, fau, ftp, fbl, flb, fed, fbk, fse, ftx, fnm, fpa, fcl, fun_⟩ := f
 obtain ⟨til, aft, app, den⟩ := flb
 simp only at k1 k2 k3 k4 k5 k6 k7 k8 hr
 unfold lbC at k8
 simp only at k8
 have hrv : rng frv 1 100 = true -> 1 <= frv /\ frv <= 100 := rng_iff.1
 generalize isNm flg = b1 at k1 hr
 generalize rng frv 1 100 = b2 at k2 hr hrv
 generalize rng fbs 0 (frv - 1) = b3 at k3 hr
 generalize isTx fti = b4 at k4 hr
 generalize isNm fau = b5 at k5 hr
 generalize vTp ftp = b6 at k6 hr
 generalize vBks fbl = b7 at k7 hr
 generalize vLb ⟨til, aft, app, den⟩ = b8 at k8 hr
 replace hr := hid hr
 replace hrv := hid hrv
 unfold fcA
 simp only
 go_enter Tryz.func88, Tryz.ntmps88
 go_wp2_with fail
 have hx1 := Mod.alloc (Mod.refl (fun _ => False) w) (.cells #[.int .i64 fn, .int .i64 ftm, .int .i64 fkd, .int .i64 fst, .string ⟨flg.toArray⟩, .int .i64 frv, .int .i64 fbs, .string ⟨fti.toArray⟩, .string ⟨fau.toArray⟩, .slice a1 n1 c1, .slice a2 n2 c2, .int .i64 til, .slice a3 n3 c3, .int .i64 app, .int .i64 den, .int .i64 fed, .int .i64 fbk, .int .i64 fse, .string ⟨ftx.toArray⟩, .string ⟨fnm.toArray⟩, .int .i64 fpa, .int .i64 fcl, .int .i64 fun_] 28)
 have hR := heap_alloc_new w (.cells #[.int .i64 fn, .int .i64 ftm, .int .i64 fkd, .int .i64 fst, .string ⟨flg.toArray⟩, .int .i64 frv, .int .i64 fbs, .string ⟨fti.toArray⟩, .string ⟨fau.toArray⟩, .slice a1 n1 c1, .slice a2 n2 c2, .int .i64 til, .slice a3 n3 c3, .int .i64 app, .int .i64 den, .int .i64 fed, .int .i64 fbk, .int .i64 fse, .string ⟨ftx.toArray⟩, .string ⟨fnm.toArray⟩, .int .i64 fpa, .int .i64 fcl, .int .i64 fun_] 28)
 generalize (w.alloc (.cells #[.int .i64 fn, .int .i64 ftm, .int .i64 fkd, .int .i64 fst, .string ⟨flg.toArray⟩, .int .i64 frv, .int .i64 fbs, .string ⟨fti.toArray⟩, .string ⟨fau.toArray⟩, .slice a1 n1 c1, .slice a2 n2 c2, .int .i64 til, .slice a3 n3 c3, .int .i64 app, .int .i64 den, .int .i64 fed, .int .i64 fbk, .int .i64 fse, .string ⟨ftx.toArray⟩, .string ⟨fnm.toArray⟩, .int .i64 fpa, .int .i64 fcl, .int .i64 fun_] 28)) = w1 at hx1 hR ⊢
 generalize w.heap.size = R at hR ⊢
 have p5 : w1.cell? ⟨R, 5, none⟩ = some (.int .i64 frv) := cell_of' hR 5
 have p6 : w1.cell? ⟨R, 6, none⟩ = some (.int .i64 fbs) := cell_of' hR 6
 have p7 : w1.cell? ⟨R, 7, none⟩ = some (.string ⟨fti.toArray⟩) := cell_of' hR 7
 have p8 : w1.cell? ⟨R, 8, none⟩ = some (.string ⟨fau.toArray⟩) := cell_of' hR 8
 have p9 : w1.cell? ⟨R, 9, none⟩ = some (.slice a1 n1 c1) := cell_of' hR 9
 have p10 : w1.cell? ⟨R, 10, none⟩ = some (.slice a2 n2 c2) := cell_of' hR 10
 replace hR := hid hR
 replace hx1 := hid hx1
 refine (k1.out _).mono ?_; rintro e w' ⟨rfl, rfl⟩
 cases b1 with
 | false =>
  go_wp2_with fail
  go_ret
  exact ⟨by rw [hr.out]; simp, hx1.out⟩
 | true =>
  go_wp2_with fail
  refine (k2.out _).mono ?_; rintro e w' ⟨rfl, rfl⟩
  cases b2 with
  | false =>
   go_wp2_with fail
   go_ret
   exact ⟨by rw [hr.out]; simp, hx1.out⟩
  | true =>
   obtain ⟨hv1, hv2⟩ := hrv.out rfl
   clear hrv
   go_wp2_with fail
   refine (k3.out _).mono ?_; rintro e w' ⟨rfl, rfl⟩
   cases b3 with
   | false =>
    go_wp2_with fail
    go_ret
    exact ⟨by rw [hr.out]; simp, hx1.out⟩
   | true =>
    go_wp2_with fail
    refine (k4.out _).mono ?_; rintro e w' ⟨rfl, rfl⟩
    cases b4 with
    | false =>
     go_wp2_with fail
     go_ret
     exact ⟨by rw [hr.out]; simp, hx1.out⟩
    | true =>
     go_wp2_with fail
     refine (k5.out _).mono ?_; rintro e w' ⟨rfl, rfl⟩
     cases b5 with
     | false =>
      go_wp2_with fail
      go_ret
      exact ⟨by rw [hr.out]; simp, hx1.out⟩
     | true =>
      go_wp2_with fail
      refine (k6.out _ hx1.out).mono ?_; rintro e w' ⟨rfl, rfl⟩
      cases b6 with
      | false =>
       go_wp2_with fail
       go_ret
       exact ⟨by rw [hr.out]; simp, hx1.out⟩
      | true =>
       go_wp2_with fail
       refine (k7.out _ hx1.out).mono ?_; rintro e w3 ⟨rfl, hx3⟩
       have hR3 := hx3.at hR.out (fun h => h)
       have p11 : w3.cell? ⟨R, 11, none⟩ = some (.int .i64 til) := cell_of' hR3 11
       have p12 : w3.cell? ⟨R, 12, none⟩ = some (.slice a3 n3 c3) := cell_of' hR3 12
       have p13 : w3.cell? ⟨R, 13, none⟩ = some (.int .i64 app) := cell_of' hR3 13
       have p14 : w3.cell? ⟨R, 14, none⟩ = some (.int .i64 den) := cell_of' hR3 14
       clear p5 p6 p7 p8 p9 p10 hR3
       replace hx1 := hid (hx1.out.trans hx3)
       clear hx3
       cases b7 with
       | false =>
        go_wp2_with fail
        go_ret
        exact ⟨by rw [hr.out]; simp, hx1.out⟩
       | true =>
        go_wp2_with fail
        refine (k8.out _ hx1.out).mono ?_; rintro e w3 ⟨rfl, hx3⟩
        replace hx1 := hid (hx1.out.trans hx3)
        clear hx3
        cases b8 with
        | false =>
         go_wp2_with fail
         go_ret
         exact ⟨by rw [hr.out]; simp, hx1.out⟩
        | true =>
         go_wp2_with fail
         go_ret
         exact ⟨by rw [hr.out]; simp, hx1.out⟩
theorem fcorrection_any (a1 : Option Addr) (n1 c1 : Nat) (a2 : Option Addr) (n2 c2 : Nat) (a3 : Option Addr) (n3 c3 : Nat) (f : Fc) (w : World) :
  Calls Tryz.prog 90 #[.agg (fcA a1 n1 c1 a2 n2 c2 a3 n3 c3 f)] w fun e w' => e = .returned (.bool (isNm f.lg && (rng f.bk 1 1000 && (rng f.se 0 299 && isTx f.tx)))) /\ Ext w w' := by
 obtain ⟨r, hr⟩ : ∃ r, r = (isNm f.lg && (rng f.bk 1 1000 && (rng f.se 0 299 && isTx f.tx))) := ⟨_, rfl⟩
 rw [<- hr]
 have k1 := hid (fun W => fname_any ⟨f.lg.toArray⟩ W)
 have k2 := hid (fun W => fwithin_any f.bk 1 1000 W)
 have k3 := hid (fun W => fwithin_any f.se 0 299 W)
 have k4 := hid (fun W => ftext_any ⟨f.tx.toArray⟩ W)
 simp only [] at k1 k4
 obtain ⟨fn, ftm, fkd, fst, flg, frv, fbs, fti, fau, ftp, fbl, flb, fed, fbk, fse, ftx, fnm, fpa, fcl, fun_⟩ := f
 obtain ⟨til, aft, app, den⟩ := flb
 simp only at k1 k2 k3 k4 hr
 generalize isNm flg = b1 at k1 hr
 generalize rng fbk 1 1000 = b2 at k2 hr
 generalize rng fse 0 299 = b3 at k3 hr
 generalize isTx ftx = b4 at k4 hr
 replace hr := hid hr
 unfold fcA
 simp only
 go_enter Tryz.func90, Tryz.ntmps90
 go_wp2_with fail
 have hx1 := Mod.alloc (Mod.refl (fun _ => False) w) (.cells #[.int .i64 fn, .int .i64 ftm, .int .i64 fkd, .int .i64 fst, .string ⟨flg.toArray⟩, .int .i64 frv, .int .i64 fbs, .string ⟨fti.toArray⟩, .string ⟨fau.toArray⟩, .slice a1 n1 c1, .slice a2 n2 c2, .int .i64 til, .slice a3 n3 c3, .int .i64 app, .int .i64 den, .int .i64 fed, .int .i64 fbk, .int .i64 fse, .string ⟨ftx.toArray⟩, .string ⟨fnm.toArray⟩, .int .i64 fpa, .int .i64 fcl, .int .i64 fun_] 28)
 have hR := heap_alloc_new w (.cells #[.int .i64 fn, .int .i64 ftm, .int .i64 fkd, .int .i64 fst, .string ⟨flg.toArray⟩, .int .i64 frv, .int .i64 fbs, .string ⟨fti.toArray⟩, .string ⟨fau.toArray⟩, .slice a1 n1 c1, .slice a2 n2 c2, .int .i64 til, .slice a3 n3 c3, .int .i64 app, .int .i64 den, .int .i64 fed, .int .i64 fbk, .int .i64 fse, .string ⟨ftx.toArray⟩, .string ⟨fnm.toArray⟩, .int .i64 fpa, .int .i64 fcl, .int .i64 fun_] 28)
 generalize (w.alloc (.cells #[.int .i64 fn, .int .i64 ftm, .int .i64 fkd, .int .i64 fst, .string ⟨flg.toArray⟩, .int .i64 frv, .int .i64 fbs, .string ⟨fti.toArray⟩, .string ⟨fau.toArray⟩, .slice a1 n1 c1, .slice a2 n2 c2, .int .i64 til, .slice a3 n3 c3, .int .i64 app, .int .i64 den, .int .i64 fed, .int .i64 fbk, .int .i64 fse, .string ⟨ftx.toArray⟩, .string ⟨fnm.toArray⟩, .int .i64 fpa, .int .i64 fcl, .int .i64 fun_] 28)) = w1 at hx1 hR ⊢
 generalize w.heap.size = R at hR ⊢
 have p16 : w1.cell? ⟨R, 16, none⟩ = some (.int .i64 fbk) := cell_of' hR 16
 have p17 : w1.cell? ⟨R, 17, none⟩ = some (.int .i64 fse) := cell_of' hR 17
 have p18 : w1.cell? ⟨R, 18, none⟩ = some (.string ⟨ftx.toArray⟩) := cell_of' hR 18
 replace hR := hid hR
 replace hx1 := hid hx1
 refine (k1.out _).mono ?_; rintro e w' ⟨rfl, rfl⟩
 cases b1 with
 | false =>
  go_wp2_with fail
  go_ret
  exact ⟨by rw [hr.out]; simp, hx1.out⟩
 | true =>
  go_wp2_with fail
  refine (k2.out _).mono ?_; rintro e w' ⟨rfl, rfl⟩
  cases b2 with
  | false =>
   go_wp2_with fail
   go_ret
   exact ⟨by rw [hr.out]; simp, hx1.out⟩
  | true =>
   go_wp2_with fail
   refine (k3.out _).mono ?_; rintro e w' ⟨rfl, rfl⟩
   cases b3 with
   | false =>
    go_wp2_with fail
    go_ret
    exact ⟨by rw [hr.out]; simp, hx1.out⟩
   | true =>
    go_wp2_with fail
    refine (k4.out _).mono ?_; rintro e w' ⟨rfl, rfl⟩
    cases b4 with
    | false =>
     go_wp2_with fail
     go_ret
     exact ⟨by rw [hr.out]; simp, hx1.out⟩
    | true =>
     go_wp2_with fail
     go_ret
     exact ⟨by rw [hr.out]; simp, hx1.out⟩
end Go.Proofs.YtpaefpnkemkikaaGreatDoor
namespace Cdk
open Go Go.RowKit
def strip (o : Oper) : Oper := ⟨o.dst, o.op, o.type, "", #[], o.guard⟩
theorem strip_mk (d : Option Tmp) (op : Op) (t : TypeId) (p : String) (e : Array Edge) (g : Option (Nat × Bool)) : strip ⟨d, op, t, p, e, g⟩ = ⟨d, op, t, "", #[], g⟩ := rfl
section
variable {P : Program} {Q : Exit -> Act -> World -> Prop}
theorem wp_strip (o : Oper) (a : Act) (w : World) (next : Act -> World -> Prop) : (strip o).wp P a w next Q = o.wp P a w next Q := rfl
theorem yielded_strip (l : List Oper) (t : Array Value) : yielded (l.map strip).toArray t = yielded l.toArray t := by
 funext j
 unfold yielded
 have : ((l.map strip).toArray[j]?).bind (·.dst) = (l.toArray[j]?).bind (·.dst) := by
  simp only [List.getElem?_toArray, List.getElem?_map]
  cases l[j]? <;> rfl
 rw [this]
theorem wpList_strip (ops : List Oper) : ∀ (l : List Oper) (a : Act) (w : World), wpList P (ops.map strip).toArray Q (l.map strip) a w -> wpList P ops.toArray Q l a w
 | [], a, w, h => h
 | o :: r, a, w, h => by
  simp only [List.map_cons, wpList] at h ⊢
  rw [yielded_strip] at h
  have hw : Region.wanted (strip o) (yielded ops.toArray a.tmps) = Region.wanted o (yielded ops.toArray a.tmps) := rfl
  rw [hw] at h
  by_cases hc : Region.wanted o (yielded ops.toArray a.tmps) = true
  ·rw [if_pos hc] at h ⊢
   rcases h with h | h
   ·refine .inl ?_
    rw [wp_strip] at h
    exact Oper.wp_mono (fun a' w' h' => wpList_strip ops r a' w' h') h
   ·exact .inr h
  ·rw [if_neg hc] at h ⊢
   exact wpList_strip ops r _ _ h
theorem wp_region_strip {id : Nat} {l : List Oper} {a : Act} {w : World} (h : wpList P (l.map strip).toArray Q (l.map strip) a w) : (Code.region id l.toArray false).wp P Q a w :=
 wp_region_lit (wpList_strip l l a w h)
end
end Cdk
namespace Go.Proofs.YtpaefpnkemkikaaGreatDoor
open Go.RowKit Cdk Scr
theorem factSame_any {F : Nat -> Prop} (a11 : Option Addr) (n11 c11 : Nat) (a12 : Option Addr) (n12 c12 : Nat) (a13 : Option Addr) (n13 c13 : Nat) (f : Fc) (a21 : Option Addr) (n21 c21 : Nat) (a22 : Option Addr) (n22 c22 : Nat) (a23 : Option Addr) (n23 c23 : Nat) (g : Fc) (w : World)
  (h1 : FcAt F w ⟨.slice a11 n11 c11, .slice a12 n12 c12, .slice a13 n13 c13⟩ f) (h2 : FcAt F w ⟨.slice a21 n21 c21, .slice a22 n22 c22, .slice a23 n23 c23⟩ g) :
  Calls Tryz.prog 39 #[.agg (fcA a11 n11 c11 a12 n12 c12 a13 n13 c13 f), .agg (fcA a21 n21 c21 a22 n22 c22 a23 n23 c23 g)] w fun e w' => e = .returned (.bool (decide (f = g))) /\ Ext w w' := by
 obtain ⟨r, hr⟩ : ∃ r, r = decide (f = g) := ⟨_, rfl⟩
 rw [<- hr]
 have k1 := hid (fun W (hX : Ext w W) => strsEq_any (F := F) (.slice a11 n11 c11) (.slice a21 n21 c21) f.tp g.tp W (h1.tp.ext hX) (h2.tp.ext hX))
 have k2 := hid (fun W (hX : Ext w W) => blockSameList_any (F := F) (.slice a12 n12 c12) (.slice a22 n22 c22) f.bl g.bl W (h1.bl.ext hX) (h2.bl.ext hX))
 have k3 := hid (fun W (hX : Ext w W) => labelSame_any (F := F) (.slice a13 n13 c13) (.slice a23 n23 c23) f.lb g.lb W (h1.af.ext hX) (h2.af.ext hX))
 clear h1 h2
 obtain ⟨n1, tm1, kd1, st1, lg1, rv1, bs1, ti1, au1, tp1, bl1, lb1, ed1, bk1, se1, tx1, nm1, pa1, cl1, un1⟩ := f
 obtain ⟨n2, tm2, kd2, st2, lg2, rv2, bs2, ti2, au2, tp2, bl2, lb2, ed2, bk2, se2, tx2, nm2, pa2, cl2, un2⟩ := g
 obtain ⟨til1, aft1, app1, den1⟩ := lb1
 obtain ⟨til2, aft2, app2, den2⟩ := lb2
 replace hr : r = (decide (n1 = n2) && (decide (tm1 = tm2) && (decide (kd1 = kd2) && (decide (st1 = st2) && (decide (lg1 = lg2) && (decide (rv1 = rv2) && (decide (bs1 = bs2) && (decide (ti1 = ti2) && (decide (au1 = au2) && (decide (tp1 = tp2) && (decide (bl1 = bl2) && (decide ((⟨til1, aft1, app1, den1⟩ : Lb) = ⟨til2, aft2, app2, den2⟩) && (decide (ed1 = ed2) && (decide (bk1 = bk2) && (decide (se1 = se2) && (decide (tx1 = tx2) && (decide (nm1 = nm2) && (decide (pa1 = pa2) && (decide (cl1 = cl2) && (decide (un1 = un2))))))))))))))))))))) := by
  rw [hr, Bool.eq_iff_iff]
  simp only [Fc.mk.injEq, decide_eq_true_eq, Bool.and_eq_true]
 unfold lbC at k3
 simp only at k1 k2 k3
 have e_n := int_beq n1 n2
 have e_tm := int_beq tm1 tm2
 have e_kd := int_beq kd1 kd2
 have e_st := int_beq st1 st2
 have e_lg := bs_beq lg1 lg2
 have e_rv := int_beq rv1 rv2
 have e_bs := int_beq bs1 bs2
 have e_ti := bs_beq ti1 ti2
 have e_au := bs_beq au1 au2
 have e_ed := int_beq ed1 ed2
 have e_bk := int_beq bk1 bk2
 have e_se := int_beq se1 se2
 have e_tx := bs_beq tx1 tx2
 have e_nm := bs_beq nm1 nm2
 have e_pa := int_beq pa1 pa2
 have e_cl := int_beq cl1 cl2
 have e_un := int_beq un1 un2
 generalize decide (n1 = n2) = b_n at hr e_n
 generalize decide (tm1 = tm2) = b_tm at hr e_tm
 generalize decide (kd1 = kd2) = b_kd at hr e_kd
 generalize decide (st1 = st2) = b_st at hr e_st
 generalize decide (lg1 = lg2) = b_lg at hr e_lg
 generalize decide (rv1 = rv2) = b_rv at hr e_rv
 generalize decide (bs1 = bs2) = b_bs at hr e_bs
 generalize decide (ti1 = ti2) = b_ti at hr e_ti
 generalize decide (au1 = au2) = b_au at hr e_au
 generalize decide (ed1 = ed2) = b_ed at hr e_ed
 generalize decide (bk1 = bk2) = b_bk at hr e_bk
 generalize decide (se1 = se2) = b_se at hr e_se
 generalize decide (tx1 = tx2) = b_tx at hr e_tx
 generalize decide (nm1 = nm2) = b_nm at hr e_nm
 generalize decide (pa1 = pa2) = b_pa at hr e_pa
 generalize decide (cl1 = cl2) = b_cl at hr e_cl
 generalize decide (un1 = un2) = b_un at hr e_un
 generalize decide (tp1 = tp2) = b_tp at hr k1
 generalize decide (bl1 = bl2) = b_bl at hr k2
 generalize decide ((⟨til1, aft1, app1, den1⟩ : Lb) = ⟨til2, aft2, app2, den2⟩) = b_lb at hr k3
 replace hr := hid hr
 obtain ⟨hx, hA, hB, -⟩ := two_boxes w #[.int .i64 n1, .int .i64 tm1, .int .i64 kd1, .int .i64 st1, .string ⟨lg1.toArray⟩, .int .i64 rv1, .int .i64 bs1, .string ⟨ti1.toArray⟩, .string ⟨au1.toArray⟩, .slice a11 n11 c11, .slice a12 n12 c12, .int .i64 til1, .slice a13 n13 c13, .int .i64 app1, .int .i64 den1, .int .i64 ed1, .int .i64 bk1, .int .i64 se1, .string ⟨tx1.toArray⟩, .string ⟨nm1.toArray⟩, .int .i64 pa1, .int .i64 cl1, .int .i64 un1] #[.int .i64 n2, .int .i64 tm2, .int .i64 kd2, .int .i64 st2, .string ⟨lg2.toArray⟩, .int .i64 rv2, .int .i64 bs2, .string ⟨ti2.toArray⟩, .string ⟨au2.toArray⟩, .slice a21 n21 c21, .slice a22 n22 c22, .int .i64 til2, .slice a23 n23 c23, .int .i64 app2, .int .i64 den2, .int .i64 ed2, .int .i64 bk2, .int .i64 se2, .string ⟨tx2.toArray⟩, .string ⟨nm2.toArray⟩, .int .i64 pa2, .int .i64 cl2, .int .i64 un2] 28 28
 replace hx := hid hx
 unfold fcA
 simp only
 go_enter Tryz.func39, Tryz.ntmps39
 go_upto_region 1 with (fail)
 generalize ((w.alloc (.cells #[.int .i64 n1, .int .i64 tm1, .int .i64 kd1, .int .i64 st1, .string ⟨lg1.toArray⟩, .int .i64 rv1, .int .i64 bs1, .string ⟨ti1.toArray⟩, .string ⟨au1.toArray⟩, .slice a11 n11 c11, .slice a12 n12 c12, .int .i64 til1, .slice a13 n13 c13, .int .i64 app1, .int .i64 den1, .int .i64 ed1, .int .i64 bk1, .int .i64 se1, .string ⟨tx1.toArray⟩, .string ⟨nm1.toArray⟩, .int .i64 pa1, .int .i64 cl1, .int .i64 un1] 28)).alloc (.cells #[.int .i64 n2, .int .i64 tm2, .int .i64 kd2, .int .i64 st2, .string ⟨lg2.toArray⟩, .int .i64 rv2, .int .i64 bs2, .string ⟨ti2.toArray⟩, .string ⟨au2.toArray⟩, .slice a21 n21 c21, .slice a22 n22 c22, .int .i64 til2, .slice a23 n23 c23, .int .i64 app2, .int .i64 den2, .int .i64 ed2, .int .i64 bk2, .int .i64 se2, .string ⟨tx2.toArray⟩, .string ⟨nm2.toArray⟩, .int .i64 pa2, .int .i64 cl2, .int .i64 un2] 28)) = w1 at hx hA hB ⊢
 generalize w.heap.size = R at hA hB ⊢
 have p_n0 : w1.cell? ⟨R, 0, none⟩ = some (.int .i64 n1) := cell_of' hA 0
 have p_n1 : w1.cell? ⟨R + 1, 0, none⟩ = some (.int .i64 n2) := cell_of' hB 0
 have p_tm0 : w1.cell? ⟨R, 1, none⟩ = some (.int .i64 tm1) := cell_of' hA 1
 have p_tm1 : w1.cell? ⟨R + 1, 1, none⟩ = some (.int .i64 tm2) := cell_of' hB 1
 have p_kd0 : w1.cell? ⟨R, 2, none⟩ = some (.int .i64 kd1) := cell_of' hA 2
 have p_kd1 : w1.cell? ⟨R + 1, 2, none⟩ = some (.int .i64 kd2) := cell_of' hB 2
 have p_st0 : w1.cell? ⟨R, 3, none⟩ = some (.int .i64 st1) := cell_of' hA 3
 have p_st1 : w1.cell? ⟨R + 1, 3, none⟩ = some (.int .i64 st2) := cell_of' hB 3
 have p_lg0 : w1.cell? ⟨R, 4, none⟩ = some (.string ⟨lg1.toArray⟩) := cell_of' hA 4
 have p_lg1 : w1.cell? ⟨R + 1, 4, none⟩ = some (.string ⟨lg2.toArray⟩) := cell_of' hB 4
 have p_rv0 : w1.cell? ⟨R, 5, none⟩ = some (.int .i64 rv1) := cell_of' hA 5
 have p_rv1 : w1.cell? ⟨R + 1, 5, none⟩ = some (.int .i64 rv2) := cell_of' hB 5
 have p_bs0 : w1.cell? ⟨R, 6, none⟩ = some (.int .i64 bs1) := cell_of' hA 6
 have p_bs1 : w1.cell? ⟨R + 1, 6, none⟩ = some (.int .i64 bs2) := cell_of' hB 6
 have p_ti0 : w1.cell? ⟨R, 7, none⟩ = some (.string ⟨ti1.toArray⟩) := cell_of' hA 7
 have p_ti1 : w1.cell? ⟨R + 1, 7, none⟩ = some (.string ⟨ti2.toArray⟩) := cell_of' hB 7
 have p_au0 : w1.cell? ⟨R, 8, none⟩ = some (.string ⟨au1.toArray⟩) := cell_of' hA 8
 have p_au1 : w1.cell? ⟨R + 1, 8, none⟩ = some (.string ⟨au2.toArray⟩) := cell_of' hB 8
 have p_tp0 : w1.cell? ⟨R, 9, none⟩ = some (.slice a11 n11 c11) := cell_of' hA 9
 have p_tp1 : w1.cell? ⟨R + 1, 9, none⟩ = some (.slice a21 n21 c21) := cell_of' hB 9
 replace hA := hid hA
 replace hB := hid hB
 refine wp_region_strip ?_
 simp only [List.append_eq, List.map_cons, List.map_nil, strip_mk, List.cons_append, List.nil_append]
 go_wp2_with fail
 rotate_left
 iterate 9
  ·go_ret
   exact ⟨by rw [hr.out]; simp [*], hx.out⟩
 clear p_n0 p_n1 p_tm0 p_tm1 p_kd0 p_kd1 p_st0 p_st1 p_lg0 p_lg1 p_rv0 p_rv1 p_bs0 p_bs1 p_ti0 p_ti1 p_au0 p_au1 p_tp0 p_tp1
 replace hA := hA.out
 replace hB := hB.out
 refine (k1.out _ hx.out).mono ?_; rintro e w2 ⟨rfl, hx2⟩
 replace hA := hx2.at hA (fun h => h)
 replace hB := hx2.at hB (fun h => h)
 replace hx := hid (hx.out.trans hx2)
 clear hx2 k1
 have p_bl0 : w2.cell? ⟨R, 10, none⟩ = some (.slice a12 n12 c12) := cell_of' hA 10
 have p_bl1 : w2.cell? ⟨R + 1, 10, none⟩ = some (.slice a22 n22 c22) := cell_of' hB 10
 replace hA := hid hA
 replace hB := hid hB
 cases b_tp with
 | false =>
  go_wp2_with fail
  go_ret
  exact ⟨by rw [hr.out]; simp [*], hx.out⟩
 | true =>
 go_wp2_with fail
 refine (k2.out _ hx.out).mono ?_; rintro e w3 ⟨rfl, hx3⟩
 replace hA := hx3.at hA.out (fun h => h)
 replace hB := hx3.at hB.out (fun h => h)
 replace hx := hid (hx.out.trans hx3)
 clear hx3 k2 p_bl0 p_bl1
 have p_til0 : w3.cell? ⟨R, 11, none⟩ = some (.int .i64 til1) := cell_of' hA 11
 have p_til1 : w3.cell? ⟨R + 1, 11, none⟩ = some (.int .i64 til2) := cell_of' hB 11
 have p_aft0 : w3.cell? ⟨R, 12, none⟩ = some (.slice a13 n13 c13) := cell_of' hA 12
 have p_aft1 : w3.cell? ⟨R + 1, 12, none⟩ = some (.slice a23 n23 c23) := cell_of' hB 12
 have p_app0 : w3.cell? ⟨R, 13, none⟩ = some (.int .i64 app1) := cell_of' hA 13
 have p_app1 : w3.cell? ⟨R + 1, 13, none⟩ = some (.int .i64 app2) := cell_of' hB 13
 have p_den0 : w3.cell? ⟨R, 14, none⟩ = some (.int .i64 den1) := cell_of' hA 14
 have p_den1 : w3.cell? ⟨R + 1, 14, none⟩ = some (.int .i64 den2) := cell_of' hB 14
 replace hA := hid hA
 replace hB := hid hB
 cases b_bl with
 | false =>
  go_wp2_with fail
  go_ret
  exact ⟨by rw [hr.out]; simp [*], hx.out⟩
 | true =>
 go_wp2_with fail
 refine (k3.out _ hx.out).mono ?_; rintro e w4 ⟨rfl, hx4⟩
 replace hA := hx4.at hA.out (fun h => h)
 replace hB := hx4.at hB.out (fun h => h)
 replace hx := hid (hx.out.trans hx4)
 clear hx4 k3 p_til0 p_til1 p_aft0 p_aft1 p_app0 p_app1 p_den0 p_den1
 have p_ed0 : w4.cell? ⟨R, 15, none⟩ = some (.int .i64 ed1) := cell_of' hA 15
 have p_ed1 : w4.cell? ⟨R + 1, 15, none⟩ = some (.int .i64 ed2) := cell_of' hB 15
 have p_bk0 : w4.cell? ⟨R, 16, none⟩ = some (.int .i64 bk1) := cell_of' hA 16
 have p_bk1 : w4.cell? ⟨R + 1, 16, none⟩ = some (.int .i64 bk2) := cell_of' hB 16
 have p_se0 : w4.cell? ⟨R, 17, none⟩ = some (.int .i64 se1) := cell_of' hA 17
 have p_se1 : w4.cell? ⟨R + 1, 17, none⟩ = some (.int .i64 se2) := cell_of' hB 17
 have p_tx0 : w4.cell? ⟨R, 18, none⟩ = some (.string ⟨tx1.toArray⟩) := cell_of' hA 18
 have p_tx1 : w4.cell? ⟨R + 1, 18, none⟩ = some (.string ⟨tx2.toArray⟩) := cell_of' hB 18
 have p_nm0 : w4.cell? ⟨R, 19, none⟩ = some (.string ⟨nm1.toArray⟩) := cell_of' hA 19
 have p_nm1 : w4.cell? ⟨R + 1, 19, none⟩ = some (.string ⟨nm2.toArray⟩) := cell_of' hB 19
 have p_pa0 : w4.cell? ⟨R, 20, none⟩ = some (.int .i64 pa1) := cell_of' hA 20
 have p_pa1 : w4.cell? ⟨R + 1, 20, none⟩ = some (.int .i64 pa2) := cell_of' hB 20
 have p_cl0 : w4.cell? ⟨R, 21, none⟩ = some (.int .i64 cl1) := cell_of' hA 21
 have p_cl1 : w4.cell? ⟨R + 1, 21, none⟩ = some (.int .i64 cl2) := cell_of' hB 21
 have p_un0 : w4.cell? ⟨R, 22, none⟩ = some (.int .i64 un1) := cell_of' hA 22
 have p_un1 : w4.cell? ⟨R + 1, 22, none⟩ = some (.int .i64 un2) := cell_of' hB 22
 replace hA := hid hA
 replace hB := hid hB
 cases b_lb with
 | false =>
  go_wp2_with fail
  go_ret
  exact ⟨by rw [hr.out]; simp [*], hx.out⟩
 | true =>
 go_wp2_with fail
 all_goals
  go_ret
  exact ⟨by rw [hr.out]; simp [*], hx.out⟩
end Go.Proofs.YtpaefpnkemkikaaGreatDoor
