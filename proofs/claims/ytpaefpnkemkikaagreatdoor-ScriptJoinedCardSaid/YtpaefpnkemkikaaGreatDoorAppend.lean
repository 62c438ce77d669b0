import Derived.Test.YtpaefpnkemkikaaGreatDoorTh2
import Derived.WalkKit
import Derived.WalkSpells
import Derived.WalkLawsBesides
import Derived.Deep.LoopGhost
import Derived.Deep.DeepCutAuto
import Derived.Deep.QuietTactic
import Derived.BigQuiet
import Derived.Deep.RegionHeld3
import Derived.Deep.DeepFit
import Derived.StillTailTactics
import Derived.Maps.OwnOps
import Derived.Maps.OwnSet
import Derived.Maps.RangeWalk
import Derived.Laws.AppendOwnNone
namespace Scr
theorem rWord_app {x : Bs} (s : Bs) (b : Bool) (h : (32 : UInt8) ∉ x) : rWord ⟨x ++ 32 :: s, true, b⟩ = (x, ⟨s, true, b⟩) := by
 simp only [rWord, if_true, cutB_app s h]
theorem rWord_last {x : Bs} (b : Bool) (h : (32 : UInt8) ∉ x) : rWord ⟨x, true, b⟩ = (x, ⟨[], false, b⟩) := by
 simp only [rWord, if_true, cutB_no h]
theorem rTail_more (x : Bs) (b : Bool) : rTail ⟨x, true, b⟩ = (x, ⟨x, false, b⟩) := rfl
theorem toNum_itoa {n : Int} (h1 : -4611686018427387903 <= n) (h2 : n <= 4611686018427387903) (r : Rd) : toNum (itoa n) r = (n, r) := by
 unfold toNum; rw [atoi_itoa (by omega) (by omega)]
theorem rNum_app {n : Int} (h1 : -4611686018427387903 <= n) (h2 : n <= 4611686018427387903) (s : Bs) (b : Bool) : rNum ⟨itoa n ++ 32 :: s, true, b⟩ = (n, ⟨s, true, b⟩) := by
 unfold rNum; rw [rWord_app s b (itoa_not n (by decide)), toNum_itoa h1 h2]
theorem rNum_last {n : Int} (h1 : -4611686018427387903 <= n) (h2 : n <= 4611686018427387903) (b : Bool) : rNum ⟨itoa n, true, b⟩ = (n, ⟨[], false, b⟩) := by
 unfold rNum; rw [rWord_last b (itoa_not n (by decide)), toNum_itoa h1 h2]
theorem numsF_itoa : ∀ (l : List Int) (r : Rd), (∀ x ∈ l, -4611686018427387903 <= x /\ x <= 4611686018427387903) -> numsF (l.map itoa) r = (l, r)
 | [], r, _ => rfl
 | x :: l, r, h => by
  simp only [List.map_cons, numsF]
  rw [toNum_itoa (h x (by simp)).1 (h x (by simp)).2]
  simp only
  rw [numsF_itoa l r (fun y hy => h y (by simp [hy]))]
theorem join_star {c : UInt8} {l : List Bs} (h : l ≠ []) (hl : ∀ x ∈ l, (42 : UInt8) ∉ x /\ x ≠ []) : join c l ≠ [42] := by
 intro e
 match l, h, hl with
 | [x], _, hl =>
  simp only [join] at e
  exact (hl x (by simp)).1 (by rw [e]; simp)
 | x :: y :: r, _, hl =>
  simp only [join] at e
  have hx := hl x (by simp)
  cases x with
  | nil => exact hx.2 rfl
  | cons d x =>
   have := congrArg List.length e
   simp at this
theorem listW_nums (l : List Int) (r : Rd) (h : ∀ x ∈ l, -4611686018427387903 <= x /\ x <= 4611686018427387903) : numsOf (listW (l.map itoa)) r = (l, r) := by
 cases l with
 | nil => rfl
 | cons x l =>
  have hne : (x :: l).map itoa ≠ [] := by simp
  have hi : ((x :: l).map itoa).isEmpty = false := rfl
  have hm : ∀ y ∈ (x :: l).map itoa, (42 : UInt8) ∉ y /\ y ≠ [] := fun y hy => by
   obtain ⟨z, -, rfl⟩ := List.mem_map.1 hy
   exact ⟨itoa_not z (by decide), itoa_ne z⟩
  unfold listW numsOf
  rw [hi]
  simp only [Bool.false_eq_true, if_false]
  rw [if_neg (join_star hne hm), parts_join hne (fun y hy => by
   obtain ⟨z, -, rfl⟩ := List.mem_map.1 hy
   exact itoa_not z (by decide)), numsF_itoa _ _ h]
theorem listW_not {l : List Bs} {k : UInt8} (h1 : k ≠ 42) (h2 : k ≠ 44) (h : ∀ x ∈ l, k ∉ x) : k ∉ listW l := by
 unfold listW
 split
 ·simpa using h1
 ·exact join_mem h2 h
theorem nums_not (l : List Int) {k : UInt8} (hk : k.toNat < 42 \/ k.toNat = 47) : k ∉ listW (l.map itoa) :=
 listW_not (by rintro rfl; simp at hk) (by rintro rfl; simp at hk) (fun x hx => by
  obtain ⟨z, -, rfl⟩ := List.mem_map.1 hx
  exact itoa_not z (by omega))
theorem nm_all {s : Bs} (h : isNm s = true) : s ≠ [] /\ s.length <= 20 /\ ∀ c ∈ s, isNc c = true := by
 unfold isNm at h
 simp only [Bool.and_eq_true, decide_eq_true_eq, List.all_eq_true] at h
 refine ⟨?_, h.2.1, h.2.2⟩
 rintro rfl
 simp at h
theorem nm_not {s : Bs} (h : isNm s = true) {k : UInt8} (hk : isNc k = false) : k ∉ s := fun hm => by
 rw [(nm_all h).2.2 k hm] at hk; cases hk
theorem tx_all {s : Bs} (h : isTx s = true) : s ≠ [] /\ s.length <= 300 /\ ∀ c ∈ s, isPr c = true := by
 unfold isTx tx300 at h
 simp only [Bool.and_eq_true, decide_eq_true_eq, List.all_eq_true] at h
 refine ⟨?_, h.2.1, h.2.2⟩
 rintro rfl
 simp at h
theorem vTpF_mem : ∀ {l : List Bs} {p : Bs}, vTpF p l = true -> ∀ x ∈ l, isNm x = true
 | [], _, _, x, h => by simp at h
 | y :: l, p, h, x, hx => by
  simp only [vTpF, Bool.and_eq_true] at h
  rcases List.mem_cons.1 hx with rfl | hx
  ·exact h.1
  ·exact vTpF_mem h.2.2 x hx
theorem vTp_mem {l : List Bs} (h : vTp l = true) : l.length <= 4 /\ ∀ x ∈ l, isNm x = true := by
 unfold vTp at h
 simp only [Bool.and_eq_true, decide_eq_true_eq] at h
 refine ⟨h.1, fun x hx => ?_⟩
 cases l with
 | nil => simp at hx
 | cons t r =>
  simp only [Bool.and_eq_true] at h
  rcases List.mem_cons.1 hx with rfl | hx
  ·exact h.2.1
  ·exact vTpF_mem h.2.2 x hx
theorem textsOf_listW {l : List Bs} (h : vTp l = true) : textsOf (listW l) = l := by
 have hm := (vTp_mem h).2
 cases hl : l with
 | nil => rfl
 | cons x l' =>
  have hne : l ≠ [] := by rw [hl]; simp
  rw [<- hl]
  have hi : l.isEmpty = false := by rw [hl]; rfl
  unfold listW textsOf
  rw [hi]
  simp only [Bool.false_eq_true, if_false]
  rw [if_neg (join_star hne (fun y hy => ⟨nm_not (hm y hy) (by decide), (nm_all (hm y hy)).1⟩)), parts_join hne (fun y hy => nm_not (hm y hy) (by decide))]
theorem topics_not {l : List Bs} (h : vTp l = true) {k : UInt8} (h1 : k ≠ 42) (h2 : k ≠ 44) (hk : isNc k = false) : k ∉ listW l := listW_not h1 h2 (fun x hx => nm_not ((vTp_mem h).2 x hx) hk)
theorem labelOf_labelW {l : Lb} (h : GoodLb l) (r : Rd) : labelOf (labelW l) r = (l, r) := by
 obtain ⟨h1, h2, h3, h4, h5⟩ := h
 obtain ⟨til, aft, app, den⟩ := l
 unfold labelW
 simp only at h1 h2 h3 h4 h5 ⊢
 split
 ·rename_i h
  obtain ⟨rfl, rfl, rfl, rfl⟩ := h
  rfl
 ·unfold labelOf
  have hne : join 47 [itoa til, listW (aft.map itoa), itoa app, itoa den] ≠ [42] := by
   simp only [join]
   intro e
   have := congrArg List.length e
   simp only [List.length_append, List.length_cons, List.length_nil] at this
   omega
  rw [if_neg hne, parts_join (by simp) (fun x hx => by
   simp only [List.mem_cons, List.not_mem_nil, or_false] at hx
   rcases hx with rfl | rfl | rfl | rfl
   ·exact itoa_not _ (by decide)
   ·exact nums_not _ (by decide)
   ·exact itoa_not _ (by decide)
   ·exact itoa_not _ (by decide))]
  simp only
  rw [toNum_itoa (by omega) (by omega)]
  simp only
  rw [listW_nums _ _ (fun x hx => by have := h5 x hx; omega)]
  simp only
  rw [toNum_itoa (by omega) (by omega)]
  simp only
  rw [toNum_itoa (by omega) (by omega)]
theorem labelW_not (l : Lb) {k : UInt8} (hk : k.toNat < 42) : k ∉ labelW l := by
 unfold labelW
 split
 ·simp only [List.mem_singleton]
  rintro rfl
  simp at hk
 ·refine join_mem (by rintro rfl; simp at hk) (fun x hx => ?_)
  simp only [List.mem_cons, List.not_mem_nil, or_false] at hx
  rcases hx with rfl | rfl | rfl | rfl
  ·exact itoa_not _ (by omega)
  ·exact nums_not _ (by omega)
  ·exact itoa_not _ (by omega)
  ·exact itoa_not _ (by omega)
theorem rLabel_app {l : Lb} (h : GoodLb l) (s : Bs) (b : Bool) : rLabel ⟨labelW l ++ 32 :: s, true, b⟩ = (l, ⟨s, true, b⟩) := by
 unfold rLabel; rw [rWord_app s b (labelW_not l (by decide)), labelOf_labelW h]
theorem rLabel_last {l : Lb} (h : GoodLb l) (b : Bool) : rLabel ⟨labelW l, true, b⟩ = (l, ⟨[], false, b⟩) := by
 unfold rLabel; rw [rWord_last b (labelW_not l (by decide)), labelOf_labelW h]
theorem rHex_app (x s : Bs) (b : Bool) : rHex ⟨hexW x ++ 32 :: s, true, b⟩ = (x, ⟨s, true, b⟩) := by
 unfold rHex; rw [rWord_app s b (hexW_not x (by decide)), hexOf_hexW]
theorem rHex_last (x : Bs) (b : Bool) : rHex ⟨hexW x, true, b⟩ = (x, ⟨[], false, b⟩) := by
 unfold rHex; rw [rWord_last b (hexW_not x (by decide)), hexOf_hexW]
theorem rNums_last {l : List Int} (h : ∀ x ∈ l, -4611686018427387903 <= x /\ x <= 4611686018427387903) (b : Bool) : rNums ⟨listW (l.map itoa), true, b⟩ = (l, ⟨[], false, b⟩) := by
 unfold rNums; rw [rWord_last b (nums_not l (by decide)), listW_nums l _ h]
theorem ls_mem {l : List Int} {m : Nat} {t : Int} (h : isLs l m t = true) : l.length <= m /\ ∀ x ∈ l, 0 <= x /\ x <= t := by
 unfold isLs at h
 simp only [Bool.and_eq_true, decide_eq_true_eq, List.all_eq_true, rng_iff] at h
 exact h
theorem ts_all {s : Bs} {a b c : Nat} (h : isTs s a b c = true) : a <= s.length /\ s.length <= b /\ ∀ x ∈ s, c <= x.toNat /\ x.toNat <= 126 := by
 unfold isTs at h
 simp only [Bool.and_eq_true, decide_eq_true_eq, List.all_eq_true] at h
 exact h
def Pr (l : Bs) : Prop := ∀ c ∈ l, 32 <= c.toNat /\ c.toNat <= 126
theorem Pr.nl {l : Bs} (h : Pr l) : (10 : UInt8) ∉ l := fun hm => by have := h 10 hm; simp at this
theorem Pr.app {a b : Bs} (h : Pr a) (k : Pr b) : Pr (a ++ b) := fun c hc => by
 rcases List.mem_append.1 hc with hc | hc
 ·exact h c hc
 ·exact k c hc
theorem Pr.join {k : UInt8} (hk : 32 <= k.toNat /\ k.toNat <= 126) : ∀ {l : List Bs}, (∀ x ∈ l, Pr x) -> Pr (join k l)
 | [], _ => fun c hc => by simp [Scr.join] at hc
 | [x], h => by simp only [Scr.join]; exact h x (by simp)
 | x :: y :: r, h => by
  simp only [Scr.join]
  refine (h x (by simp)).app (fun c hc => ?_)
  rcases List.mem_cons.1 hc with rfl | hc
  ·exact hk
  ·exact Pr.join hk (l := y :: r) (fun z hz => h z (by simp [hz])) c hc
theorem Pr.itoa (n : Int) : Pr (itoa n) := fun c hc => by
 have := itoa_num n c hc
 unfold numC isDg at this
 omega
theorem Pr.nm {s : Bs} (h : isNm s = true) : Pr s := fun c hc => by
 have := (nm_all h).2.2 c hc
 unfold isNc at this
 simp only [Bool.or_eq_true, Bool.and_eq_true, decide_eq_true_eq] at this
 omega
theorem isPr_iff {c : UInt8} : isPr c = true ↔ 32 <= c.toNat /\ c.toNat <= 126 := by unfold isPr; simp
theorem Pr.tx {s : Bs} (h : isTx s = true) : Pr s := fun c hc => isPr_iff.1 ((tx_all h).2.2 c hc)
theorem Pr.hexW (s : Bs) : Pr (hexW s) := fun c hc => by
 by_cases h : s = []
 ·subst h
  have : c = 42 := by simpa [Scr.hexW] using hc
  subst this; decide
 ·rw [(hexW_star h).1] at hc
  have := hexB_mem s c hc
  unfold hexC at this
  omega
theorem Pr.listW {l : List Bs} (h : ∀ x ∈ l, Pr x) : Pr (listW l) := by
 unfold Scr.listW
 split
 ·intro c hc
  simp only [List.mem_singleton] at hc
  subst hc; decide
 ·exact Pr.join (by decide) h
theorem Pr.nums (l : List Int) : Pr (Scr.listW (l.map Scr.itoa)) := Pr.listW (fun x hx => by
 obtain ⟨z, -, rfl⟩ := List.mem_map.1 hx
 exact Pr.itoa z)
theorem Pr.labelW (l : Lb) : Pr (labelW l) := by
 unfold Scr.labelW
 split
 ·intro c hc
  simp only [List.mem_singleton] at hc
  subst hc; decide
 ·refine Pr.join (by decide) (fun x hx => ?_)
  simp only [List.mem_cons, List.not_mem_nil, or_false] at hx
  rcases hx with rfl | rfl | rfl | rfl
  ·exact Pr.itoa _
  ·exact Pr.nums _
  ·exact Pr.itoa _
  ·exact Pr.itoa _
theorem Pr.ts {s : Bs} {a b c : Nat} (h : isTs s a b c = true) (hc : 32 <= c) : Pr s := fun x hx => by
 have := (ts_all h).2.2 x hx
 omega
def ReadOk (a : Ac) : Prop := ∃ j f, findF a.kd a.fc.kd 0 forms = some (j, f) /\ findW f.wd 0 forms = some (j, f) /\ (32 : UInt8) ∉ f.wd /\ f.kd = a.kd /\ f.fk = a.fc.kd /\ f.wd ≠ [] /\ (∀ c ∈ f.wd, isNc c = true) /\ (∀ y ∈ writeF j a, Pr y) ∧
 ∃ x r, readF j (rWord ⟨line a, true, false⟩).2 = (x, r) /\ r.bad = false /\ r.more = false /\ ({ x with kd := a.kd, fc := { x.fc with kd := a.fc.kd } } : Ac) = a
theorem read_f1 {f : Fc} (hk : f.kd = 1) (h : vFc f = true) (hn : f.n = 0) (ht : f.tm = 0) : ReadOk { Ac.zero with kd := 1, fc := f } := by
 obtain ⟨n, tm, kd, st, lg, rv, bs, ti, au, tp, bl, lb, ed, bk, se, tx, nm, pa, cl, un⟩ := f
 simp only at hk hn ht
 subst hk
 subst hn
 subst ht
 unfold vFc usedF at h
 simp (config := { decide := true }) only [Bool.and_eq_true, rng_iff, decide_eq_true_eq, if_true, if_false, Fc.mk.injEq, Fc.zero, true_and] at h
 obtain ⟨hv, hz⟩ := h
 obtain ⟨hst, hlg, hrv, hbs, hti, hau, htp, hbl, hlb⟩ := hv
 obtain ⟨rfl, rfl, rfl, rfl, rfl, rfl, rfl, rfl⟩ := hz
 have hfind : findF 1 1 0 forms = some (0, ⟨1, 1, fRevise⟩) := by rfl
 refine ⟨0, ⟨1, 1, fRevise⟩, rfl, by rfl, by decide, rfl, rfl, by decide, by decide, ?_⟩
 refine ⟨fun y hy => ?_, ?_⟩
 ·simp only [writeF, List.mem_cons, List.not_mem_nil, or_false] at hy
  rcases hy with rfl | rfl | rfl | rfl | rfl | rfl | rfl | rfl | rfl
  ·exact Pr.itoa _
  ·exact Pr.nm hlg
  ·exact Pr.itoa _
  ·exact Pr.itoa _
  ·exact Pr.nm hau
  ·exact Pr.listW (fun x hx => Pr.nm ((vTp_mem htp).2 x hx))
  ·exact Pr.labelW _
  ·exact Pr.hexW _
  ·exact Pr.tx hti
 unfold line
 rw [hfind]
 simp only [writeF, join]
 rw [rWord_app _ _ (by decide)]
 simp only [readF]
 rw [rNum_app (by omega) (by omega)]
 try simp only
 rw [rWord_app _ _ (nm_not hlg (by decide))]
 try simp only
 rw [rNum_app (by omega) (by omega)]
 try simp only
 rw [rNum_app (by omega) (by omega)]
 try simp only
 rw [rWord_app _ _ (nm_not hau (by decide))]
 try simp only
 rw [rWord_app _ _ (topics_not htp (by decide) (by decide) (by decide))]
 try simp only
 rw [rLabel_app (vLb_good hlb)]
 try simp only
 rw [rHex_app]
 try simp only
 rw [decBs_encBs hbl]
 try simp only
 rw [rTail_more]
 try simp only
 rw [textsOf_listW htp]
 try simp only
 exact ⟨_, _, rfl, rfl, rfl, rfl⟩
theorem read_f2 {f : Fc} (hk : f.kd = 2) (h : vFc f = true) (hn : f.n = 0) (ht : f.tm = 0) : ReadOk { Ac.zero with kd := 1, fc := f } := by
 obtain ⟨n, tm, kd, st, lg, rv, bs, ti, au, tp, bl, lb, ed, bk, se, tx, nm, pa, cl, un⟩ := f
 simp only at hk hn ht
 subst hk
 subst hn
 subst ht
 unfold vFc usedF at h
 simp (config := { decide := true }) only [Bool.and_eq_true, rng_iff, decide_eq_true_eq, if_true, if_false, Fc.mk.injEq, Fc.zero, true_and] at h
 obtain ⟨hv, hz⟩ := h
 obtain ⟨hst, hed⟩ := hv
 obtain ⟨rfl, rfl, rfl, rfl, rfl, rfl, rfl, rfl, rfl, rfl, rfl, rfl, rfl, rfl, rfl⟩ := hz
 have hfind : findF 1 2 0 forms = some (1, ⟨1, 2, fApprove⟩) := by rfl
 refine ⟨1, ⟨1, 2, fApprove⟩, rfl, by rfl, by decide, rfl, rfl, by decide, by decide, ?_⟩
 refine ⟨fun y hy => ?_, ?_⟩
 ·simp only [writeF, List.mem_cons, List.not_mem_nil, or_false] at hy
  rcases hy with rfl | rfl
  ·exact Pr.itoa _
  ·exact Pr.itoa _
 unfold line
 rw [hfind]
 simp only [writeF, join]
 rw [rWord_app _ _ (by decide)]
 simp only [readF]
 rw [rNum_app (by omega) (by omega)]
 try simp only
 rw [rNum_last (by omega) (by omega)]
 try simp only
 exact ⟨_, _, rfl, rfl, rfl, rfl⟩
theorem read_f3 {f : Fc} (hk : f.kd = 3) (h : vFc f = true) (hn : f.n = 0) (ht : f.tm = 0) : ReadOk { Ac.zero with kd := 1, fc := f } := by
 obtain ⟨n, tm, kd, st, lg, rv, bs, ti, au, tp, bl, lb, ed, bk, se, tx, nm, pa, cl, un⟩ := f
 simp only at hk hn ht
 subst hk
 subst hn
 subst ht
 unfold vFc usedF at h
 simp (config := { decide := true }) only [Bool.and_eq_true, rng_iff, decide_eq_true_eq, if_true, if_false, Fc.mk.injEq, Fc.zero, true_and] at h
 obtain ⟨hv, hz⟩ := h
 obtain ⟨hst, hlb⟩ := hv
 obtain ⟨rfl, rfl, rfl, rfl, rfl, rfl, rfl, rfl, rfl, rfl, rfl, rfl, rfl, rfl, rfl⟩ := hz
 have hfind : findF 1 3 0 forms = some (2, ⟨1, 3, fPublish⟩) := by rfl
 refine ⟨2, ⟨1, 3, fPublish⟩, rfl, by rfl, by decide, rfl, rfl, by decide, by decide, ?_⟩
 refine ⟨fun y hy => ?_, ?_⟩
 ·simp only [writeF, List.mem_cons, List.not_mem_nil, or_false] at hy
  rcases hy with rfl | rfl
  ·exact Pr.itoa _
  ·exact Pr.labelW _
 unfold line
 rw [hfind]
 simp only [writeF, join]
 rw [rWord_app _ _ (by decide)]
 simp only [readF]
 rw [rNum_app (by omega) (by omega)]
 try simp only
 rw [rLabel_last (vLb_good hlb)]
 try simp only
 exact ⟨_, _, rfl, rfl, rfl, rfl⟩
theorem read_f4 {f : Fc} (hk : f.kd = 4) (h : vFc f = true) (hn : f.n = 0) (ht : f.tm = 0) : ReadOk { Ac.zero with kd := 1, fc := f } := by
 obtain ⟨n, tm, kd, st, lg, rv, bs, ti, au, tp, bl, lb, ed, bk, se, tx, nm, pa, cl, un⟩ := f
 simp only at hk hn ht
 subst hk
 subst hn
 subst ht
 unfold vFc usedF at h
 simp (config := { decide := true }) only [Bool.and_eq_true, rng_iff, decide_eq_true_eq, if_true, if_false, Fc.mk.injEq, Fc.zero, true_and] at h
 obtain ⟨hv, hz⟩ := h
 obtain ⟨hst, hlg, hbk, hse, htx⟩ := hv
 obtain ⟨rfl, rfl, rfl, rfl, rfl, rfl, rfl, rfl, rfl, rfl, rfl, rfl⟩ := hz
 have hfind : findF 1 4 0 forms = some (3, ⟨1, 4, fCorrect⟩) := by rfl
 refine ⟨3, ⟨1, 4, fCorrect⟩, rfl, by rfl, by decide, rfl, rfl, by decide, by decide, ?_⟩
 refine ⟨fun y hy => ?_, ?_⟩
 ·simp only [writeF, List.mem_cons, List.not_mem_nil, or_false] at hy
  rcases hy with rfl | rfl | rfl | rfl | rfl
  ·exact Pr.itoa _
  ·exact Pr.nm hlg
  ·exact Pr.itoa _
  ·exact Pr.itoa _
  ·exact Pr.tx htx
 unfold line
 rw [hfind]
 simp only [writeF, join]
 rw [rWord_app _ _ (by decide)]
 simp only [readF]
 rw [rNum_app (by omega) (by omega)]
 try simp only
 rw [rWord_app _ _ (nm_not hlg (by decide))]
 try simp only
 rw [rNum_app (by omega) (by omega)]
 try simp only
 rw [rNum_app (by omega) (by omega)]
 try simp only
 rw [rTail_more]
 try simp only
 exact ⟨_, _, rfl, rfl, rfl, rfl⟩
theorem read_f5 {f : Fc} (hk : f.kd = 5) (h : vFc f = true) (hn : f.n = 0) (ht : f.tm = 0) : ReadOk { Ac.zero with kd := 1, fc := f } := by
 obtain ⟨n, tm, kd, st, lg, rv, bs, ti, au, tp, bl, lb, ed, bk, se, tx, nm, pa, cl, un⟩ := f
 simp only at hk hn ht
 subst hk
 subst hn
 subst ht
 unfold vFc usedF at h
 simp (config := { decide := true }) only [Bool.and_eq_true, rng_iff, decide_eq_true_eq, if_true, if_false, Fc.mk.injEq, Fc.zero, true_and] at h
 obtain ⟨hv, hz⟩ := h
 obtain ⟨hst, htx⟩ := hv
 obtain ⟨rfl, rfl, rfl, rfl, rfl, rfl, rfl, rfl, rfl, rfl, rfl, rfl, rfl, rfl, rfl⟩ := hz
 have hfind : findF 1 5 0 forms = some (4, ⟨1, 5, fRetract⟩) := by rfl
 refine ⟨4, ⟨1, 5, fRetract⟩, rfl, by rfl, by decide, rfl, rfl, by decide, by decide, ?_⟩
 refine ⟨fun y hy => ?_, ?_⟩
 ·simp only [writeF, List.mem_cons, List.not_mem_nil, or_false] at hy
  rcases hy with rfl | rfl
  ·exact Pr.itoa _
  ·exact Pr.tx htx
 unfold line
 rw [hfind]
 simp only [writeF, join]
 rw [rWord_app _ _ (by decide)]
 simp only [readF]
 rw [rNum_app (by omega) (by omega)]
 try simp only
 rw [rTail_more]
 try simp only
 exact ⟨_, _, rfl, rfl, rfl, rfl⟩
theorem read_f6 {f : Fc} (hk : f.kd = 6) (h : vFc f = true) (hn : f.n = 0) (ht : f.tm = 0) : ReadOk { Ac.zero with kd := 1, fc := f } := by
 obtain ⟨n, tm, kd, st, lg, rv, bs, ti, au, tp, bl, lb, ed, bk, se, tx, nm, pa, cl, un⟩ := f
 simp only at hk hn ht
 subst hk
 subst hn
 subst ht
 unfold vFc usedF at h
 simp (config := { decide := true }) only [Bool.and_eq_true, rng_iff, decide_eq_true_eq, if_true, if_false, Fc.mk.injEq, Fc.zero, true_and] at h
 obtain ⟨hv, hz⟩ := h
 have hst := hv
 obtain ⟨rfl, rfl, rfl, rfl, rfl, rfl, rfl, rfl, rfl, rfl, rfl, rfl, rfl, rfl, rfl, rfl⟩ := hz
 have hfind : findF 1 6 0 forms = some (5, ⟨1, 6, fTakedown⟩) := by rfl
 refine ⟨5, ⟨1, 6, fTakedown⟩, rfl, by rfl, by decide, rfl, rfl, by decide, by decide, ?_⟩
 refine ⟨fun y hy => ?_, ?_⟩
 ·simp only [writeF, List.mem_cons, List.not_mem_nil, or_false] at hy
  subst hy; exact Pr.itoa _
 unfold line
 rw [hfind]
 simp only [writeF, join]
 rw [rWord_app _ _ (by decide)]
 simp only [readF]
 rw [rNum_last (by omega) (by omega)]
 try simp only
 exact ⟨_, _, rfl, rfl, rfl, rfl⟩
theorem read_f7 {f : Fc} (hk : f.kd = 7) (h : vFc f = true) (hn : f.n = 0) (ht : f.tm = 0) : ReadOk { Ac.zero with kd := 1, fc := f } := by
 obtain ⟨n, tm, kd, st, lg, rv, bs, ti, au, tp, bl, lb, ed, bk, se, tx, nm, pa, cl, un⟩ := f
 simp only at hk hn ht
 subst hk
 subst hn
 subst ht
 unfold vFc usedF at h
 simp (config := { decide := true }) only [Bool.and_eq_true, decide_eq_true_eq, if_true, if_false, Fc.mk.injEq, Fc.zero, true_and] at h
 obtain ⟨hv, hz⟩ := h
 obtain ⟨hnm, hso⟩ := hv
 obtain ⟨rfl, rfl, rfl, rfl, rfl, rfl, rfl, rfl, rfl, rfl, rfl, rfl, rfl, rfl, rfl⟩ := hz
 have hfind : findF 1 7 0 forms = some (6, ⟨1, 7, fTemplate⟩) := by rfl
 refine ⟨6, ⟨1, 7, fTemplate⟩, rfl, by rfl, by decide, rfl, rfl, by decide, by decide, ?_⟩
 refine ⟨fun y hy => ?_, ?_⟩
 ·simp only [writeF, List.mem_cons, List.not_mem_nil, or_false] at hy
  rcases hy with rfl | rfl
  ·exact Pr.nm hnm
  ·exact Pr.hexW _
 unfold line
 rw [hfind]
 simp only [writeF, join]
 rw [rWord_app _ _ (by decide)]
 simp only [readF]
 rw [rWord_app _ _ (nm_not hnm (by decide))]
 try simp only
 rw [rHex_last]
 try simp only
 exact ⟨_, _, rfl, rfl, rfl, rfl⟩
theorem read_f8 {f : Fc} (hk : f.kd = 8) (h : vFc f = true) (hn : f.n = 0) (ht : f.tm = 0) : ReadOk { Ac.zero with kd := 1, fc := f } := by
 obtain ⟨n, tm, kd, st, lg, rv, bs, ti, au, tp, bl, lb, ed, bk, se, tx, nm, pa, cl, un⟩ := f
 simp only at hk hn ht
 subst hk
 subst hn
 subst ht
 unfold vFc usedF at h
 simp (config := { decide := true }) only [Bool.and_eq_true, rng_iff, decide_eq_true_eq, if_true, if_false, Fc.mk.injEq, Fc.zero, true_and, and_true] at h
 obtain ⟨hv, hz⟩ := h
 obtain ⟨⟨hpa, hun⟩, hcl⟩ := hv
 obtain ⟨rfl, rfl, rfl, rfl, rfl, rfl, rfl, rfl, rfl, rfl, rfl, rfl, rfl, rfl⟩ := hz
 have hfind : findF 1 8 0 forms = some (7, ⟨1, 8, fPartner⟩) := by rfl
 refine ⟨7, ⟨1, 8, fPartner⟩, rfl, by rfl, by decide, rfl, rfl, by decide, by decide, ?_⟩
 refine ⟨fun y hy => ?_, ?_⟩
 ·simp only [writeF, List.mem_cons, List.not_mem_nil, or_false] at hy
  rcases hy with rfl | rfl | rfl
  ·exact Pr.itoa _
  ·exact Pr.itoa _
  ·exact Pr.itoa _
 unfold line
 rw [hfind]
 simp only [writeF, join]
 rw [rWord_app _ _ (by decide)]
 simp only [readF]
 rw [rNum_app (by omega) (by omega)]
 try simp only
 rw [rNum_app (by omega) (by omega)]
 try simp only
 rw [rNum_last (by omega) (by omega)]
 try simp only
 exact ⟨_, _, rfl, rfl, rfl, rfl⟩
theorem read_f9 {f : Fc} (hk : f.kd = 9) (h : vFc f = true) (hn : f.n = 0) (ht : f.tm = 0) : ReadOk { Ac.zero with kd := 1, fc := f } := by
 obtain ⟨n, tm, kd, st, lg, rv, bs, ti, au, tp, bl, lb, ed, bk, se, tx, nm, pa, cl, un⟩ := f
 simp only at hk hn ht
 subst hk
 subst hn
 subst ht
 unfold vFc usedF at h
 simp (config := { decide := true }) only [Bool.and_eq_true, rng_iff, decide_eq_true_eq, if_true, if_false, Fc.mk.injEq, Fc.zero, true_and, and_true] at h
 obtain ⟨hv, hz⟩ := h
 obtain ⟨hpa, hun⟩ := hv
 obtain ⟨rfl, rfl, rfl, rfl, rfl, rfl, rfl, rfl, rfl, rfl, rfl, rfl, rfl, rfl, rfl⟩ := hz
 have hfind : findF 1 9 0 forms = some (8, ⟨1, 9, fLease⟩) := by rfl
 refine ⟨8, ⟨1, 9, fLease⟩, rfl, by rfl, by decide, rfl, rfl, by decide, by decide, ?_⟩
 refine ⟨fun y hy => ?_, ?_⟩
 ·simp only [writeF, List.mem_cons, List.not_mem_nil, or_false] at hy
  rcases hy with rfl | rfl
  ·exact Pr.itoa _
  ·exact Pr.itoa _
 unfold line
 rw [hfind]
 simp only [writeF, join]
 rw [rWord_app _ _ (by decide)]
 simp only [readF]
 rw [rNum_app (by omega) (by omega)]
 try simp only
 rw [rNum_last (by omega) (by omega)]
 try simp only
 exact ⟨_, _, rfl, rfl, rfl, rfl⟩
theorem read_tick {n : Int} (h : 1 <= n /\ n <= 500) : ReadOk { Ac.zero with kd := 2, n := n } := by
 have hfind : findF 2 0 0 forms = some (9, ⟨2, 0, fTick⟩) := by rfl
 refine ⟨9, ⟨2, 0, fTick⟩, rfl, by rfl, by decide, rfl, rfl, by decide, by decide, ?_⟩
 refine ⟨fun y hy => ?_, ?_⟩
 ·simp only [writeF, List.mem_cons, List.not_mem_nil, or_false] at hy
  subst hy; exact Pr.itoa _
 unfold line
 simp only [Ac.zero, Fc.zero]
 rw [hfind]
 simp only [writeF, join]
 rw [rWord_app _ _ (by decide)]
 simp only [readF]
 rw [rNum_last (by omega) (by omega)]
 try simp only
 exact ⟨_, _, rfl, rfl, rfl, rfl⟩
theorem read_clock {n : Int} (h : 0 <= n /\ n <= 1000000000) : ReadOk { Ac.zero with kd := 3, n := n } := by
 have hfind : findF 3 0 0 forms = some (10, ⟨3, 0, fClock⟩) := by rfl
 refine ⟨10, ⟨3, 0, fClock⟩, rfl, by rfl, by decide, rfl, rfl, by decide, by decide, ?_⟩
 refine ⟨fun y hy => ?_, ?_⟩
 ·simp only [writeF, List.mem_cons, List.not_mem_nil, or_false] at hy
  subst hy; exact Pr.itoa _
 unfold line
 simp only [Ac.zero, Fc.zero]
 rw [hfind]
 simp only [writeF, join]
 rw [rWord_app _ _ (by decide)]
 simp only [readF]
 rw [rNum_last (by omega) (by omega)]
 try simp only
 exact ⟨_, _, rfl, rfl, rfl, rfl⟩
theorem read_cut {n : Int} (h : 0 <= n /\ n <= 10000) : ReadOk { Ac.zero with kd := 10, n := n } := by
 have hfind : findF 10 0 0 forms = some (11, ⟨10, 0, fCut⟩) := by rfl
 refine ⟨11, ⟨10, 0, fCut⟩, rfl, by rfl, by decide, rfl, rfl, by decide, by decide, ?_⟩
 refine ⟨fun y hy => ?_, ?_⟩
 ·simp only [writeF, List.mem_cons, List.not_mem_nil, or_false] at hy
  subst hy; exact Pr.itoa _
 unfold line
 simp only [Ac.zero, Fc.zero]
 rw [hfind]
 simp only [writeF, join]
 rw [rWord_app _ _ (by decide)]
 simp only [readF]
 rw [rNum_last (by omega) (by omega)]
 try simp only
 exact ⟨_, _, rfl, rfl, rfl, rfl⟩
theorem read_fates {l : List Int} (h : isLs l 64 24 = true) : ReadOk { Ac.zero with kd := 4, fa := l } := by
 have hm := (ls_mem h).2
 have hfind : findF 4 0 0 forms = some (12, ⟨4, 0, fFates⟩) := by rfl
 refine ⟨12, ⟨4, 0, fFates⟩, rfl, by rfl, by decide, rfl, rfl, by decide, by decide, ?_⟩
 refine ⟨fun y hy => ?_, ?_⟩
 ·simp only [writeF, List.mem_cons, List.not_mem_nil, or_false] at hy
  subst hy; exact Pr.nums _
 unfold line
 simp only [Ac.zero, Fc.zero]
 rw [hfind]
 simp only [writeF, join]
 rw [rWord_app _ _ (by decide)]
 simp only [readF]
 rw [rNums_last (fun x hx => by have := hm x hx; omega)]
 try simp only
 exact ⟨_, _, rfl, rfl, rfl, rfl⟩
theorem read_crash {n : Int} {l : List Int} (hn : -1 <= n /\ n <= 4194304) (h : isLs l 64 1000 = true) : ReadOk { Ac.zero with kd := 5, n := n, ke := l } := by
 have hm := (ls_mem h).2
 have hfind : findF 5 0 0 forms = some (13, ⟨5, 0, fCrash⟩) := by rfl
 refine ⟨13, ⟨5, 0, fCrash⟩, rfl, by rfl, by decide, rfl, rfl, by decide, by decide, ?_⟩
 refine ⟨fun y hy => ?_, ?_⟩
 ·simp only [writeF, List.mem_cons, List.not_mem_nil, or_false] at hy
  rcases hy with rfl | rfl
  ·exact Pr.itoa _
  ·exact Pr.nums _
 unfold line
 simp only [Ac.zero, Fc.zero]
 rw [hfind]
 simp only [writeF, join]
 rw [rWord_app _ _ (by decide)]
 simp only [readF]
 rw [rNum_app (by omega) (by omega)]
 try simp only
 rw [rNums_last (fun x hx => by have := hm x hx; omega)]
 try simp only
 exact ⟨_, _, rfl, rfl, rfl, rfl⟩
theorem read_check  : ReadOk { Ac.zero with kd := 9 } := by
 have hfind : findF 9 0 0 forms = some (14, ⟨9, 0, fCheck⟩) := by rfl
 refine ⟨14, ⟨9, 0, fCheck⟩, rfl, by rfl, by decide, rfl, rfl, by decide, by decide, ?_⟩
 refine ⟨fun y hy => ?_, ?_⟩
 ·simp only [writeF, List.not_mem_nil] at hy
 unfold line
 simp only [Ac.zero, Fc.zero]
 rw [hfind]
 simp only [writeF, join]
 rw [rWord_last _ (by decide)]
 simp only [readF]
 exact ⟨_, _, rfl, rfl, rfl, rfl⟩
theorem read_get {n : Int} {s : Bs} (hn : 0 <= n /\ n <= 3) (h : isTs s 1 100 33 = true) : ReadOk { Ac.zero with kd := 6, cl := n, tx := s } := by
 have hm := (ts_all h).2.2
 have hfind : findF 6 0 0 forms = some (15, ⟨6, 0, fGet⟩) := by rfl
 refine ⟨15, ⟨6, 0, fGet⟩, rfl, by rfl, by decide, rfl, rfl, by decide, by decide, ?_⟩
 refine ⟨fun y hy => ?_, ?_⟩
 ·simp only [writeF, List.mem_cons, List.not_mem_nil, or_false] at hy
  rcases hy with rfl | rfl
  ·exact Pr.itoa _
  ·exact Pr.ts h (by decide)
 unfold line
 simp only [Ac.zero, Fc.zero]
 rw [hfind]
 simp only [writeF, join]
 rw [rWord_app _ _ (by decide)]
 simp only [readF]
 rw [rNum_app (by omega) (by omega)]
 try simp only
 rw [rWord_last _ (fun h => by have := hm _ h; simp at this)]
 try simp only
 exact ⟨_, _, rfl, rfl, rfl, rfl⟩
theorem read_search {n m : Int} {s : Bs} (hn : 0 <= n /\ n <= 3) (hm : 0 <= m /\ m <= 64) (h : isTs s 0 300 32 = true) : ReadOk { Ac.zero with kd := 7, cl := n, n := m, tx := s } := by
 have hfind : findF 7 0 0 forms = some (16, ⟨7, 0, fSearch⟩) := by rfl
 refine ⟨16, ⟨7, 0, fSearch⟩, rfl, by rfl, by decide, rfl, rfl, by decide, by decide, ?_⟩
 refine ⟨fun y hy => ?_, ?_⟩
 ·simp only [writeF, List.mem_cons, List.not_mem_nil, or_false] at hy
  rcases hy with rfl | rfl | rfl
  ·exact Pr.itoa _
  ·exact Pr.itoa _
  ·exact Pr.ts h (by decide)
 unfold line
 simp only [Ac.zero, Fc.zero]
 rw [hfind]
 simp only [writeF, join]
 rw [rWord_app _ _ (by decide)]
 simp only [readF]
 rw [rNum_app (by omega) (by omega)]
 try simp only
 rw [rNum_app (by omega) (by omega)]
 try simp only
 rw [rTail_more]
 try simp only
 exact ⟨_, _, rfl, rfl, rfl, rfl⟩
theorem read_forge {m : Ms} (h : vMs m = true) : ReadOk { Ac.zero with kd := 8, ms := m } := by
 have hfind : findF 8 0 0 forms = some (17, ⟨8, 0, fForge⟩) := by rfl
 refine ⟨17, ⟨8, 0, fForge⟩, rfl, by rfl, by decide, rfl, rfl, by decide, by decide, ?_⟩
 refine ⟨fun y hy => ?_, ?_⟩
 ·simp only [writeF, List.mem_cons, List.not_mem_nil, or_false] at hy
  subst hy; exact Pr.hexW _
 unfold line
 simp only [Ac.zero, Fc.zero]
 rw [hfind]
 simp only [writeF, join]
 rw [rWord_app _ _ (by decide)]
 simp only [readF]
 rw [rHex_last]
 try simp only
 rw [decM_encM h]
 try simp only
 exact ⟨_, _, rfl, rfl, rfl, rfl⟩
theorem read_ok {a : Ac} (h : vAc a = true) : ReadOk a := by
 unfold vAc at h
 simp only [Bool.and_eq_true, decide_eq_true_eq] at h
 obtain ⟨h, he⟩ := h
 unfold fieldsA at h
 unfold onlyA at he
 split at h
 ·rename_i hk
  simp only [hk, if_true] at he
  rw [he]
  simp only [Bool.and_eq_true, decide_eq_true_eq, Bool.not_eq_true', decide_eq_false_iff_not] at h
  obtain ⟨h1, h2, h3, h4⟩ := h
  have h5 := h4
  unfold vFc usedF at h5
  simp only [Bool.and_eq_true] at h5
  have h6 := h5.2.2.1
  repeat' split at h6
  all_goals rename_i hq
  ·exact read_f1 hq h4 h1 h2
  ·exact read_f2 hq h4 h1 h2
  ·exact read_f3 hq h4 h1 h2
  ·exact read_f4 hq h4 h1 h2
  ·exact read_f5 hq h4 h1 h2
  ·exact read_f6 (hq.resolve_right h3) h4 h1 h2
  ·exact read_f7 hq h4 h1 h2
  ·exact read_f8 hq h4 h1 h2
  ·exact read_f9 hq h4 h1 h2
  ·cases h6
 repeat' split at h
 all_goals rename_i hk
 ·simp (config := { decide := true }) only [hk, if_true, if_false] at he
  rw [he]
  exact read_tick (rng_iff.1 h)
 ·simp (config := { decide := true }) only [hk, if_true, if_false] at he
  rw [he]
  exact read_clock (rng_iff.1 h)
 ·simp (config := { decide := true }) only [hk, if_true, if_false] at he
  rw [he]
  exact read_fates h
 ·simp (config := { decide := true }) only [hk, if_true, if_false] at he
  rw [he]
  rw [Bool.and_eq_true] at h
  exact read_crash (rng_iff.1 h.1) h.2
 ·simp (config := { decide := true }) only [hk, if_true, if_false] at he
  rw [he]
  rw [Bool.and_eq_true] at h
  exact read_get (rng_iff.1 h.1) h.2
 ·simp (config := { decide := true }) only [hk, if_true, if_false] at he
  rw [he]
  simp only [Bool.and_eq_true] at h
  exact read_search (rng_iff.1 h.1) (rng_iff.1 h.2.1) h.2.2
 ·simp (config := { decide := true }) only [hk, if_true, if_false] at he
  rw [he]
  exact read_forge h
 ·simp (config := { decide := true }) only [hk, if_false] at he
  rw [he]
  exact read_check
 ·simp (config := { decide := true }) only [hk, if_true, if_false] at he
  rw [he]
  exact read_cut (rng_iff.1 h)
 ·cases h
theorem ofLine_line {a : Ac} (h : vAc a = true) : ofLine (line a) = some a := by
 obtain ⟨j, f, h1, h2, h3, h4, h5, h6, h7, -, x, r, h8, h9, h10, h11⟩ := read_ok h
 have hw : (rWord ⟨line a, true, false⟩).1 = f.wd := by
  unfold line
  rw [h1]
  simp only
  cases hl : writeF j a with
  | nil => simp only [join]; rw [rWord_last _ h3]
  | cons y l => simp only [join]; rw [rWord_app _ _ h3]
 unfold ofLine
 simp only [hw, h2, h8, h9, h10, h4, h5, h11, h]
 simp
theorem ofLine_some {t : Bs} {a : Ac} (h : ofLine t = some a) : vAc a = true /\ line a = t := by
 unfold ofLine at h
 simp only at h
 split at h
 ·cases h
 ·split at h
  ·cases h
  ·rename_i hn
   injection h with h
   rw [h] at hn
   simp at hn
   exact hn.2.2
theorem line_inj {a b : Ac} (ha : vAc a = true) (hb : vAc b = true) (h : line a = line b) : a = b := by
 have := ofLine_line ha
 rw [h, ofLine_line hb] at this
 injection this with this
 exact this.symm
end Scr
namespace Cdk
open Go Go.RowKit
theorem hid {p : Prop} (h : p) : Hid p := h
structure Mod (S : Nat -> Prop) (w w' : World) : Prop where
 os : w'.os = w.os
 tape : w'.tape = w.tape
 output : w'.output = w.output
 size : w.heap.size <= w'.heap.size
 block : ∀ k, k < w.heap.size -> ¬ S k -> w'.heap[k]? = w.heap[k]?
abbrev Ext (w w' : World) : Prop := Mod (fun _ => False) w w'
variable {S T : Nat -> Prop} {w w' w'' : World}
theorem Mod.refl (S : Nat -> Prop) (w : World) : Mod S w w := ⟨rfl, rfl, rfl, Nat.le_refl _, fun _ _ _ => rfl⟩
theorem Mod.trans (h : Mod S w w') (k : Mod S w' w'') : Mod S w w'' :=
 ⟨k.os.trans h.os, k.tape.trans h.tape, k.output.trans h.output, Nat.le_trans h.size k.size, fun i hi hs => (k.block i (Nat.lt_of_lt_of_le hi h.size) hs).trans (h.block i hi hs)⟩
theorem Mod.mono (h : Mod S w w') (hST : ∀ k, S k -> T k) : Mod T w w' :=
 ⟨h.os, h.tape, h.output, h.size, fun k hk hs => h.block k hk (fun hS => hs (hST k hS))⟩
theorem Mod.mono' (h : Mod S w w') (hST : ∀ k, k < w.heap.size -> S k -> T k) : Mod T w w' :=
 ⟨h.os, h.tape, h.output, h.size, fun k hk hs => h.block k hk (fun hS => hs (hST k hk hS))⟩
theorem Mod.then (h : Mod S w w') (k : Mod T w' w'') (hT : ∀ k, k < w.heap.size -> T k -> S k) : Mod S w w'' :=
 ⟨k.os.trans h.os, k.tape.trans h.tape, k.output.trans h.output, Nat.le_trans h.size k.size,
  fun i hi hs => (k.block i (Nat.lt_of_lt_of_le hi h.size) (fun t => hs (hT i hi t))).trans (h.block i hi hs)⟩
theorem Mod.drew (h : Mod S w w') : Mod S w w'.drew := ⟨h.os, h.tape, h.output, h.size, h.block⟩
theorem Mod.drew0 (S : Nat -> Prop) (w : World) : Mod S w w.drew := (Mod.refl S w).drew
theorem Mod.ofDrewN (h : Mod S w w') (n : Nat) : Mod S w (w'.drewN n) := ⟨h.os, h.tape, h.output, h.size, h.block⟩
theorem Mod.alloc (h : Mod S w w') (o : Obj) : Mod S w (w'.alloc o) :=
 ⟨h.os, h.tape, h.output, Nat.le_trans h.size (by simp), fun k hk hs => by
  rw [Below.heap_alloc w' o k (Nat.lt_of_lt_of_le hk h.size)]; exact h.block k hk hs⟩
theorem Mod.setCell (h : Mod S w w') {a : Addr} (ha : a.block < w.heap.size -> S a.block) (u : Value) : Mod S w (w'.setCell a u) :=
 ⟨h.os, h.tape, h.output, by simpa [World.setCell] using h.size, fun k hk hs => by
  rw [Below.heap_setCell w' a u k (fun e => hs (e ▸ ha (e ▸ hk)))]; exact h.block k hk hs⟩
theorem Mod.ofGrown {row : Option Nat} (hg : w.grownBy w' row) (hr : ∀ k, row = some k -> S k) : Mod S w w' :=
 ⟨hg.os, hg.tape, hg.output, hg.size, fun k hk hs => hg.block k hk (fun e => hs (hr k e.symm))⟩
theorem Mod.ofBelow (h : Below w.heap.size w w') : Mod S w w' := ⟨h.os, h.tape, h.output, h.size, fun k hk _ => h.block k hk⟩
theorem Mod.below (h : Mod S w w') {B : Nat} (hB : B <= w.heap.size) (hS : ∀ k, S k -> B <= k) : Below B w w' :=
 ⟨h.os, h.tape, h.output, h.size, fun k hk => h.block k (Nat.lt_of_lt_of_le hk hB) (fun hs => by have := hS k hs; omega)⟩
theorem Mod.at {o : Obj} (h : Mod S w w') {k : Nat} (hk : w.heap[k]? = some o) (hs : ¬ S k) : w'.heap[k]? = some o := by
 rw [h.block k (Array.getElem?_eq_some_iff.1 hk).1 hs]; exact hk
theorem Mod.cell (h : Mod S w w') {a : Addr} {v : Value} (hc : w.cell? a = some v) (hs : ¬ S a.block) : w'.cell? a = some v := by
 rw [World.cell?_of_block (h.block a.block (World.block_lt_of_cell? w a hc) hs)]; exact hc
theorem lt_of_at {o : Obj} {k : Nat} (hk : w.heap[k]? = some o) : k < w.heap.size := (Array.getElem?_eq_some_iff.1 hk).1
theorem alloc_get (w : World) (o : Obj) (k : Nat) : (w.alloc o).heap[k]? = if k = w.heap.size then some o else w.heap[k]? := by
 show (w.heap.push o)[k]? = _
 rw [Array.getElem?_push]
end Cdk
namespace Cdk
open Go Go.RowKit
theorem sA {α : Type _} (l : List α) (i : Nat) (a : α) : l.toArray.setIfInBounds i a = (l.set i a).toArray := List.setIfInBounds_toArray l i a
theorem sZ {α : Type _} {x : α} {xs : List α} {a : α} : (x :: xs).set 0 a = a :: xs := rfl
theorem sS {α : Type _} {x : α} {xs : List α} {i : Nat} {a : α} : (x :: xs).set (i + 1) a = x :: xs.set i a := rfl
abbrev zA9 : Array Value := #[.int .i64 0, .int .i64 0, .int .i64 0, .int .i64 0, .int .i64 0, .string ⟨#[]⟩, .int .i64 0, .int .i64 0, .string ⟨#[]⟩, .string ⟨#[]⟩, .slice none 0 0, .slice none 0 0, .int .i64 0, .slice none 0 0, .int .i64 0, .int .i64 0, .int .i64 0, .int .i64 0, .int .i64 0, .string ⟨#[]⟩, .string ⟨#[]⟩, .int .i64 0, .int .i64 0, .int .i64 0, .int .i64 0, .int .i64 0, .string ⟨#[]⟩, .slice none 0 0, .slice none 0 0, .int .i64 0, .int .i64 0, .int .i64 0, .int .i64 0, .int .i64 0, .int .i64 0, .string ⟨#[]⟩]
abbrev zF9 : Array Value := #[.int .i64 0, .int .i64 0, .int .i64 0, .int .i64 0, .string ⟨#[]⟩, .int .i64 0, .int .i64 0, .string ⟨#[]⟩, .string ⟨#[]⟩, .slice none 0 0, .slice none 0 0, .int .i64 0, .slice none 0 0, .int .i64 0, .int .i64 0, .int .i64 0, .int .i64 0, .int .i64 0, .string ⟨#[]⟩, .string ⟨#[]⟩, .int .i64 0, .int .i64 0, .int .i64 0]
set_option linter.unusedSectionVars false
theorem ba_beq (a b : ByteArray) : (a == b) = decide (a = b) := by
 cases a with | mk a => cases b with | mk b =>
 show (a == b) = _
 simp only [ByteArray.mk.injEq]
 by_cases h : a = b
 ·subst h; simp
 ·have : (a == b) = false := by simp [h]
  rw [this]; simp [h]
instance : LawfulBEq ByteArray where
 eq_of_beq := fun {a b} h => by rw [ba_beq] at h; simpa using h
 rfl := fun {a} => by rw [ba_beq]; simp
section
variable {K : Type} [DecidableEq K]
structure KeyOk (P : Program) (kt : TypeId) (mk : K -> Value) : Prop where
 inj : ∀ a b, mk a = mk b -> a = b
 und : ∃ desc, P.underlying kt = some desc /\ (∀ a b, Instr.sameNow desc (mk a) (mk b) = some (decide (a = b))) ∧
  (∀ (e : Bool) (n : Nat) (a : K) (w : World), (Instr.checkKey e (n + 1) kt (mk a)).run P w = .ok () w)
 bits : ∀ a, Instr.sameBits 10000 (mk a) (mk a) = true
theorem keyOk_int {P : Program} {kt : TypeId} {k : IntKind} (h : P.underlying kt = some (.int k)) : KeyOk P kt (Value.int k) where
 inj := fun a b e => by injection e
 und := ⟨.int k, h, fun a b => by
  simp only [Instr.sameNow, if_true]
  congr 1, fun e n a w => by simp [Instr.checkKey, run_underlying h]⟩
 bits := fun a => by simp [Instr.sameBits]
def EntriesAre (mk : K -> Value) (es : Array MapEntry) (clock : Nat) (d : List (K × Value)) : Prop :=
 es.toList.map (fun e => (e.key, e.val)) = d.map (fun p => (mk p.1, p.2)) /\ (d.map (·.1)).Nodup /\ (es.toList.map (·.born)).Nodup /\ ∀ e ∈ es.toList, e.born < clock
def MapAt (w : World) (mk : K -> Value) (m : Nat) (d : List (K × Value)) : Prop :=
 ∃ es clock, w.heap[m]? = some (.map es clock) /\ EntriesAre mk es clock d
def assoc (d : List (K × Value)) (k : K) : Option Value := (d.find? (fun p => decide (p.1 = k))).map (·.2)
def upd (d : List (K × Value)) (k : K) (v : Value) : List (K × Value) :=
 if (assoc d k).isSome then d.map (fun p => if p.1 = k then (p.1, v) else p) else d ++ [(k, v)]
variable {P : Program} {kt : TypeId} {mk : K -> Value} {w w' : World} {m : Nat} {d : List (K × Value)}
theorem MapAt.mod {S : Nat -> Prop} (h : MapAt w mk m d) (hm : Mod S w w') (hs : ¬ S m) : MapAt w' mk m d := by
 obtain ⟨es, c, hh, he⟩ := h
 exact ⟨es, c, hm.at hh hs, he⟩
theorem MapAt.lt (h : MapAt w mk m d) : m < w.heap.size := by
 obtain ⟨es, c, hh, he⟩ := h
 exact lt_of_at hh
theorem MapAt.made (w : World) (mk : K -> Value) : MapAt (w.alloc (.map #[] 0)) mk w.heap.size ([] : List (K × Value)) :=
 ⟨#[], 0, heap_alloc_new w _, by simp, by simp, by simp, by simp⟩
theorem findNow_list {desc : TypeDesc} (hsame : ∀ a b, Instr.sameNow desc (mk a) (mk b) = some (decide (a = b))) (k : K) :
  ∀ (es : List MapEntry) (d : List (K × Value)) (i : Nat), es.map (fun e => (e.key, e.val)) = d.map (fun p => (mk p.1, p.2)) →
   Instr.findNow desc (mk k) es i = some ((d.findIdx? (fun p => decide (p.1 = k))).map (fun j => (i + j, ((d[j]?).map (·.2)).getD undef)))
 | [], [], _, _ => by simp [Instr.findNow]
 | [], _ :: _, _, h => by simp at h
 | _ :: _, [], _, h => by simp at h
 | e :: es, p :: d, i, h => by
  simp only [List.map_cons, List.cons.injEq, Prod.mk.injEq] at h
  obtain ⟨⟨hk, hv⟩, ht⟩ := h
  simp only [Instr.findNow, hk, hsame]
  by_cases hkp : k = p.1
  ·simp [hkp, List.findIdx?_cons, hv]
  ·have hpk : ¬ p.1 = k := fun e => hkp e.symm
   simp only [hkp, decide_false]
   rw [findNow_list hsame k es d (i + 1) ht]
   simp only [List.findIdx?_cons, hpk, decide_false]
   cases hfi : d.findIdx? (fun p => decide (p.1 = k)) with
   | none => simp
   | some j => simp; omega
theorem assoc_findIdx (d : List (K × Value)) (k : K) :
  assoc d k = (d.findIdx? (fun p => decide (p.1 = k))).map (fun j => ((d[j]?).map (·.2)).getD undef) := by
 induction d with
 | nil => simp [assoc]
 | cons p d ih =>
  by_cases h : p.1 = k
  ·simp [assoc, List.findIdx?_cons, h]
  ·simp only [assoc, List.find?_cons, h, decide_false, List.findIdx?_cons]
   simp only [assoc] at ih
   rw [ih]
   cases hfi : d.findIdx? (fun p => decide (p.1 = k)) with
   | none => simp
   | some j => simp
theorem findKey_run (ok : KeyOk P kt mk) (k : K) (es : Array MapEntry) (clock : Nat) (he : EntriesAre mk es clock d) (w : World) :
  (Instr.findKey kt (mk k) es.toList).run P w = .ok ((d.findIdx? (fun p => decide (p.1 = k))).map (fun j => (j, ((d[j]?).map (·.2)).getD undef))) w := by
 obtain ⟨desc, hu, hs, _⟩ := ok.und
 simp [Instr.findKey, run_underlying hu, findNow_list hs k es.toList d 0 he.1]
theorem run_checkKey (ok : KeyOk P kt mk) (e : Bool) (k : K) (w : World) : (Instr.checkKey e 10000 kt (mk k)).run P w = .ok () w := by
 obtain ⟨desc, hu, hs, hc⟩ := ok.und
 exact hc e 9999 k w
theorem run_getObj_map {es : Array MapEntry} {clock : Nat} (h : w.heap[m]? = some (.map es clock)) : (getObj m).run P w = .ok (.map es clock) w := by
 simp [getObj, Sem.run, h]
theorem run_setObj_map {es es' : Array MapEntry} {clock clock' : Nat} (h : w.heap[m]? = some (.map es clock)) :
  (setObj m (.map es' clock')).run P w = .ok () { w with heap := w.heap.setIfInBounds m (.map es' clock') } := by
 simp [setObj, Sem.run, h]
theorem Mod.setBlock {S : Nat -> Prop} (hs : m < w.heap.size -> S m) (o : Obj) : Mod S w { w with heap := w.heap.setIfInBounds m o } :=
 ⟨rfl, rfl, rfl, by simp, fun k hk hn => by
  have : m ≠ k := fun e => hn (e ▸ hs (e ▸ hk))
  simp [this]⟩
theorem run_lookupM {t e : TypeId} (ok : KeyOk P kt mk) (ht : P.underlying t = some (.map kt e)) (h : MapAt w mk m d) (k : K) {z : Value} (hz : (zeroValue e).run P w = .ok z w) (c : Bool) :
  (Instr.lookup t (.map (some m)) (mk k) c).run P w = .ok (if c then .tuple #[(assoc d k).getD z, .bool (assoc d k).isSome] else (assoc d k).getD z) w := by
 obtain ⟨es, clock, hh, he⟩ := h
 rw [assoc_findIdx]
 simp only [Instr.lookup, Sem.run_bind, run_underlying ht, Result.andThen_ok, run_getObj_map hh, Sem.run_pure, run_checkKey ok, findKey_run ok k es clock he]
 cases hfi : d.findIdx? (fun p => decide (p.1 = k)) with
 | none => cases c <;> simp [hz]
 | some j => cases c <;> simp
theorem map_fst_upd (d : List (K × Value)) (k : K) (v : Value) : (upd d k v).map (·.1) = if (assoc d k).isSome then d.map (·.1) else d.map (·.1) ++ [k] := by
 unfold upd
 split
 ·rw [List.map_map]
  apply List.map_congr_left
  intro p _
  simp only [Function.comp]
  split <;> rfl
 ·simp
theorem assoc_none_iff (d : List (K × Value)) (k : K) : assoc d k = none ↔ k ∉ d.map (·.1) := by
 simp only [assoc, Option.map_eq_none_iff, List.find?_eq_none, decide_eq_true_eq, List.mem_map, not_exists, not_and]
theorem findIdx_nodup : ∀ (d : List (K × Value)) (k : K) (v : Value) (j : Nat), (d.map (·.1)).Nodup -> d.findIdx? (fun p => decide (p.1 = k)) = some j →
  d.map (fun p => if p.1 = k then (p.1, v) else p) = d.modify j (fun p => (p.1, v))
 | [], _, _, _, _, h => by simp at h
 | p :: d, k, v, j, hn, h => by
  simp only [List.findIdx?_cons] at h
  simp only [List.map_cons, List.nodup_cons] at hn
  by_cases hp : p.1 = k
  ·simp only [hp, decide_true, if_true, Option.some.injEq] at h
   subst h
   simp only [List.map_cons, hp, if_true, List.modify_zero_cons]
   congr 1
   conv => rhs; rw [<- List.map_id d]
   apply List.map_congr_left
   intro q hq
   have : q.1 ≠ k := fun e => hn.1 (by rw [hp, <- e]; exact List.mem_map_of_mem hq)
   simp [this]
  ·simp only [hp, decide_false, Bool.false_eq_true, if_false] at h
   cases hf : d.findIdx? (fun p => decide (p.1 = k)) with
   | none => rw [hf] at h; simp at h
   | some i =>
    rw [hf] at h
    simp at h
    subst h
    simp only [List.map_cons, hp, if_false, List.modify_succ_cons]
    rw [findIdx_nodup d k v i hn.2 hf]
theorem EntriesAre.upd {es : Array MapEntry} {clock : Nat} (he : EntriesAre mk es clock d) (k : K) (v : Value) :
  match d.findIdx? (fun p => decide (p.1 = k)) with
  | some j => EntriesAre mk (es.modify j (fun e => { e with key := mk k, val := v })) clock (upd d k v)
  | none => EntriesAre mk (es.push { key := mk k, val := v, born := clock }) (clock + 1) (upd d k v) := by
 obtain ⟨h1, h2, h3, h4⟩ := he
 cases hf : d.findIdx? (fun p => decide (p.1 = k)) with
 | none =>
  have ha : assoc d k = none := by rw [assoc_findIdx, hf]; rfl
  have hu : Cdk.upd d k v = d ++ [(k, v)] := by simp [Cdk.upd, ha]
  simp only [hu]
  refine ⟨by simp [h1], ?_, ?_, ?_⟩
  ·rw [List.map_append, List.nodup_append]
   refine ⟨h2, by simp, ?_⟩
   intro a ha' b hb
   simp at hb
   subst hb
   intro e
   subst e
   exact (assoc_none_iff d _).1 ha ha'
  ·simp only [Array.toList_push, List.map_append, List.map_cons, List.map_nil]
   rw [List.nodup_append]
   refine ⟨h3, by simp, ?_⟩
   intro a ha' b hb
   simp at hb
   subst hb
   obtain ⟨e, he, rfl⟩ := List.mem_map.1 ha'
   exact Nat.ne_of_lt (h4 e he)
  ·intro e he
   simp only [Array.toList_push, List.mem_append, List.mem_singleton] at he
   rcases he with he | rfl
   ·exact Nat.lt_succ_of_lt (h4 e he)
   ·exact Nat.lt_succ_self _
 | some j =>
  have ha : (assoc d k).isSome = true := by rw [assoc_findIdx, hf]; rfl
  have hu : Cdk.upd d k v = d.modify j (fun p => (p.1, v)) := by
   simp only [Cdk.upd, ha, if_true]
   exact findIdx_nodup d k v j h2 hf
  have hkey : ∀ p, d[j]? = some p -> p.1 = k := by
   intro p hp
   have := List.findIdx?_eq_some_iff_getElem.1 hf
   obtain ⟨hlt, hpj, _⟩ := this
   rw [List.getElem?_eq_getElem hlt] at hp
   simp at hp hpj
   rw [<- hp]; exact hpj
  refine ⟨?_, ?_, ?_, ?_⟩
  ·rw [hu, Array.toList_modify]
   apply List.ext_getElem?
   intro i
   have h1i := congrArg (fun l => l[i]?) h1
   simp only [List.getElem?_map] at h1i
   simp only [List.getElem?_map, List.getElem?_modify]
   by_cases hij : j = i
   ·subst hij
    cases he : es.toList[j]? with
    | none =>
     rw [he] at h1i
     cases hd : d[j]? with
     | none => simp
     | some p => rw [hd] at h1i; simp at h1i
    | some e =>
     rw [he] at h1i
     cases hd : d[j]? with
     | none => rw [hd] at h1i; simp at h1i
     | some p => simp [hkey p hd]
   ·simp only [hij, if_false]
    simpa using h1i
  ·rw [map_fst_upd, if_pos ha]; exact h2
  ·have : (es.modify j (fun e => { e with key := mk k, val := v })).toList.map (·.born) = es.toList.map (·.born) := by
    rw [Array.toList_modify]
    apply List.ext_getElem?
    intro i
    simp only [List.getElem?_map, List.getElem?_modify]
    by_cases hij : j = i
    ·subst hij; cases es.toList[j]? <;> simp
    ·simp [hij]
   rw [this]; exact h3
  ·intro e he
   rw [Array.toList_modify] at he
   obtain ⟨i, hi, rfl⟩ := List.mem_iff_getElem.1 he
   simp only [List.getElem_modify]
   have hi' : i < es.toList.length := by simpa using hi
   have h4' := h4 _ (List.getElem_mem hi')
   split
   ·exact h4'
   ·exact h4'
theorem run_updateM {t e : TypeId} (ok : KeyOk P kt mk) (ht : P.underlying t = some (.map kt e)) (h : MapAt w mk m d) (k : K) (v : Value) :
  ∃ w', (Instr.mapUpdate t (.map (some m)) (mk k) v).run P w = .ok () w' /\ MapAt w' mk m (upd d k v) /\ Mod (Eq m) w w' /\ w'.heap.size = w.heap.size := by
 obtain ⟨es, clock, hh, he⟩ := h
 have hlt := lt_of_at hh
 have hupd := he.upd k v
 simp only [Instr.mapUpdate, Sem.run_bind, run_underlying ht, Result.andThen_ok, run_getObj_map hh, run_checkKey ok, findKey_run ok k es clock he]
 cases hf : d.findIdx? (fun p => decide (p.1 = k)) with
 | none =>
  rw [hf] at hupd
  simp only [Option.map_none]
  rw [run_setObj_map hh]
  exact ⟨_, rfl, ⟨_, _, by simp [hlt], hupd⟩, Mod.setBlock (fun _ => rfl) _, by simp⟩
 | some j =>
  rw [hf] at hupd
  simp only [Option.map_some]
  have hold : ((es[j]?).map (·.key)).getD (mk k) = mk k := by
   have h1j := congrArg (fun l => l[j]?) he.1
   simp only [List.getElem?_map, Array.getElem?_toList] at h1j
   obtain ⟨hlt', hpj, _⟩ := List.findIdx?_eq_some_iff_getElem.1 hf
   rw [List.getElem?_eq_getElem hlt'] at h1j
   simp at hpj
   cases hes : es[j]? with
   | none => rfl
   | some x => rw [hes] at h1j; simp at h1j; simp [h1j.1, hpj]
  have hstay : (Instr.keyThatStays (((es[j]?).map (·.key)).getD (mk k)) (mk k)).run P w = .ok (mk k) w := by
   rw [hold]; simp [Instr.keyThatStays, ok.bits]
  simp only [Sem.run_bind, hstay, Result.andThen_ok]
  rw [run_setObj_map hh]
  exact ⟨_, rfl, ⟨_, _, by simp [hlt], hupd⟩, Mod.setBlock (fun _ => rfl) _, by simp⟩
end
set_option linter.unusedSectionVars false
section
variable {K : Type} [DecidableEq K]
variable {P : Program} {kt : TypeId} {mk : K -> Value} {w w' : World} {m r : Nat} {d : List (K × Value)}
def IterAt (w : World) (mk : K -> Value) (m r : Nat) (d : List (K × Value)) (seen : List K) : Prop :=
 ∃ es clock sn, w.heap[m]? = some (.map es clock) /\ EntriesAre mk es clock d /\ w.heap[r]? = some (.mapIter (some m) clock sn clock) /\ r ≠ m ∧
  (∀ e ∈ es.toList, ∀ k, e.key = mk k -> (e.born ∈ sn.toList ↔ k ∈ seen)) ∧
  (∀ k s, seen = k :: s -> ∀ v, (k, v) ∈ d -> ∃ b, sn.back? = some b /\ ∃ e ∈ es.toList, e.born = b /\ e.key = mk k /\ e.val = v)
theorem IterAt.mod {S : Nat -> Prop} {seen : List K} (h : IterAt w mk m r d seen) (hm : Mod S w w') (hs : ¬ S m) (hr : ¬ S r) : IterAt w' mk m r d seen := by
 obtain ⟨es, c, sn, h1, h2, h3, h4, h5⟩ := h
 exact ⟨es, c, sn, hm.at h1 hs, h2, hm.at h3 hr, h4, h5⟩
theorem IterAt.lt {seen : List K} (h : IterAt w mk m r d seen) : r < w.heap.size /\ m < w.heap.size /\ r ≠ m := by
 obtain ⟨es, c, sn, h1, h2, h3, h4, _⟩ := h
 exact ⟨lt_of_at h3, lt_of_at h1, h4⟩
end
def RowIs (w : World) (ao : Option Addr) (cs : List Value) : Prop :=
 ∀ j u, cs[j]? = some u -> ∃ b off, ao = some ⟨b, off, none⟩ /\ w.cell? ⟨b, off + j, none⟩ = some u
theorem RowIs.nil (w : World) (ao : Option Addr) : RowIs w ao [] := fun j u h => by simp at h
theorem RowIs.at {w : World} {ao : Option Addr} {cs : List Value} (h : RowIs w ao cs) (hpos : 0 < cs.length) : ∃ b off, ao = some ⟨b, off, none⟩ /\ ∀ j u, cs[j]? = some u -> w.cell? ⟨b, off + j, none⟩ = some u := by
 obtain ⟨b, off, rfl, _⟩ := h 0 cs[0] (List.getElem?_eq_getElem hpos)
 refine ⟨b, off, rfl, fun j u hu => ?_⟩
 obtain ⟨b', off', he, hc⟩ := h j u hu
 simp only [Option.some.injEq, Addr.mk.injEq, and_true] at he
 rw [he.1, he.2]; exact hc
theorem RowIs.mod {S : Nat -> Prop} {w w' : World} {ao : Option Addr} {cs : List Value} (h : RowIs w ao cs) (hm : Mod S w w') (hs : ∀ b off, ao = some ⟨b, off, none⟩ -> ¬ S b) : RowIs w' ao cs := by
 intro j u hu
 obtain ⟨b, off, he, hc⟩ := h j u hu
 exact ⟨b, off, he, hm.cell hc (hs b off he)⟩
theorem RowIs.ext {w w' : World} {ao : Option Addr} {cs : List Value} (h : RowIs w ao cs) (hm : Ext w w') : RowIs w' ao cs := h.mod hm (fun _ _ _ h => h)
theorem RowIs.new (w : World) (cs : List Value) (e : TypeId) : RowIs (w.alloc (.cells cs.toArray e)) (some ⟨w.heap.size, 0, none⟩) cs := by
 intro j u hu
 refine ⟨w.heap.size, 0, rfl, ?_⟩
 have : (w.alloc (.cells cs.toArray e)).heap[w.heap.size]? = some (.cells cs.toArray e) := heap_alloc_new w _
 unfold World.cell?
 simp only [this]
 simpa using hu
theorem flat_get {α : Type} (f : α -> List Value) (size : Nat) (hf : ∀ x, (f x).length = size) : ∀ (xs : List α) (i j : Nat) (x : α), xs[i]? = some x -> j < size -> (xs.flatMap f)[i * size + j]? = (f x)[j]?
 | [], _, _, _, h, _ => by simp at h
 | y :: xs, 0, j, x, h, hj => by
  simp at h; subst h
  simp only [List.flatMap_cons, Nat.zero_mul, Nat.zero_add]
  rw [List.getElem?_append_left (by rw [hf]; exact hj)]
 | y :: xs, i + 1, j, x, h, hj => by
  simp only [List.getElem?_cons_succ] at h
  simp only [List.flatMap_cons]
  rw [List.getElem?_append_right (by rw [hf, Nat.add_mul]; omega), hf]
  rw [show (i + 1) * size + j - size = i * size + j from by rw [Nat.add_mul]; omega]
  exact flat_get f size hf xs i j x h hj
theorem flat_length {α : Type} (f : α -> List Value) (size : Nat) (hf : ∀ x, (f x).length = size) (xs : List α) : (xs.flatMap f).length = xs.length * size := by
 induction xs with
 | nil => simp
 | cons x xs ih => simp [ih, hf, Nat.add_mul]; omega
set_option linter.unusedSectionVars false
section
variable {K : Type} [DecidableEq K] {P : Program} {kt : TypeId} {mk : K -> Value} {ops : Array Oper} {rest : List Oper} {o : Oper} {a : Act} {Q : Exit -> Act -> World -> Prop} {w : World} {mb r : Nat} {d : List (K × Value)} {seen : List K}
end
structure El (P : Program) (e : TypeId) (z : Value) (size bytes : Nat) : Prop where
 row : (P.info? e).map (fun i => (i.zero, i.size, i.bytes)) = some (some z, size, bytes)
 cells : z.cells.size = size
 pos : 0 < size
 small : bytes <= 1024
section
variable {α : Type} {P : Program} {f : α -> List Value} {base : Nat} {e : TypeId} {z : Value} {size bytes : Nat} {w w' : World} {v : Value} {xs : List α}
def Own (w : World) (base : Nat) (e : TypeId) (size : Nat) (f : α -> List Value) (v : Value) (xs : List α) : Prop := w.ownsRow base e size v xs.length (xs.flatMap f)
theorem Own.nil (w : World) (base : Nat) (e : TypeId) (size : Nat) (f : α -> List Value) : Own w base e size f (.slice none 0 0) [] := World.ownsRow_nil w base e size
theorem Own.empty {w : World} {base : Nat} {e : TypeId} {size : Nat} (f : α -> List Value) (h : base <= w.heap.size) : Own (w.alloc (.cells #[] e)) base e size f (.slice (some ⟨w.heap.size, 0, none⟩) 0 0) [] :=
 World.ownsRow_made w #[] 0 h (Nat.zero_le _) (by simp)
theorem Own.weaken {base' : Nat} (h : Own w base e size f v xs) (hb : base' <= base) : Own w base' e size f v xs := by
 refine ⟨h.1, ?_⟩
 rcases h.2 with h2 | ⟨g, cap, cur, rfl, h3, h4⟩
 ·exact .inl h2
 ·exact .inr ⟨g, cap, cur, rfl, Nat.le_trans hb h3, h4⟩
theorem Own.mod {S : Nat -> Prop} (h : Own w base e size f v xs) (hm : Mod S w w') (hs : ∀ k, v.ownBlock = some k -> ¬ S k) : Own w' base e size f v xs := by
 refine ⟨h.1, ?_⟩
 rcases h.2 with h2 | ⟨g, cap, cur, rfl, h3, h4, h5⟩
 ·exact .inl h2
 ·exact .inr ⟨g, cap, cur, rfl, h3, hm.at h4 (hs g rfl), h5⟩
theorem Own.ext (h : Own w base e size f v xs) (hm : Ext w w') : Own w' base e size f v xs := h.mod hm (fun _ _ h => h)
theorem Own.block (h : Own w base e size f v xs) : ∀ k, v.ownBlock = some k -> base <= k /\ k < w.heap.size := World.ownsRow.lt h
theorem Own.row (h : Own w base e size f v xs) : ∃ ao cap, v = .slice ao xs.length cap /\ RowIs w ao (xs.flatMap f) /\ ∀ b off, ao = some ⟨b, off, none⟩ -> v.ownBlock = some b := by
 rcases h.2 with ⟨rfl, hn⟩ | ⟨g, cap, cur, rfl, hb, hg, hle, hcm, hcs, ht⟩
 ·have : xs = [] := List.eq_nil_of_length_eq_zero hn
  subst this
  exact ⟨none, 0, rfl, RowIs.nil _ _, by simp⟩
 ·refine ⟨some ⟨g, 0, none⟩, cap, rfl, ?_, ?_⟩
  ·intro j u hu
   refine ⟨g, 0, rfl, ?_⟩
   have := World.ownsRow.cells h (g := g) rfl j u hu
   rw [Addr.add_lit] at this
   exact this
  ·intro b off he
   simp at he
   simp [Value.ownBlock, he.1]
theorem Own.cells (h : Own w base e size f v xs) {k : Nat} (hk : v.ownBlock = some k) : ∃ c, w.heap[k]? = some (.cells c e (0, 0)) := by
 rcases h.2 with ⟨rfl, _⟩ | ⟨g, cap, cur, rfl, _, hg, _⟩
 ·simp [Value.ownBlock] at hk
 ·simp [Value.ownBlock] at hk; subst hk; exact ⟨cur, hg⟩
theorem wp_app {o : Oper} {a : Act} {K : Act -> World -> Prop} {Q : Exit -> Act -> World -> Prop} (s x : Operand) (t : TypeId)
  (ho : o.op = .call { callee := .builtin .append, args := #[s, x], argTypes := #[t, t] }) (ht : P.underlying t = some (.slice e)) (el : El P e z size bytes)
  (hs : a.eval s = v) (hown : Own w base e size f v xs) (ao : Option Addr) (m c : Nat) (hx : a.eval x = .slice ao m c) (ys : List α) (hm : ys.length = m) (hrow : RowIs w ao (ys.flatMap f))
  (hf : ∀ y, (f y).length = size) (h1 : ∀ y ∈ ys, ∀ u ∈ f y, u.oneCell' = true) (hlen : xs.length + ys.length <= 137438953472) (hbase : base <= w.heap.size) (hc : ao = none -> c = 0)
  (hK : ∀ v' w', Hid (Own w' base e size f v' (xs ++ ys) /\ Mod (fun k => v.ownBlock = some k) w w') -> K (a.put o.dst v') w') : o.wp P a w K Q := by
 obtain ⟨i0, hi, hz0, hz1, hz2⟩ := info_parts el.row
 have hflat := fun l : List α => flat_length f size hf l
 cases ao with
 | some ad =>
  have hcells : ∀ j u, (ys.flatMap f)[j]? = some u -> w.cell? (ad.add j) = some u := by
   intro j u hu
   obtain ⟨b, off, he, hcc⟩ := hrow j u hu
   simp only [Option.some.injEq] at he
   subst he
   rw [Addr.add_lit]
   exact hcc
  have hb : (xs.length + m) * bytes <= 140737488355328 := by
   have h1 := el.small
   have : (xs.length + m) * bytes <= 137438953472 * 1024 := Nat.mul_le_mul (by omega) h1
   omega
  refine wp_append_own w s x t ho base e i0 z size bytes ht hi hz0 hz1 hz2 el.cells el.pos v xs.length (xs.flatMap f) hs hown ad m c (ys.flatMap f) hx (by rw [hflat, hm]) hcells ?_ (by simp only [maxLen]; omega) hb hbase ?_
  ·intro u hu
   obtain ⟨y, hy, hu⟩ := List.mem_flatMap.1 hu
   exact h1 y hy u hu
  ·intro v' w' h2 h3 _
   refine hK v' w' ⟨?_, Mod.ofGrown h3 (fun k hk => hk)⟩
   subst hm
   unfold Own
   rw [List.length_append, List.flatMap_append]
   exact h2
 | none =>
  have hy : ys = [] := by
   cases ys with
   | nil => rfl
   | cons y ys =>
    exfalso
    have hp : 0 < ((y :: ys).flatMap f).length := by rw [hflat]; exact Nat.mul_pos (by simp) el.pos
    obtain ⟨b, off, he, _⟩ := hrow.at hp
    simp at he
  subst hy
  simp at hm
  subst hm
  have hc0 := hc rfl
  subst hc0
  have hrun := run_append_owned_none (P := P) w base t o.type e i0 size ht hi v xs.length (xs.flatMap f) hown
  unfold Oper.wp
  simp [execOp, ho, resolve, invoke, builtin, hs, hx, hrun, Result.andThen]
  exact hK v w ⟨by simpa using hown, Mod.refl _ _⟩
theorem wpList_app {ops : Array Oper} {rest : List Oper} {o : Oper} {a : Act} {Q : Exit -> Act -> World -> Prop} (hg : o.guard = none) (s x : Operand) (t : TypeId)
  (ho : o.op = .call { callee := .builtin .append, args := #[s, x], argTypes := #[t, t] }) (ht : P.underlying t = some (.slice e)) (el : El P e z size bytes)
  (hs : a.eval s = v) (hown : Own w base e size f v xs) (ao : Option Addr) (m c : Nat) (hx : a.eval x = .slice ao m c) (ys : List α) (hm : ys.length = m) (hrow : RowIs w ao (ys.flatMap f))
  (hf : ∀ y, (f y).length = size) (h1 : ∀ y ∈ ys, ∀ u ∈ f y, u.oneCell' = true) (hlen : xs.length + ys.length <= 137438953472) (hbase : base <= w.heap.size) (hc : ao = none -> c = 0)
  (hK : ∀ v' w', Hid (Own w' base e size f v' (xs ++ ys) /\ Mod (fun k => v.ownBlock = some k) w w') -> wpList P ops Q rest (a.put o.dst v') w') : wpList P ops Q (o :: rest) a w :=
 wpList_plain hg fun _ hK' => wp_app s x t ho ht el hs hown ao m c hx ys hm hrow hf h1 hlen hbase hc (fun v' w' H => hK' _ _ (hK v' w' H))
end
end Cdk
