import Derived.Test.YtpaefpnkemkikaaGreatDoorAppend
import Derived.RangeFuncNested
import Derived.RangeFuncBound
import Derived.RangeFuncCalls
import Derived.RangeFuncLeaves
import Derived.RangeFuncBox
import Derived.Shelf.Abstract
import Derived.Shelf.RegionOpen
import Derived.WalkKit
import Derived.OwnWalkIn
import Derived.TacticsInMore
import Derived.Test.YtpaefpnkemkikaaGreatDoorD9
import Derived.Test.YtpaefpnkemkikaaGreatDoorC14
import Derived.Test.YtpaefpnkemkikaaGreatDoorLast
import Derived.OrdersIn
set_option maxRecDepth 100000
set_option maxHeartbeats 16000000
namespace Cdk
open Go Go.RowKit
def SeqW {α : Type} (F : Fence) (n : Nat) (P : Program) (g : Nat) (lb : Array Value) (encs : α -> Array Value) (Kb : Nat -> Prop) (b0 : Nat) (Ok : α -> Prop) (S Sp : List α -> Prop) (N : Nat) (w : World) : Prop :=
 ∀ (l : Nat) (J : List α -> World -> Prop) (Jx : List α -> World -> Prop) (W : World), Below w.heap.size w W -> (∀ p A B, J p A -> A.grownBy B none -> J p B) -> (∀ p A v, J p A -> J p (A.setCell ⟨b0, 0, none⟩ v)) →
  (∀ pre x W1, J pre W1 -> pre.length < N -> Ok x -> YieldAt F (n - 1) P l (encs x) W1 fun e W' =>
   (e = .returned (.bool true) /\ J (pre ++ [x]) W' /\ (W1.heap.size <= W'.heap.size /\ ∀ k, Kb k -> W'.heap[k]? = W1.heap[k]?)) \/ (e = .returned (.bool false) /\ Jx (pre ++ [x]) W')) →
  J [] W →
  CallsIn F n P g (#[.func (.yield l) #[] #[]] ++ lb) W fun e W' => (∃ v, e = .returned v) /\ ((∃ xs, S xs /\ J xs W') \/ (∃ pre, Sp pre /\ Jx pre W'))
def postW {α : Type} (Kb : Nat -> Prop) (I : List α -> World -> Prop) (Ix : Code -> List α -> World -> Prop) (xs : List α) (W : World) : Exit -> Act -> World -> Prop
 | .normal, _, W' => KeepsOthers W W' /\ (∀ k, Kb k -> W'.heap[k]? = W.heap[k]?) /\ I xs W'
 | .ret, _, W' => KeepsOthers W W' /\ Ix .ret xs W'
 | .exit id, _, W' => KeepsOthers W W' /\ Ix (.exit id) xs W'
 | .goto t, _, W' => KeepsOthers W W' /\ Ix (.goto t) xs W'
 | .panic _, _, _ => False
 | .outgrown, _, _ => False
variable {F : Fence} {n : Nat} {P : Program}
theorem wpIn_rangeFunc_W {α : Type} {g : Operand} {ps : Array Tmp} {assign body : Code} {Q : Exit -> Act -> World -> Prop} {a : Act} {w : World}
  (hro : F.round = none) (h1 : 1 <= n) {gf : Nat} {lb : Array Value} (hg : a.eval g = .func (.func gf) #[] lb) (hFg : F.fn gf) (eg : ∀ args w, (callFunc gf args).run P w = .ok (.enter gf args) w)
  {encs : α -> Array Value} {Kb : Nat -> Prop} {b0 : Nat} {Ok : α -> Prop} {S Sp : List α -> Prop} {N : Nat} {w0 : World} (hseq : SeqW F (n - 1) P gf lb encs Kb b0 Ok S Sp N w0) (hKb : ∀ k, Kb k -> k < w.heap.size) (hb0w : b0 < w.heap.size) (hb0 : Below w0.heap.size w0 w) (hps : ∀ x, (encs x).size = ps.size)
  (I : List α -> World -> Prop) (Ix : Code -> List α -> World -> Prop) (hI : OwnFrom w.heap.size I) (hIb : ∀ p A v, I p A -> I p (A.setCell ⟨b0, 0, none⟩ v)) (hIx : ∀ c, OwnFrom w.heap.size (Ix c)) (h0 : I [] w) (a₁ : α -> Act)
  (hassign : ∀ (l : Nat) (x : α) (W : World) (K : Act -> World -> Prop), K (a₁ x) W →
   assign.wpIn (F.inRound l) (n - 1 - 1) P (Exit.then K (fun _ _ _ => False)) { tmps := (ps.zip (encs x)).foldl (fun t (p, v) => t.setIfInBounds p v) a.tmps, defers := [] } W)
  (hbody : ∀ (l : Nat) (pre : List α) (x : α) (W : World), I pre W -> pre.length < N -> Ok x -> body.wpIn (F.inRound l) (n - 1 - 1) P (postW Kb I Ix (pre ++ [x]) W) (a₁ x) W)
  (hdone : ∀ (D : Nat) (xs : List α) (W : World), w.heap.size <= D -> S xs -> I xs W -> W.heap[D]? = some (.deferred (some [])) -> Q .normal { a with defers := { target := .collected D, args := #[] } :: a.defers } W)
  (hstop : ∀ (D : Nat) (c : Code) (pre : List α) (W : World), w.heap.size <= D -> Sp pre -> Ix c pre W -> W.heap[D]? = some (.deferred (some [])) -> c.wpIn F n P Q { a with defers := { target := .collected D, args := #[] } :: a.defers } W) :
  (Code.rangeFunc g ps assign body).wpIn F n P Q a w := by
 refine wpIn_rangeFunc ?_
 intro fn hfn
 rw [hro]
 obtain ⟨rec, hrec⟩ : ∃ rec : LoopState -> Option Code -> Loop, rec = fun st pe => { state := st, pending := pe, fn, tmps := a.tmps, params := ps, assign, body, defers := w.heap.size } := ⟨_, rfl⟩
 obtain ⟨W1, hW1⟩ : ∃ W1, (w.alloc (.deferred (some []))).alloc (.loop (rec .ready none)) = W1 := ⟨_, rfl⟩
 have hL1 : W1.heap[w.heap.size + 1]? = some (.loop (rec .ready none)) := by
  rw [<- hW1]; have := World.alloc_heap_new (w.alloc (.deferred (some []))) (.loop (rec .ready none)); rwa [World.size_alloc] at this
 have hK1 : W1.heap[w.heap.size]? = some (.deferred (some [])) := by
  rw [<- hW1]; exact (Below.heap_alloc _ _ _ (by simp)).trans (World.alloc_heap_new w _)
 have hI1 : I [] W1 := by rw [<- hW1]; exact hI.alloc _ (hI.alloc _ h0)
 have hb1 : Below w0.heap.size w0 W1 := by
  rw [<- hW1]; exact hb0.trans ((((Below.refl _ w).alloc (Nat.le_refl _) _).alloc (by simp) _).mono hb0.size)
 refine ⟨w.heap.size + 1, [{ target := .collected w.heap.size, args := #[] }], W1, { target := .fn (.func gf) lb, args := #[.func (.yield (w.heap.size + 1)) #[] #[]] }, W1, gf,
  #[.func (.yield (w.heap.size + 1)) #[] #[]] ++ lb, W1, ?_, ?_, ?_, ?_, fun _ => h1, ?_⟩
 ·rw [<- hW1, hrec]; exact run_enterLoop_outer _ _ _ _ _
 ·simp only [resolve, hg]
  simp [go_sem]
 ·intro f' hf'; simp [Target.leads] at hf'; subst hf'; exact hFg
 ·simp [invoke, go_sem, eg]
 ·have hkeep : ∀ {A B : World} {o : Obj} {k : Nat}, A.grownBy B none -> A.heap[k]? = some o -> B.heap[k]? = some o := fun hg' hk =>
   (hg'.block _ (Array.getElem?_eq_some_iff.1 hk).1 (by simp)).trans hk
  refine (hseq (w.heap.size + 1)
   (fun pre W => I pre W /\ W.heap[w.heap.size + 1]? = some (.loop (rec .ready none)) /\ W.heap[w.heap.size]? = some (.deferred (some [])))
   (fun pre W => ∃ c, Ix c pre W /\ W.heap[w.heap.size + 1]? = some (.loop (rec .done (some c))) /\ W.heap[w.heap.size]? = some (.deferred (some [])))
   W1 hb1
   (fun s A B hs hg' => ⟨hI s A B none hs.1 hg' (fun r e => by cases e), hkeep hg' hs.2.1, hkeep hg' hs.2.2⟩)
   (fun s A v hs => ⟨hIb s A v hs.1, by rw [Below.heap_setCell A ⟨b0, 0, none⟩ v _ (by simp only; omega)]; exact hs.2.1, by rw [Below.heap_setCell A ⟨b0, 0, none⟩ v _ (by simp only; omega)]; exact hs.2.2⟩)
   ?_ ⟨hI1, hL1, hK1⟩).mono ?_
  ·
   rintro pre x W ⟨hi, hl, hk⟩ hlen hok
   have hlt : w.heap.size + 1 < W.heap.size := (Array.getElem?_eq_some_iff.1 hl).1
   have hy := run_yield (P := P) (args := encs x) hl (by rw [hrec]; exact hps x)
   rw [hrec] at hy
   refine ⟨fn, _, assign, body, hy, roundIn_of_wpIn hfn (hassign _ x W _ ⟨_, run_beginRound hl (by rw [hrec]), ?_⟩)⟩
   obtain ⟨W2, hW2⟩ : ∃ W2, W.putObj (w.heap.size + 1) (.loop { rec .ready none with state := .busy }) = W2 := ⟨_, rfl⟩
   have hl2 : W2.heap[w.heap.size + 1]? = some (.loop { rec .ready none with state := .busy }) := by rw [<- hW2]; exact World.putObj_heap_same hlt
   have ho2 : ∀ k, k ≠ w.heap.size + 1 -> W2.heap[k]? = W.heap[k]? := fun k hk => by rw [<- hW2]; exact World.putObj_heap_other (by omega)
   have hk2 : W2.heap[w.heap.size]? = some (.deferred (some [])) := (ho2 _ (by omega)).trans hk
   have hs2 : W2.heap.size = W.heap.size := by rw [<- hW2]; simp
   have hi2 : I pre W2 := by rw [<- hW2]; exact hI.putObj (s := pre) _ hi (by omega) hl rfl
   have hgoal := hbody (w.heap.size + 1) pre x W2 hi2 hlen hok
   rw [hW2]
   refine wpIn_mono hgoal ?_
   have fin : ∀ (jump : Option Code) (W3 : World), KeepsOthers W2 W3 →
     (Instr.endRound (w.heap.size + 1) jump).run P W3 = .ok (.bool jump.isNone) (W3.putObj (w.heap.size + 1) (.loop (rec (if jump.isNone then .ready else .done) jump))) ∧
     W3.heap[w.heap.size + 1]? = some (.loop { rec .ready none with state := .busy }) ∧
     (W3.putObj (w.heap.size + 1) (.loop (rec (if jump.isNone then .ready else .done) jump))).heap[w.heap.size + 1]? = some (.loop (rec (if jump.isNone then .ready else .done) jump)) ∧
     (W3.putObj (w.heap.size + 1) (.loop (rec (if jump.isNone then .ready else .done) jump))).heap[w.heap.size]? = some (.deferred (some [])) := fun jump W3 hk3 => by
    have hl3 := hk3.same _ _ hl2 rfl
    have := run_endRound (P := P) jump hl3
    rw [hrec] at this ⊢
    exact ⟨this, by rw [hrec] at hl3; exact hl3, World.putObj_heap_same (Array.getElem?_eq_some_iff.1 hl3).1, (World.putObj_heap_other (by omega)).trans (hk3.same _ _ hk2 rfl)⟩
   rintro e a3 W3 hp
   cases e with
   | normal =>
    obtain ⟨hk3, hb3, hi3⟩ := hp
    obtain ⟨hr, hl3, hl4, hk4⟩ := fin none W3 hk3
    refine ⟨_, _, hr, .inl ⟨rfl, ⟨hI.putObj (s := pre ++ [x]) _ hi3 (by omega) hl3 rfl, hl4, hk4⟩, by have := hk3.size; simp; omega, fun k hk => ?_⟩⟩
    have hkw := hKb k hk
    have e1 : (W3.putObj (w.heap.size + 1) (.loop (rec (if (none : Option Code).isNone then .ready else .done) none))).heap[k]? = W3.heap[k]? := World.putObj_heap_other (by omega)
    rw [e1, hb3 k hk, ho2 k (by omega)]
   | ret =>
    obtain ⟨hk3, hi3⟩ := hp
    obtain ⟨hr, hl3, hl4, hk4⟩ := fin (some .ret) W3 hk3
    exact ⟨_, _, hr, .inr ⟨rfl, .ret, (hIx _).putObj _ hi3 (by omega) hl3 rfl, hl4, hk4⟩⟩
   | exit id =>
    obtain ⟨hk3, hi3⟩ := hp
    obtain ⟨hr, hl3, hl4, hk4⟩ := fin (some (.exit id)) W3 hk3
    exact ⟨_, _, hr, .inr ⟨rfl, .exit id, (hIx _).putObj _ hi3 (by omega) hl3 rfl, hl4, hk4⟩⟩
   | goto t =>
    obtain ⟨hk3, hi3⟩ := hp
    obtain ⟨hr, hl3, hl4, hk4⟩ := fin (some (.goto t)) W3 hk3
    exact ⟨_, _, hr, .inr ⟨rfl, .goto t, (hIx _).putObj _ hi3 (by omega) hl3 rfl, hl4, hk4⟩⟩
   | panic ch => exact hp.elim
   | outgrown => exact hp.elim
  ·rintro e W2 ⟨⟨v, rfl⟩, (⟨xs, hS, hi, hl, hk⟩ | ⟨pre, hSp, c, hi, hl, hk⟩)⟩
   ·exact ⟨none, _, by have := run_endLoop (P := P) hl (by rw [hrec]; simp); rw [hrec] at this; exact this, hdone _ xs _ (Nat.le_refl _) hS (hI.putObj (s := xs) _ hi (by omega) hl rfl) ((World.putObj_heap_other (by omega)).trans hk)⟩
   ·exact ⟨some c, _, by have := run_endLoop (P := P) hl (by rw [hrec]; simp); rw [hrec] at this; exact this, hstop _ c pre _ (Nat.le_refl _) hSp ((hIx c).putObj _ hi (by omega) hl rfl) ((World.putObj_heap_other (by omega)).trans hk)⟩
end Cdk
namespace Go.Proofs.YtpaefpnkemkikaaGreatDoor
open Go.Shelf Go.RowKit Cdk Scr
attribute [local go_sem] Oper.semAt_some
theorem ext_bs (s : Bs) (a b : Nat) : (⟨s.toArray⟩ : ByteArray).extract a b = ⟨((s.take b).drop a).toArray⟩ := by
 apply ByteArray.ext
 rw [ByteArray.data_extract]
 apply Array.ext'
 simp [List.extract_eq_take_drop, List.drop_take]
theorem index_cut (c : UInt8) (s : Bs) : (Lib.index s [c] = -1 /\ parts c s = [s]) \/ (∃ i : Nat, Lib.index s [c] = i /\ i < s.length /\ parts c s = s.take i :: parts c (s.drop (i + 1))) := by
 have hcut := cutL_eq c s
 unfold Lib.cut at hcut
 have hge : -1 <= Lib.index s [c] := Lib.index_ge _ _
 have hro := Lib.index_room s [c]
 by_cases h1 : Lib.index s [c] = -1
 ·rw [if_neg (by omega)] at hcut
  refine .inl ⟨h1, ?_⟩
  rw [parts_cut, <- hcut]; rfl
 ·rw [if_pos (by omega)] at hcut
  have h2 := hro (by omega)
  simp only [List.length_cons, List.length_nil] at h2
  refine .inr ⟨(Lib.index s [c]).toNat, by omega, by omega, ?_⟩
  rw [parts_cut, <- hcut]; rfl
abbrev sepK (Bz Bc Bk : Nat) : Nat -> Prop := fun k => k = Bz \/ k = Bc \/ k = Bk
theorem split_in (n l Bz Bc Bk : Nat) (hn : 1 <= n) (hne : Bz ≠ Bc /\ Bz ≠ Bk) (c : UInt8) (s : Bs) (hs : s.length <= 1000000) (J Jx : List Bs -> World -> Prop) (hJ : ∀ p A B, J p A -> A.grownBy B none -> J p B) (hJw : ∀ p A v, J p A -> J p (A.setCell ⟨Bz, 0, none⟩ v))
  (hY : ∀ pre x W, J pre W -> pre.length < (parts c s).length -> x.length <= 1000000 -> YieldAt Fence.wide (n - 1) Tryz.prog l #[.string ⟨x.toArray⟩] W fun e W' =>
   (e = .returned (.bool true) /\ J (pre ++ [x]) W' /\ (W.heap.size <= W'.heap.size /\ ∀ k, sepK Bz Bc Bk k -> W'.heap[k]? = W.heap[k]?)) \/ (e = .returned (.bool false) /\ Jx (pre ++ [x]) W'))
  (W : World) (hz : W.heap[Bz]? = some (.cells #[.string ⟨s.toArray⟩] 9 (0, 0))) (hc : W.heap[Bc]? = some (.cells #[.string ⟨#[c]⟩] 9 (0, 0))) (hk : W.heap[Bk]? = some (.cells #[.int .i64 0] 3 (0, 0))) (h0 : J [] W) :
  CallsIn Fence.wide n Tryz.prog 264 #[.func (.yield l) #[] #[], .pointer (some ⟨Bc, 0, none⟩), .pointer (some ⟨Bz, 0, none⟩), .pointer (some ⟨Bk, 0, none⟩)] W fun e W' => (∃ v, e = .returned v) ∧
   ((∃ ys, ys = parts c s /\ J ys W') \/ (∃ pre, pre <+: parts c s /\ Jx pre W')) := by
 refine callsIn_wide.2 ?_
 have cc := cell_of' hc 0
 go_enter Tryz.func264, Tryz.ntmps264
 obtain ⟨SC, hSC⟩ : ∃ SC, SC = parts c s := ⟨_, rfl⟩
 rw [<- hSC] at hY ⊢
 replace hY := hid hY
 replace hJ := hid hJ
 replace hJw := hid hJw
 replace hz := hid hz
 replace hk := hid hk
 replace hc := hid hc
 go_wp2_with fail
 go_loopg [] (s.length + 1) (fun g wr => ∃ (pre : List Bs) (rest : Bs), wr.heap[Bz]? = some (.cells #[.string ⟨rest.toArray⟩] 9 (0, 0)) /\ wr.heap[Bc]? = some (.cells #[.string ⟨#[c]⟩] 9 (0, 0)) /\ wr.heap[Bk]? = some (.cells #[.int .i64 0] 3 (0, 0)) /\ SC = pre ++ parts c rest /\ J pre wr /\ rest.length < g /\ rest.length <= 1000000)
 case atStart => exact ⟨[], s, hz.out, hc.out, hk.out, by rw [hSC]; rfl, h0, by omega, hs⟩
 case round =>
  clear h0 hc hk hz hSC cc
  obtain ⟨pre, rest, hz, hc, hk, hsc, hJp, hlen, hrl⟩ := hrel
  have z0 : wr.cell? ⟨Bz, 0, none⟩ = some (.string ⟨rest.toArray⟩) := cell_of' hz 0
  have c0 : wr.cell? ⟨Bc, 0, none⟩ = some (.string ⟨#[c]⟩) := cell_of' hc 0
  have k0 : wr.cell? ⟨Bk, 0, none⟩ = some (.int .i64 0) := cell_of' hk 0
  have hix := hid (Tryz.strings_Index_one ⟨rest.toArray⟩ c wr)
  replace hz := hid hz
  replace hc := hid hc
  replace hk := hid hk
  replace hJp := hid hJp
  replace hlen := hid hlen
  rcases index_cut c rest with ⟨e1, e2⟩ | ⟨i, e1, e2, e3⟩
  ·rw [Lib.index_one] at e1
   have e1' : Lib.indexByte (⟨rest.toArray⟩ : ByteArray).data.toList c = -1 := e1
   rw [e1'] at hix
   rw [e2] at hsc
   have hy := hY.out pre rest wr hJp.out (by rw [hsc]; simp) hrl
   obtain ⟨yfn, ytmps, yassign, ybody, hyr, hyR⟩ := hy
   replace hyR := hid hyR
   replace hsc := hid hsc
   clear e1 e2 e1'
   go_wp2_with fail
   refine hix.out.mono ?_; rintro e w1 ⟨rfl, rfl⟩
   go_upto_region 10 with fail
   refine (wpIn_wide (n := n)).1 ?_
   gi_wp2
   refine hyR.out.mono ?_
   rintro e' W3 (⟨rfl, hJ3, -⟩ | ⟨rfl, hJx3⟩)
   ·replace hJ3 := hid hJ3
    gi_wp2
    go_end0
    exact ⟨⟨_, rfl⟩, .inl ⟨_, hsc.out.symm, hJ3.out⟩⟩
   ·replace hJx3 := hid hJx3
    gi_wp2
    go_end0
    exact ⟨⟨_, rfl⟩, .inr ⟨_, by rw [hsc.out]; exact List.prefix_refl _, hJx3.out⟩⟩
  ·rw [Lib.index_one] at e1
   have e1' : Lib.indexByte (⟨rest.toArray⟩ : ByteArray).data.toList c = i := e1
   rw [e1'] at hix
   rw [e3] at hsc
   have hy := hY.out pre (rest.take i) wr hJp.out (by rw [hsc]; simp) (by rw [List.length_take]; omega)
   obtain ⟨yfn, ytmps, yassign, ybody, hyr, hyR⟩ := hy
   have x1 : (⟨rest.toArray⟩ : ByteArray).extract 0 i = ⟨(rest.take i).toArray⟩ := by rw [ext_bs, List.drop_zero]
   have x2 : (⟨rest.toArray⟩ : ByteArray).extract (i + 1) rest.length = ⟨(rest.drop (i + 1)).toArray⟩ := by rw [ext_bs, List.take_length]
   have hsz : (⟨rest.toArray⟩ : ByteArray).size = rest.length := rfl
   have hii : (i : Int) <= (rest.length : Int) := by omega
   have hi0 : ¬ (i : Int) < 0 := by omega
   have hii1 : (i : Int) + 1 <= (rest.length : Int) := by omega
   replace hyR := hid hyR
   replace hsc := hid hsc
   clear e1 e1'
   go_wp2_with fail
   refine hix.out.mono ?_; rintro e w1 ⟨rfl, rfl⟩
   go_upto_region 8 with fail
   refine (wpIn_wide (n := n)).1 ?_
   gi_wp2
   refine hyR.out.mono ?_
   rintro e' W3 (⟨rfl, hJ3, -, hB3⟩ | ⟨rfl, hJx3⟩)
   ·have hz3 := (hB3 Bz (.inl rfl)).trans hz.out
    have hc3 := (hB3 Bc (.inr (.inl rfl))).trans hc.out
    have hk3 := (hB3 Bk (.inr (.inr rfl))).trans hk.out
    have z3 : W3.cell? ⟨Bz, 0, none⟩ = some (.string ⟨rest.toArray⟩) := cell_of' hz3 0
    have c3 : W3.cell? ⟨Bc, 0, none⟩ = some (.string ⟨#[c]⟩) := cell_of' hc3 0
    have fz := free_of' hz3
    have hJ4 := hid (hJw.out _ _ (.string ⟨(rest.drop (i + 1)).toArray⟩) hJ3)
    have hz4 := hid (put1 (v := .string ⟨(rest.drop (i + 1)).toArray⟩) hz3)
    have hc4 := hid ((put_ne W3 (b := Bz) (k := Bc) 0 (.string ⟨(rest.drop (i + 1)).toArray⟩) (fun e => hne.1 e.symm)).trans hc3)
    have hk4 := hid ((put_ne W3 (b := Bz) (k := Bk) 0 (.string ⟨(rest.drop (i + 1)).toArray⟩) (fun e => hne.2 e.symm)).trans hk3)
    clear hB3 hz3 hc3 hk3 hJ3 z0 c0 k0
    gi_wp2
    go_wp2_with fail
    go_roundg (rest.length)
    case measure => have := hlen.out; omega
    case rel => exact ⟨pre ++ [rest.take i], rest.drop (i + 1), hz4.out, hc4.out, hk4.out, by rw [hsc.out]; simp, hJ4.out, by rw [List.length_drop]; omega, by rw [List.length_drop]; omega⟩
   ·replace hJx3 := hid hJx3
    gi_wp2
    go_wp2_with fail
    try simp only [Exit.noGoto_normal]
    refine bodyPost_ret (results_none rfl _ _ _) rfl ?_
    exact ⟨⟨_, rfl⟩, .inr ⟨pre ++ [rest.take i], ⟨parts c (rest.drop (i + 1)), by rw [hsc.out]; simp⟩, hJx3.out⟩⟩
theorem split_seq (n Bz Bc Bk : Nat) (hn : 1 <= n) (hne : Bz ≠ Bc /\ Bz ≠ Bk) (c : UInt8) (s : Bs) (hs : s.length <= 1000000) (w : World) (hz : w.heap[Bz]? = some (.cells #[.string ⟨s.toArray⟩] 9 (0, 0))) (hc : w.heap[Bc]? = some (.cells #[.string ⟨#[c]⟩] 9 (0, 0))) (hk : w.heap[Bk]? = some (.cells #[.int .i64 0] 3 (0, 0))) :
  SeqW Fence.wide n Tryz.prog 264 #[.pointer (some ⟨Bc, 0, none⟩), .pointer (some ⟨Bz, 0, none⟩), .pointer (some ⟨Bk, 0, none⟩)] (fun x => #[.string ⟨x.toArray⟩]) (sepK Bz Bc Bk) Bz (fun x => x.length <= 1000000) (fun ys => ys = parts c s) (fun pre => pre <+: parts c s) (parts c s).length w := fun l J Jx W hW hJ hJw hY h0 =>
 split_in n l Bz Bc Bk hn hne c s hs J Jx hJ hJw hY W ((hW.block Bz (lt_of_at hz)).trans hz) ((hW.block Bc (lt_of_at hc)).trans hc) ((hW.block Bk (lt_of_at hk)).trans hk) h0
theorem splitSeq_any (c : UInt8) (s : Bs) (w : World) : Calls Tryz.prog 207 #[.string ⟨s.toArray⟩, .string ⟨#[c]⟩] w fun e w' =>
  e = .returned (.func (.func 264) #[] #[.pointer (some ⟨w.heap.size + 1, 0, none⟩), .pointer (some ⟨w.heap.size, 0, none⟩), .pointer (some ⟨w.heap.size + 1 + 1, 0, none⟩)]) ∧
   w' = ((w.alloc (.cells #[.string ⟨s.toArray⟩] 9)).alloc (.cells #[.string ⟨#[c]⟩] 9)).alloc (.cells #[.int .i64 0] 3) := by
 have h1 : Calls Tryz.prog 238 #[.string ⟨s.toArray⟩, .string ⟨#[c]⟩, .int .i64 0] w fun e w' =>
   e = .returned (.func (.func 264) #[] #[.pointer (some ⟨w.heap.size + 1, 0, none⟩), .pointer (some ⟨w.heap.size, 0, none⟩), .pointer (some ⟨w.heap.size + 1 + 1, 0, none⟩)]) ∧
   w' = ((w.alloc (.cells #[.string ⟨s.toArray⟩] 9)).alloc (.cells #[.string ⟨#[c]⟩] 9)).alloc (.cells #[.int .i64 0] 3) := by
  go_enter Tryz.func238, Tryz.ntmps238
  go_wp2_with fail
  go_ret
  exact ⟨rfl, rfl⟩
 replace h1 := hid h1
 go_enter Tryz.func207, Tryz.ntmps207
 go_wp2_with fail
 refine h1.out.mono ?_; rintro e w' ⟨rfl, rfl⟩
 go_wp2_with fail
 go_ret
 exact ⟨rfl, rfl⟩
end Go.Proofs.YtpaefpnkemkikaaGreatDoor
namespace Cdk
open Go Go.RowKit
section
variable {P : Program} {Q : Exit -> Act -> World -> Prop} {l₀ n : Nat}
theorem uponIn_of {o : Oper} {a : Act} {K : Act -> World -> Prop} {r : Result Next} (h : o.upon P a K Q r) : o.uponIn (Fence.wide.inRound l₀) n P a K Q r := by
 unfold Oper.upon at h
 unfold Oper.uponIn
 split at h
 ·exact h
 ·exact h
 ·exact h
 ·exact ⟨(fun q => by cases q), callsIn_wide.2 h⟩
 ·exact ⟨(fun q => by cases q), fun c cs _ => let ⟨v, w', r, s⟩ := h c cs; ⟨v, w', r, stepsIn_wide.2 s⟩⟩
 ·exact h
 ·exact h.elim
def noDefer (l : List Oper) : Bool := l.all fun o => match o.op with | .defer _ => false | _ => true
theorem noDefer_spec {l : List Oper} (h : noDefer l = true) {i : Nat} {o : Oper} (ho : l.toArray[i]? = some o) : ∀ c, o.op ≠ .defer c := by
 intro c hc
 have hm : o ∈ l := by
  have := (List.getElem?_eq_some_iff.1 (by simpa using ho)).2
  rw [<- this]; exact List.getElem_mem _
 have := List.all_eq_true.1 h o hm
 rw [hc] at this
 cases this
theorem wpOpIn_of {l : List Oper} (hd : noDefer l = true) (hL : ¬ LetsOut Q) {i : Nat} {K : Act -> World -> Prop} {a : Act} {w : World} (h : wpOp P l.toArray Q i K a w) : wpOpIn (Fence.wide.inRound l₀) n P l.toArray Q i K a w := by
 unfold wpOp at h
 unfold wpOpIn
 cases ho : l.toArray[i]? with
 | none => rw [ho] at h; exact h
 | some o =>
  rw [ho] at h
  simp only at h ⊢
  by_cases hw : Region.wanted o (yielded l.toArray a.tmps) = true
  ·rw [if_pos hw] at h ⊢
   refine ⟨fun _ _ => trivial, ?_⟩
   rcases h with h | h
   ·rw [Oper.semAt_eq _ _ _ (noDefer_spec hd ho)]
    exact uponIn_of h
   ·exact absurd h.2 hL
  ·rw [if_neg hw] at h ⊢
   exact ⟨fun _ _ => trivial, h⟩
theorem wpOpIn_mono {ops : Array Oper} {F : Fence} {i : Nat} {K K' : Act -> World -> Prop} {a : Act} {w : World} (hk : ∀ a w, K a w -> K' a w) (h : wpOpIn F n P ops Q i K a w) : wpOpIn F n P ops Q i K' a w := by
 unfold wpOpIn at h ⊢
 cases ho : ops[i]? with
 | none => rw [ho] at h; exact hk _ _ h
 | some o =>
  rw [ho] at h
  simp only at h ⊢
  by_cases hw : Region.wanted o (yielded ops a.tmps) = true
  ·rw [if_pos hw] at h ⊢
   exact Oper.wpIn_mono hk h
  ·rw [if_neg hw] at h ⊢
   exact ⟨h.1, hk _ _ h.2⟩
theorem wpAnyIn_of {md : Region.Mode} {l : List Oper} (hd : noDefer l = true) (hL : ¬ LetsOut Q) : ∀ (fuel : Nat) (listed : Array Bool) (a : Act) (w : World), wpAny P md l.toArray Q fuel listed a w -> wpAnyIn (Fence.wide.inRound l₀) n P md l.toArray Q fuel listed a w
 | 0, _, _, _, h => h
 | fuel + 1, _, _, _, h => ⟨h.1, fun i hi => wpOpIn_mono (fun a w h => wpAnyIn_of hd hL fuel _ a w h) (wpOpIn_of hd hL (h.2 i hi))⟩
theorem noPanic_out (hL : ¬ LetsOut Q) : ¬ LetsOut (NoPanic Q) := fun ⟨a, w, h⟩ => hL ⟨a, w, h⟩
theorem wpIn_region_schedE {id : Nat} {l : List Oper} {a : Act} {w : World} (C : World -> Prop) (sch : List (Nat × Bool)) (hm : P.follows .mixedOrders = true)
  (hno : Region.noSelect l.toArray = true) (hd : noDefer l = true) (hok : schedOkL .any l.toArray sch (Array.replicate l.length false) = true) (hlen : sch.length <= l.length) (hL : ¬ LetsOut Q)
  (hC : C w.drew) (h : wpT P l.toArray C (NoPanic Q) (schedOps l sch) a w.drew) : (Code.region id l.toArray true).wpIn (Fence.wide.inRound l₀) n P Q a w := by
 have h1 := wpT_sound (md := .any) hno (fun _ _ _ _ _ h => h) sch l.length (Array.replicate l.length false) a w.drew hlen hok hC h
 exact wpIn_mono (wpIn_region_any hm (wpAnyIn_of hd (noPanic_out hL) _ _ _ _ (wpAny_of_last (S := C) _ _ _ _ h1))) (fun e a w h => NoPanic.imp e a w h)
end
end Cdk
namespace Go.Proofs.YtpaefpnkemkikaaGreatDoor
open Go.Shelf Go.RowKit Cdk Scr
attribute [local go_sem] Oper.semAt_some
theorem elI : El Tryz.prog 3 (.int .i64 0) 1 8 := ⟨by kernel_rfl, rfl, by decide, by decide⟩
theorem numsF_app : ∀ (p : List Bs) (x : Bs) (r : Rd), numsF (p ++ [x]) r = ((numsF p r).1 ++ [(toNum x (numsF p r).2).1], (toNum x (numsF p r).2).2)
 | [], x, r => rfl
 | y :: p, x, r => by
  have := numsF_app p x (toNum y r).2
  simp only [List.cons_append, numsF, this]
theorem numsF_len : ∀ (p : List Bs) (r : Rd), (numsF p r).1.length = p.length
 | [], _ => rfl
 | y :: p, r => by simp [numsF, numsF_len p]
theorem numsF_rest : ∀ (p : List Bs) (r : Rd), (numsF p r).2.rest = r.rest
 | [], _ => rfl
 | y :: p, r => by rw [numsF]; rw [numsF_rest p, toNum_rest]
theorem rd_grown {R : Nat} {w W W' : World} {row : Option Nat} (h : RdM R w W) (hg : W.grownBy W' row) (hr : ∀ r, row = some r -> w.heap.size <= r) : RdM R w W' :=
 ⟨hg.os.trans h.os, hg.tape.trans h.tape, hg.output.trans h.output, Nat.le_trans h.size hg.size, fun k hk hs => (hg.block k (Nat.lt_of_lt_of_le hk h.size) (fun e => by have := hr k e.symm; omega)).trans (h.block k hk hs)⟩
theorem own_grown {α : Type} {W W' : World} {row : Option Nat} (hg : W.grownBy W' row) (hrow : ∀ r, row = some r -> ∃ o : Obj, W.heap[r]? = some o /\ o.isCells = false) {base : Nat} {e : TypeId} {size : Nat} {f : α -> List Value} {v : Value} {xs : List α}
  (h : Cdk.Own W base e size f v xs) : Cdk.Own W' base e size f v xs := by
 refine ⟨h.1, ?_⟩
 rcases h.2 with h2 | ⟨g, cap, cur, rfl, h3, h4, h5⟩
 ·exact .inl h2
 ·exact .inr ⟨g, cap, cur, rfl, h3, grown_cells hg hrow h4, h5⟩
theorem keep_of_mod {S : Nat -> Prop} {w w' : World} (hm : Mod S w w') (hS : ∀ k o, w.heap[k]? = some o -> o.isCells = false -> ¬ S k) : KeepsOthers w w' :=
 ⟨hm.size, fun k o hk ho => hm.at hk (hS k o hk ho)⟩
theorem own_rowAt {α : Type} {f : α -> List Value} {w : World} {B : Nat} {e : TypeId} {size : Nat} {v : Value} {l : List α} (h : Cdk.Own w B e size f v l) (hl : l.length <= 140737488355328) : RowAt (fun k => B <= k /\ k < w.heap.size) w f v l := by
 obtain ⟨ao, cap, rfl, hr, hb⟩ := h.row
 obtain ⟨-, h2, h3, h4⟩ := own_cap h
 exact ⟨ao, cap, rfl, hr, fun b off e _ => h.block b (hb b off e), h2, ⟨hl, h3⟩, h4⟩
theorem own_ne {α : Type} {W : World} {base : Nat} {e t : TypeId} {size : Nat} {f : α -> List Value} {v : Value} {xs : List α} (h : Cdk.Own W base e size f v xs) {k : Nat} {c : Array Value} {fr : Nat × Nat} (hk : W.heap[k]? = some (.cells c t fr)) (hne : t ≠ e) : v.ownBlock ≠ some k := by
 intro hv
 obtain ⟨c', hc⟩ := h.cells hv
 rw [hk] at hc; injection hc with hc; injection hc with _ hc _
 exact hne hc
structure LsN (w : World) (R : Nat) (r : Rd) (L : Nat) (pre : List Bs) (W : World) : Prop where
 mod : RdM R w W
 size : L + 5 <= W.heap.size
 rd : RdAt W R (numsF pre r).2
 fn : W.heap[L]? = some (.cells #[.func (.func 177) #[.pointer (some ⟨R, 0, none⟩)] #[]] 107 (0, 0))
 box : ∃ v, W.heap[L + 1]? = some (.cells #[v] 24 (0, 0)) /\ Cdk.Own W (L + 5) 3 1 intC v ((numsF pre r).1)
 bz : ∃ u : Value, W.heap[L + 2]? = some (.cells #[u] 9 (0, 0))
theorem lsN_own (w : World) (R : Nat) (r : Rd) (L B : Nat) (hL : w.heap.size <= L) (hB : L <= B) : OwnFrom B (fun p W => LsN w R r L p W) := by
 intro p W W' row h hg hrow
 have hr := fun r e => (hrow r e).2
 obtain ⟨v, h1, h2⟩ := h.box
 obtain ⟨sv, h3⟩ := h.bz
 exact ⟨rd_grown h.mod hg (fun r e => by have := (hrow r e).1; omega), Nat.le_trans h.size hg.size, grown_cells hg hr h.rd, grown_cells hg hr h.fn, ⟨v, grown_cells hg hr h1, own_grown hg hr h2⟩, ⟨sv, grown_cells hg hr h3⟩⟩
theorem lsN_box {w : World} {R : Nat} {r : Rd} {L : Nat} (hL : w.heap.size <= L) (hR : R < w.heap.size) {p : List Bs} {W : World} (v : Value) (h : LsN w R r L p W) : LsN w R r L p (W.setCell ⟨L + 2, 0, none⟩ v) := by
 obtain ⟨u, h1, h2⟩ := h.box
 obtain ⟨sv, h3⟩ := h.bz
 refine ⟨h.mod.setCell (fun e => by have : L + 2 < w.heap.size := e; omega) _, by simpa [World.setCell] using h.size, (put_ne W (k := R) 0 _ (by omega)).trans h.rd, (put_ne W (k := L) 0 _ (by omega)).trans h.fn, ⟨u, (put_ne W (k := L + 1) 0 _ (by omega)).trans h1, ?_⟩, ⟨v, put1 h3⟩⟩
 refine h2.mod ((Mod.refl (Eq (L + 2)) W).setCell (fun _ => rfl) _) (fun k hk e => ?_)
 subst e
 exact absurd (h2.block _ hk).1 (by omega)
def NmP (w : World) (R : Nat) (l : List Int) (r' : Rd) (e : Ending) (w' : World) : Prop := ∃ (ao : Option Addr) (cap : Nat), e = .returned (.slice ao l.length cap) /\ IntsAt (fun k => w.heap.size <= k /\ k < w'.heap.size) w' (.slice ao l.length cap) l /\ RdAt w' R r' /\ RdM R w w'
theorem listNums_any (R : Nat) (r : Rd) (s : Bs) (hs : s.length <= 1000000) (w : World) (hG : Gl w) (hR : 10 <= R) (h : RdAt w R r) :
  Calls Tryz.prog 185 #[.string ⟨s.toArray⟩, .func (.func 177) #[.pointer (some ⟨R, 0, none⟩)] #[]] w (NmP w R (numsOf s r).1 (numsOf s r).2) := by
 by_cases hst : s = [42]
 ·subst hst
  have e0 : numsOf [42] r = ([], r) := rfl
  rw [e0]
  have hx := Mod.alloc (Mod.refl (fun _ => False) w) (.cells #[.func (.func 177) #[.pointer (some ⟨R, 0, none⟩)] #[]] 107)
  have h1 := h.ext hx
  replace h1 := hid h1
  replace hx := hid hx
  replace h := hid h
  go_enter Tryz.func185, Tryz.ntmps185
  go_wp2_with fail
  go_ret
  exact ⟨none, 0, rfl, RowAt.nil _ _ _, h1.out, RdM.ofExt hx.out⟩
 ·have e0 : numsOf s r = numsF (parts 44 s) r := by unfold numsOf; rw [if_neg hst]
  rw [e0]
  have hse : (s == [42]) = false := by rw [beq_eq_false_iff_ne]; exact hst
  have hRlt := h.lt
  refine (callsIn_wide (n := 3)).1 ?_
  refine callsIn_of_wp_marks Tryz.func185 rfl trivial ?_ rfl
  simp only [Tryz.ntmps185, List.size_toArray, List.length_cons, List.length_nil, Nat.reduceAdd, Nat.reduceSub, Array.replicate_succ, Array.replicate_zero, List.push_toArray, List.append_toArray, List.nil_append, List.cons_append]
  refine (wpIn_wide (n := 3)).2 ?_
  go_wp2_with fail
  refine (splitSeq_any 44 s _).mono ?_; rintro e w1 ⟨rfl, rfl⟩
  go_wp2_with fail
  try simp only [World.size_alloc]
  obtain ⟨L, hL⟩ : ∃ L, L = w.heap.size := ⟨_, rfl⟩
  simp only [<- hL]
  have hx4 := ((((Mod.refl (fun _ => False) w).alloc (.cells #[.func (.func 177) #[.pointer (some ⟨R, 0, none⟩)] #[]] 107)).alloc (.cells #[.slice none 0 0] 24)).alloc (.cells #[.string ⟨s.toArray⟩] 9)).alloc (.cells #[.string ⟨#[44]⟩] 9)
  have hx5 := hx4.alloc (.cells #[.int .i64 0] 3)
  have hg4 : ∀ k, (((((w.alloc (.cells #[.func (.func 177) #[.pointer (some ⟨R, 0, none⟩)] #[]] 107)).alloc (.cells #[.slice none 0 0] 24)).alloc (.cells #[.string ⟨s.toArray⟩] 9)).alloc (.cells #[.string ⟨#[44]⟩] 9)).alloc (.cells #[.int .i64 0] 3)).heap[k]? =
    if k = L + 4 then some (.cells #[.int .i64 0] 3 (0, 0)) else if k = L + 3 then some (.cells #[.string ⟨#[44]⟩] 9 (0, 0)) else if k = L + 2 then some (.cells #[.string ⟨s.toArray⟩] 9 (0, 0)) else if k = L + 1 then some (.cells #[.slice none 0 0] 24 (0, 0)) else if k = L then some (.cells #[.func (.func 177) #[.pointer (some ⟨R, 0, none⟩)] #[]] 107 (0, 0)) else w.heap[k]? := by
   intro k
   simp only [alloc_get, World.size_alloc, <- hL]
  have hs4 : (((((w.alloc (.cells #[.func (.func 177) #[.pointer (some ⟨R, 0, none⟩)] #[]] 107)).alloc (.cells #[.slice none 0 0] 24)).alloc (.cells #[.string ⟨s.toArray⟩] 9)).alloc (.cells #[.string ⟨#[44]⟩] 9)).alloc (.cells #[.int .i64 0] 3)).heap.size = L + 5 := by simp only [World.size_alloc, <- hL]
  clear hx4
  generalize (((((w.alloc (.cells #[.func (.func 177) #[.pointer (some ⟨R, 0, none⟩)] #[]] 107)).alloc (.cells #[.slice none 0 0] 24)).alloc (.cells #[.string ⟨s.toArray⟩] 9)).alloc (.cells #[.string ⟨#[44]⟩] 9)).alloc (.cells #[.int .i64 0] 3)) = w4 at hx5 hg4 hs4 ⊢
  have b0 := hg4 L
  have b1 := hg4 (L + 1)
  have b2 := hg4 (L + 1 + 1)
  have b3 := hg4 (L + 1 + 1 + 1)
  have b4 := hg4 (L + 1 + 1 + 1 + 1)
  simp at b0 b1 b2 b3 b4
  clear hg4
  have hwL : w.heap.size <= L := Nat.le_of_eq hL.symm
  have hRL : R < L := by omega
  have hI0 : LsN w R r L [] w4 := ⟨RdM.ofExt hx5, by omega, h.ext hx5, b0, ⟨_, b1, Own.nil _ _ _ _ _⟩, ⟨_, b2⟩⟩
  have hG4 := hid (hG.ext hx5)
  replace hL := hid hL
  replace h := hid h
  have hseq := split_seq 2 (L + 1 + 1) (L + 1 + 1 + 1) (L + 1 + 1 + 1 + 1) (by omega) ⟨by omega, by omega⟩ 44 s hs w4 b2 b3 b4
  refine (wpIn_wide (n := 3)).1 ?_
  refine wpIn_rangeFunc_W (F := Fence.wide) rfl (by omega) (gf := 264) (lb := #[.pointer (some ⟨L + 1 + 1 + 1, 0, none⟩), .pointer (some ⟨L + 1 + 1, 0, none⟩), .pointer (some ⟨L + 1 + 1 + 1 + 1, 0, none⟩)]) rfl trivial (enters_of Tryz.func264 (by kernel_rfl) rfl)
   hseq (fun k hk => by rcases hk with rfl | rfl | rfl <;> omega) (by omega) (Below.refl _ _) (fun _ => rfl) (fun pre W => LsN w R r L pre W) (fun _ _ _ => False)
   (lsN_own w R r L w4.heap.size hwL (by omega)) (fun p A v hh => lsN_box hwL hRlt v hh) (fun c s W W' row h _ _ => h) hI0 ?aa ?assign ?body ?done (fun D c pre W _ _ h => h.elim)
  case assign =>
   intro l x W K hK
   gi_wp2
   exact hK
  case body =>
   rintro l pre x W hI hlen hxl
   obtain ⟨v, hb1, hown⟩ := hI.box
   obtain ⟨av, cv, rfl, -, -⟩ := hown.row
   have q0 : W.cell? ⟨L, 0, none⟩ = some (.func (.func 177) #[.pointer (some ⟨R, 0, none⟩)] #[]) := cell_of' hI.fn 0
   have q1 : W.cell? ⟨L + 1, 0, none⟩ = some (.slice av (numsF pre r).1.length cv) := cell_of' hb1 0
   have z1 := free_of' hb1
   have hsz : Hid (L + 5 <= W.heap.size) := hid hI.size
   have hplen : pre.length <= 1000001 := by have := parts_len 44 s; omega
   have hce := enters_of Tryz.func177 (by kernel_rfl) rfl
   replace hI := hid hI
   replace hown := hid hown
   replace hb1 := hid hb1
   refine wpIn_block ?_
   refine wpIn_region_schedE (fun W' => W'.heap[L]? = some (.cells #[.func (.func 177) #[.pointer (some ⟨R, 0, none⟩)] #[]] 107 (0, 0)) /\ W'.heap[L + 1]? = some (.cells #[.slice av (numsF pre r).1.length cv] 24 (0, 0))) [(0, true), (1, true), (2, true), (3, false), (4, false), (5, false), (6, false)]
    (by as_aux_lemma => kernel_rfl) (by as_aux_lemma => kernel_rfl) (by as_aux_lemma => kernel_rfl) (by as_aux_lemma => kernel_rfl) (by decide) (fun ⟨a, w, h⟩ => h) ⟨hI.out.fn, hb1.out⟩ ?_
   simp only [schedOps, List.map_cons, List.map_nil, List.getD_cons_zero, List.getD_cons_succ]
   have hW0 := Mod.drew0 (fun _ => False) W
   have hI0 := hI.out
   have hrd0 := RdAt.ext hI.out.rd hW0
   have hm0 := hI.out.mod.drew
   have ho0 := hown.out.ext hW0
   have hsz0 : L + 5 <= W.drew.heap.size := hsz.out
   have hGW := hG.rd hR hm0
   have hC0 : W.drew.heap[L]? = some (.cells #[.func (.func 177) #[.pointer (some ⟨R, 0, none⟩)] #[]] 107 (0, 0)) /\ W.drew.heap[L + 1]? = some (.cells #[.slice av (numsF pre r).1.length cv] 24 (0, 0)) := ⟨hI.out.fn, hb1.out⟩
   have hk0 := KeepsOthers.drew W
   have hs0 : ∀ k : Nat, W.drew.heap[k]? = W.heap[k]? := fun _ => rfl
   have hrest : (numsF pre r).2.rest = r.rest := numsF_rest pre r
   generalize W.drew = W0 at hrd0 hm0 ho0 hsz0 hGW hC0 hk0 hs0 ⊢
   have htn := hid (toNum_any R (numsF pre r).2 x hxl W0 hGW hrd0)
   replace hrd0 := hid hrd0
   replace hm0 := hid hm0
   replace ho0 := hid ho0
   replace hk0 := hid hk0
   replace hs0 := hid hs0
   replace hC0 := hid hC0
   clear hGW q0 q1 hW0 hI0
   repeat (first | (refine wpT_q (by rfl) (by rfl) ?_ (fun w' hC => ?_) ?_; rotate_left; (obtain ⟨hC1, hC2⟩ := hC; have q0 : w'.cell? ⟨L, 0, none⟩ = some (.func (.func 177) #[.pointer (some ⟨R, 0, none⟩)] #[]) := cell_of' hC1 0; have q1 : w'.cell? ⟨L + 1, 0, none⟩ = some (.slice av (numsF pre r).1.length cv) := cell_of' hC2 0; go_simp; try with_reducible rfl); try simp only [Act.put, sA, sZ, sS]) | (refine wpT_p (by rfl) (by rfl) ?_ (fun w' hC => ?_) ?_; rotate_left; (go_simp; try with_reducible rfl); try simp only [Act.put, sA, sZ, sS]))
   refine wpT_c (by rfl) (fun K hK => ?_)
   go_simp
   refine htn.out.mono ?_; rintro e W1 ⟨rfl, hr1, hm1⟩
   have hC1 : W1.heap[L]? = some (.cells #[.func (.func 177) #[.pointer (some ⟨R, 0, none⟩)] #[]] 107 (0, 0)) /\ W1.heap[L + 1]? = some (.cells #[.slice av (numsF pre r).1.length cv] 24 (0, 0)) := ⟨hm1.at hC0.out.1 (by omega), hm1.at hC0.out.2 (by omega)⟩
   refine hK.out _ _ hC1 ?_
   have hO1 := hid (ho0.out.mod hm1 (fun k hk e => by have := (ho0.out.block k hk).1; omega))
   have hk1 := hid (hk0.out.trans (keep_of_mod hm1 (fun k o hk ho e => by subst e; rw [hrd0.out] at hk; cases hk; cases ho)))
   have hs1 := hid (show ∀ k : Nat, k ≠ R -> k < W0.heap.size -> W1.heap[k]? = W.heap[k]? from fun k hk hkl => (hm1.block k hkl hk).trans (hs0.out k))
   have hmm := hid (hm0.out.trans hm1)
   have hsz1 : L + 5 <= W1.heap.size := Nat.le_trans hsz0 hm1.size
   have hszW : W0.heap.size <= W1.heap.size := hm1.size
   replace hr1 := hid hr1
   replace hC1 := hid hC1
   clear hK K htn hC0 ho0 hk0 hs0 hm0 hm1 hrd0
   try simp only [Act.put, sA, sZ, sS]
   refine wpT_c (by rfl) (fun K hK => ?_)
   go_simp
   have hxA := Mod.alloc (Mod.refl (fun _ => False) W1) (.cells #[.int .i64 (toNum x (numsF pre r).2).1] 3)
   refine hK.out _ _ ⟨hxA.at hC1.out.1 (fun h => h), hxA.at hC1.out.2 (fun h => h)⟩ ?_
   clear hK K
   try simp only [Act.put, sA, sZ, sS]
   refine wpT_c (by rfl) (fun K hK => ?_)
   refine wp_app _ _ 24 rfl Tryz.underlying24 elI rfl (hO1.out.ext hxA) _ 1 1 rfl [(toNum x (numsF pre r).2).1] rfl (by exact RowIs.new _ _ _) intC_len (fun y hy u hu => by simp only [List.mem_singleton] at hy; subst hy; simp [intC] at hu; subst hu; rfl) (by rw [numsF_len]; simp only [List.length_singleton]; omega) (by rw [World.size_alloc]; omega) (fun e => nomatch e) (fun v6 w6 H6 => ?_)
   obtain ⟨hO6, hm6⟩ := H6.out
   have hC6 : w6.heap[L]? = some (.cells #[.func (.func 177) #[.pointer (some ⟨R, 0, none⟩)] #[]] 107 (0, 0)) /\ w6.heap[L + 1]? = some (.cells #[.slice av (numsF pre r).1.length cv] 24 (0, 0)) :=
    ⟨hm6.at (hxA.at hC1.out.1 (fun h => h)) (fun e => by have := (hO1.out.block _ e).1; omega), hm6.at (hxA.at hC1.out.2 (fun h => h)) (fun e => by have := (hO1.out.block _ e).1; omega)⟩
   refine hK.out _ _ hC6 ?_
   clear hK K H6
   have hlen6 : ((numsF pre r).1 ++ [(toNum x (numsF pre r).2).1]).length = (numsF pre r).1.length + 1 := by simp
   obtain ⟨av6, cv6, rfl, -, -⟩ := hO6.row
   rw [hlen6] at hO6
   try simp only [Act.put, sA, sZ, sS]
   refine wpT_e (by rfl) (fun K hK => ?_)
   have z6 := free_of' hC6.2
   have q6 : w6.cell? ⟨L + 1, 0, none⟩ = some (.slice av (numsF pre r).1.length cv) := cell_of' hC6.2 0
   go_simp
   refine hK.out _ _ ?_
   clear hK K
   have hma : Mod (fun k => (Value.slice av (numsF pre r).1.length cv).ownBlock = some k) W1 w6 := (((Mod.refl _ W1).alloc _)).trans hm6
   have hsz6 : W1.heap.size <= w6.heap.size := hma.size
   show KeepsOthers W _ /\ _ /\ _
   refine ⟨(hk1.out.trans (keep_of_mod hma (fun k o hk ho e => ?_))).trans (KeepsOthers.setCell _ _ _), fun k hk => ?_, ?_⟩
   ·obtain ⟨c, hc⟩ := hO1.out.cells e
    rw [hk] at hc; cases hc; cases ho
   ·have hk2 : k ≠ L + 1 /\ k ≠ R /\ k < L + 5 := by rcases hk with rfl | rfl | rfl <;> omega
    rw [put_ne w6 0 _ hk2.1, hma.block k (by omega) (fun e => by have := (hO1.out.block _ e).1; omega), hs1.out k hk2.2.1 (by omega)]
   ·have hres : numsF (pre ++ [x]) r = ((numsF pre r).1 ++ [(toNum x (numsF pre r).2).1], (toNum x (numsF pre r).2).2) := numsF_app pre x r
    have hmf : RdM R w (w6.setCell ⟨L + 1, 0, none⟩ (.slice av6 ((numsF pre r).1.length + 1) cv6)) := (hmm.out.then hma (fun k hk e => by have := (hO1.out.block _ e).1; omega)).setCell (fun e => by have : L + 1 < w.heap.size := e; omega) _
    have hszf : L + 5 <= (w6.setCell ⟨L + 1, 0, none⟩ (.slice av6 ((numsF pre r).1.length + 1) cv6)).heap.size := by
     have : (w6.setCell ⟨L + 1, 0, none⟩ (.slice av6 ((numsF pre r).1.length + 1) cv6)).heap.size = w6.heap.size := by simp [World.setCell]
     omega
    refine ⟨hmf, hszf, ?_, (put_ne w6 0 _ (by omega)).trans hC6.1, ⟨_, put1 hC6.2, ?_⟩, ?_⟩
    ·rw [hres]
     exact (put_ne w6 0 _ (by omega)).trans (hma.at hr1.out (fun e => by have := (hO1.out.block _ e).1; omega))
    ·rw [hres]
     exact hO6.mod ((Mod.refl (Eq (L + 1)) w6).setCell (a := ⟨L + 1, 0, none⟩) (fun _ => rfl) _) (fun k hk e => by have := (hO6.block _ hk).1; omega)
    ·obtain ⟨u, hu⟩ := hI.out.bz
     refine ⟨u, (put_ne w6 0 _ (by omega)).trans ?_⟩
     rw [hma.block (L + 2) (by omega) (fun e => by have := (hO1.out.block _ e).1; omega), hs1.out (L + 2) (by omega) (by omega)]
     exact hu
  case done =>
   rintro D xs W hD hxs hI hK
   obtain ⟨v, hb1, hown⟩ := hI.box
   obtain ⟨av, cv, rfl, -, -⟩ := hown.row
   have q1 : W.cell? ⟨L + 1, 0, none⟩ = some (.slice av (numsF xs r).1.length cv) := cell_of' hb1 0
   have hnl : (numsF xs r).1.length <= 140737488355328 := by rw [numsF_len, hxs]; have := parts_len 44 s; omega
   have hrow := hid (own_rowAt hown hnl)
   replace hI := hid hI
   replace hown := hid hown
   replace hK := hid hK
   replace hxs := hid hxs
   replace hb1 := hid hb1
   go_wp2_with fail
   have hgD : W.grownBy (W.putObj D (.deferred none)) (some D) := grownBy_putObj' W D _
   have hrD : ∀ r, some D = some r -> ∃ o : Obj, W.heap[r]? = some o /\ o.isCells = false := fun r e => by cases e; exact ⟨_, hK.out, rfl⟩
   refine ⟨by simp, .inl ⟨_, _, rfl, run_takeDeferred hK.out, ?_⟩⟩
   refine ⟨_, by simp [results, go_sem]; rfl, ?_⟩
   rw [<- hxs.out]
   have hszD : (W.putObj D (.deferred none)).heap.size = W.heap.size := by simp
   refine ⟨av, cv, rfl, ?_, grown_cells hgD hrD hI.out.rd, rd_grown hI.out.mod hgD (fun r e => by cases e; omega)⟩
   exact RowAt.mono (own_rowAt (own_grown hgD hrD hown.out) hnl) (fun k hk => ⟨by omega, hk.2⟩)
end Go.Proofs.YtpaefpnkemkikaaGreatDoor
