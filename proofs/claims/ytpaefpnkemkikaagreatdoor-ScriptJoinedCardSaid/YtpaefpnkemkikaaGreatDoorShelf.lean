import Derived.Test.YtpaefpnkemkikaaGreatDoorLast
import Derived.Test.YtpaefpnkemkikaaGreatDoorProg
import Derived.Laws.Strings
import Derived.Lib.Builder
import Derived.Lib.AppendStr
import Derived.Laws.Externs
import Derived.Laws.Entries
import Derived.Shelf.Abstract
import Derived.Laws.IdiomCopy
import Derived.Lib.UnsafeStr
import Derived.Shelf.Strings.Builder1
import Derived.Shelf.Strings.Builder2
import Derived.Shelf.Strings.OnBuilder
import Derived.Shelf.Small.Utf8
import Derived.Shelf.Small.Strs
import Derived.Shelf.Strings.BuilderF
import Derived.Shelf.Strings.BuilderK
import Derived.Shelf.Utf8.RuneCount
import Derived.Shelf.Strings.Builder2Cap
import Derived.Shelf.Strconv.Atoi
import Derived.Shelf.Strconv.Itoa0
import Derived.Shelf.Strconv.Itoa1
import Derived.Shelf.LaysM
import Derived.Shelf.Strconv.Itoa2
import Derived.Shelf.Strconv.Itoa3
import Derived.Shelf.Strconv.AtoiErrFast
import Derived.Shelf.Strconv.ParseIntEmpty
import Derived.Shelf.Strconv.AtoiFail
import Derived.Shelf.Strconv.Clone
import Derived.Shelf.Strconv.SyntaxError
import Derived.Shelf.LaysC
import Derived.Shelf.Strconv.ToError
import Derived.Shelf.Strconv.Lower
import Derived.Shelf.Strconv.ParseUint10
import Derived.Shelf.Strconv.ParseUint10Empty
import Derived.Shelf.Strconv.ParseUint10Any
import Derived.Shelf.Strconv.ParseInt10
import Derived.Shelf.Strconv.AtoiLong
import Derived.Shelf.Strconv.AtoiInnerAll
import Derived.Shelf.Strconv.RangeError
import Derived.Shelf.Strconv.ToErrorRange
import Derived.Shelf.Strconv.AtoiAll
import Derived.Shelf.Strconv.ErrVarAll
import Derived.Shelf.Strings.Search1
import Derived.Shelf.Strings.Search2
import Derived.Shelf.Strings.Search3
import Derived.Shelf.Strings.Cut
import Derived.Shelf.Strings.Count
import Derived.Shelf.Strings.Shaped
import Derived.Shelf.Strings.Split
import Derived.Shelf.Strings.SplitShaped
import Derived.Shelf.Unicode.Decode
import Derived.Shelf.Strings.Runes
import Derived.Shelf.Strings.RuneCount
import Derived.Shelf.Strings.AsciiSet
import Derived.Shelf.Unicode.DecodeSlow
import Derived.Shelf.Strings.BuilderCap
import Derived.Shelf.Slices.Equal
import Derived.Shelf.Slices.Empties2
set_option maxRecDepth 100000
set_option maxHeartbeats 16000000
namespace Go.Proofs.YtpaefpnkemkikaaGreatDoor
open Go.RowKit Cdk Scr
theorem cell_of' {w : World} {b : Nat} {cs : Array Value} {t : TypeId} {fr : Nat × Nat} (h : w.heap[b]? = some (.cells cs t fr)) (j : Nat) : w.cell? ⟨b, j, none⟩ = cs[j]? := by
 simp [World.cell?, h]
theorem free_of' {w : World} {b : Nat} {cs : Array Value} {t : TypeId} (h : w.heap[b]? = some (.cells cs t (0, 0))) (j : Nat) : w.frozen? ⟨b, j, none⟩ = false := by
 unfold World.frozen?; simp [h]
def bdC (p : Int × Int × Int) : List Value := [.int .i64 p.1, .int .i64 p.2.1, .int .i64 p.2.2]
theorem bdC_len (p : Int × Int × Int) : (bdC p).length = 3 := rfl
def bdB (p : Int × Int × Int) : Bool := rng p.1 p.2.1 p.2.2
theorem within_any (rows : List (Int × Int × Int)) (R n : Nat) (w : World) (h : RowIs w (some ⟨R, 0, none⟩) (rows.flatMap bdC)) (hl : rows.length = n) (hn : n <= 10) :
  Calls Tryz.prog 169 #[.slice (some ⟨R, 0, none⟩) n n] w fun e w' => e = .returned (.bool (rows.all bdB)) /\ Ext w w' := by
 obtain ⟨r, hr⟩ : ∃ r, r = rows.all bdB := ⟨_, rfl⟩
 rw [<- hr]
 replace hr := hid hr
 replace h := hid h
 replace hl := hid hl
 go_enter Tryz.func169, Tryz.ntmps169
 go_wp2_with fail
 go_loopg [7] n (fun g i wr => ∃ j : Nat, j + g = n /\ i = .int .i64 j /\ Ext w wr /\ r = (rows.drop j).all bdB)
 case atStart => exact ⟨0, by omega, rfl, Mod.refl _ _, by rw [hr.out]; rfl⟩
 case round =>
  obtain ⟨j, hj, rfl, hx, hrj⟩ := hrel
  replace hj := hid hj
  by_cases hlt : j < n
  ·have hlt' : j < rows.length := by have := hl.out; omega
   have hg := fun t ht => flat_get bdC 3 bdC_len rows j t rows[j] (List.getElem?_eq_getElem hlt') ht
   obtain ⟨b, off, e0, hc⟩ := h.out.at (by rw [flat_length _ 3 bdC_len]; omega)
   injection e0 with e0; injection e0 with e1 e2 _
   subst e1; subst e2
   rw [List.drop_eq_getElem_cons hlt', List.all_cons] at hrj
   generalize rows[j] = p at hg hrj
   obtain ⟨x, lo, hi⟩ := p
   have g0 := hx.cell (hc _ _ ((hg 0 (by omega)).trans rfl)) (fun h => h)
   have g1 := hx.cell (hc _ _ ((hg 1 (by omega)).trans rfl)) (fun h => h)
   have g2 := hx.cell (hc _ _ ((hg 2 (by omega)).trans rfl)) (fun h => h)
   simp only [Nat.zero_add, Nat.add_zero] at g0 g1 g2
   have hxa := hx.alloc (.cells #[.int .i64 x, .int .i64 lo, .int .i64 hi] 146)
   replace hx := hid hx
   replace hxa := hid hxa
   replace hrj := hid hrj
   clear hg hc
   have hd : decide ((j : Int) < (n : Int)) = true := decide_eq_true (by omega)
   have hdi : (j : Int) < (n : Int) := by omega
   by_cases h1 : x < lo
   ·go_wp2_with fail
    go_ret
    refine ⟨?_, hxa.out⟩
    rw [hrj.out]
    simp [bdB, rng, show ¬ lo <= x by omega]
   ·by_cases h2 : hi < x
    ·go_wp2_with fail
     go_ret
     refine ⟨?_, hxa.out⟩
     rw [hrj.out]
     simp [bdB, rng, show ¬ x <= hi by omega]
    ·go_wp2_with fail
     go_roundg (gk - 1)
     case measure => have := hj.out; omega
     case rel =>
      refine ⟨j + 1, by have := hj.out; omega, by go_num, hxa.out, ?_⟩
      rw [hrj.out]
      simp [bdB, rng, show lo <= x by omega, show x <= hi by omega]
  ·have hdi : ¬ (j : Int) < (n : Int) := by omega
   have hd : decide ((j : Int) < (n : Int)) = false := decide_eq_false hdi
   rw [List.drop_eq_nil_of_le (by have := hl.out; omega)] at hrj
   replace hrj := hid hrj
   replace hx := hid hx
   go_wp2_with fail
   go_ret
   exact ⟨by rw [hrj.out]; rfl, hx.out⟩
theorem within_one (x lo hi : Int) (w : World) : Calls Tryz.prog 169 #[.slice (some ⟨w.heap.size, 0, none⟩) 1 1] (w.alloc (.cells #[.int .i64 x, .int .i64 lo, .int .i64 hi] 146)) fun e w' => e = .returned (.bool (rng x lo hi)) /\ Ext w w' :=
 (within_any [(x, lo, hi)] w.heap.size 1 _ (RowIs.new w _ _) rfl (by decide)).mono fun e w' ⟨h1, h2⟩ => ⟨by rw [h1]; simp [bdB], ((Mod.refl (fun _ => False) w).alloc _).trans h2⟩
theorem labelValid_any {F : Nat -> Prop} (v : Value) (l : Lb) (w : World) (h : IntsAt F w v l.aft) :
  Calls Tryz.prog 89 #[.agg (lbC v l).toArray] w fun e w' => e = .returned (.bool (vLb l)) /\ Ext w w' := by
 obtain ⟨til, aft, app, den⟩ := l
 simp only at h
 obtain ⟨r, hr⟩ : ∃ r, r = vLb ⟨til, aft, app, den⟩ := ⟨_, rfl⟩
 rw [<- hr]
 obtain ⟨ao, cap, rfl, hrow, -, hcap, hcap2, -⟩ := h
 unfold vLb at hr
 simp only at hr
 obtain ⟨n, hn⟩ : ∃ n, n = aft.length := ⟨_, rfl⟩
 rw [<- hn] at hcap
 unfold lbC
 simp only
 rw [<- hn]
 have hn2 : n <= 140737488355328 := by rw [hn]; exact hcap2.1
 replace hn := hid hn
 replace hr := hid hr
 replace hrow := hid hrow
 go_enter Tryz.func89, Tryz.ntmps89
 go_wp2_with fail
 have hx0 := hid ((Mod.refl (fun _ => False) w).alloc (.cells #[.int .i64 til, .slice ao n cap, .int .i64 app, .int .i64 den] 26))
 have hR := heap_alloc_new w (.cells #[.int .i64 til, .slice ao n cap, .int .i64 app, .int .i64 den] 26)
 have hsz : (w.alloc (.cells #[.int .i64 til, .slice ao n cap, .int .i64 app, .int .i64 den] 26)).heap.size = w.heap.size + 1 := World.size_alloc _ _
 rw [<- hsz]
 generalize (w.alloc (.cells #[.int .i64 til, .slice ao n cap, .int .i64 app, .int .i64 den] 26)) = w1 at hx0 hR hsz ⊢
 refine (within_any [(til, 0, 1000000000), (app, 0, 5), (den, 0, 15)] _ 3 _ (RowIs.new w1 _ _) rfl (by decide)).mono ?_
 rintro e w2 ⟨rfl, hx2⟩
 have hx2 := ((Mod.refl (fun _ => False) w1).alloc (.cells #[.int .i64 til, .int .i64 0, .int .i64 1000000000, .int .i64 app, .int .i64 0, .int .i64 5, .int .i64 den, .int .i64 0, .int .i64 15] 146)).trans hx2
 have hR2 := hx2.at hR (fun h => h)
 have hxw := hid (hx0.out.trans hx2)
 have c1 : w2.cell? ⟨w.heap.size, 1, none⟩ = some (.slice ao n cap) := cell_of' hR2 1
 clear hx2 hR hR2 hx0 hsz
 generalize w.heap.size = R at c1 ⊢
 have hb : ([(til, 0, 1000000000), (app, 0, 5), (den, 0, 15)].all bdB) = (rng til 0 1000000000 && (rng app 0 5 && rng den 0 15)) := by simp [bdB]
 rw [hb]
 clear hb
 cases hbb : (rng til 0 1000000000 && (rng app 0 5 && rng den 0 15)) with
 | false =>
  have hrf : Hid (r = false) := hid (by
   rw [hr.out]
   have : (rng til 0 1000000000 && (rng app 0 5 && (rng den 0 15 && asc 0 aft))) = ((rng til 0 1000000000 && (rng app 0 5 && rng den 0 15)) && asc 0 aft) := by simp [Bool.and_assoc]
   rw [this, hbb]; rfl)
  replace hbb := hid hbb
  go_wp2_with fail
  go_ret
  exact ⟨by rw [hrf.out]; rfl, hxw.out⟩
 | true =>
  have hrt : Hid (r = asc 0 aft) := hid (by
   rw [hr.out]
   have : (rng til 0 1000000000 && (rng app 0 5 && (rng den 0 15 && asc 0 aft))) = ((rng til 0 1000000000 && (rng app 0 5 && rng den 0 15)) && asc 0 aft) := by simp [Bool.and_assoc]
   rw [this, hbb]; rfl)
  replace hbb := hid hbb
  clear hr
  go_wp2_with fail
  go_loopg [3, 21] n (fun g la i wr => ∃ (j : Nat) (p : Int), j + g = n /\ i = .int .i64 j /\ la = .int .i64 p /\ 0 <= p /\ p <= 64 /\ Ext w wr /\ r = asc p (aft.drop j))
  case atStart => exact ⟨0, 0, by omega, rfl, rfl, by decide, by decide, hxw.out, hrt.out⟩
  case round =>
   clear hxw hrt c1
   obtain ⟨j, p, hj, rfl, rfl, hp1, hp2, hx, hrj⟩ := hrel
   replace hj := hid hj
   by_cases hlt : j < n
   ·have hd : decide ((j : Int) < (n : Int)) = true := decide_eq_true (by omega)
    have hdi : (j : Int) < (n : Int) := by omega
    have hlt' : j < aft.length := by have := hn.out; omega
    have hg := flat_get intC 1 intC_len aft j 0 aft[j] (List.getElem?_eq_getElem hlt') (by decide)
    obtain ⟨b, off, rfl, hc⟩ := hrow.out.at (by rw [flat_length _ 1 intC_len]; omega)
    rw [List.drop_eq_getElem_cons hlt'] at hrj
    simp only [asc] at hrj
    generalize aft[j] = x at hg hrj
    have g0 := hx.cell (hc _ _ (hg.trans rfl)) (fun h => h)
    simp only [Nat.mul_one, Nat.add_zero] at g0
    clear hg hc
    have hx1 := hid (within_one x (p + 1) 64 wr)
    replace hx := hid hx
    go_wp2_with fail
    refine hx1.out.mono ?_
    rintro e w4 ⟨rfl, hx4⟩
    have hx4 := hid (hx.out.trans hx4)
    clear hx1
    cases hbx : rng x (p + 1) 64 with
    | false =>
     rw [hbx] at hrj
     replace hrj := hid hrj
     replace hbx := hid hbx
     go_wp2_with fail
     go_ret
     exact ⟨by rw [hrj.out]; rfl, hx4.out⟩
    | true =>
     rw [hbx] at hrj
     replace hrj := hid hrj
     have hxr := rng_iff.1 hbx
     replace hbx := hid hbx
     go_wp2_with fail
     go_roundg (gk - 1)
     case measure => have := hj.out; omega
     case rel => exact ⟨j + 1, x, by have := hj.out; omega, by go_num, rfl, by omega, by omega, hx4.out, by rw [hrj.out]; rfl⟩
   ·have hdi : ¬ (j : Int) < (n : Int) := by omega
    have hd : decide ((j : Int) < (n : Int)) = false := decide_eq_false hdi
    rw [List.drop_eq_nil_of_le (by have := hn.out; omega)] at hrj
    replace hrj := hid hrj
    replace hx := hid hx
    go_wp2_with fail
    go_ret
    exact ⟨by rw [hrj.out]; rfl, hx.out⟩
open Go.Shelf Go.RowKit Cdk Scr
abbrev bldT : TypeId := 65
abbrev u8T : TypeId := 5
def Bld (B b : Nat) (tx : Bs) (w : World) : Prop := Lib.IsBuilder bldT u8T B b (Lib.byteCells tx) w
def KeepB (B b : Nat) (w w' : World) : Prop := Mod (fun k => B <= k) w w' /\ ∀ k o, w.heap[k]? = some o -> (∀ cs fr, o ≠ .cells cs u8T fr) -> k ≠ b -> w'.heap[k]? = some o
theorem KeepB.refl (B b : Nat) (w : World) : KeepB B b w w := ⟨Mod.refl _ w, fun _ _ h _ _ => h⟩
theorem KeepB.ofExt {B b : Nat} {w w' : World} (h : Ext w w') : KeepB B b w w' := ⟨h.mono (fun _ h => h.elim), fun _ _ hk _ _ => h.at hk (fun h => h)⟩
theorem KeepB.trans {B b : Nat} {w w' w'' : World} (h : KeepB B b w w') (k : KeepB B b w' w'') : KeepB B b w w'' :=
 ⟨h.1.trans k.1, fun j o hj ho hb => k.2 j o (h.2 j o hj ho hb) ho hb⟩
theorem KeepB.ext {B b : Nat} {w w' w'' : World} (h : KeepB B b w w') (k : Ext w' w'') : KeepB B b w w'' := h.trans (.ofExt k)
theorem KeepB.pre {B b : Nat} {w w' w'' : World} (h : Ext w w') (k : KeepB B b w' w'') : KeepB B b w w'' := (KeepB.ofExt h).trans k
theorem KeepB.setCell {B b : Nat} {w : World} (hb : B <= b) (j : Nat) (u : Value) : KeepB B b w (w.setCell ⟨b, j, none⟩ u) :=
 ⟨(Mod.refl _ w).setCell (fun _ => hb) u, fun k o hk _ hne => by rw [Below.heap_setCell w ⟨b, j, none⟩ u k hne]; exact hk⟩
theorem KeepB.grown {B b : Nat} {w w' : World} {v : Value} {n : Nat} {xs : List Value} (hown : w.ownsRow B u8T 1 v n xs) (hg : w.grownBy w' v.ownBlock) : KeepB B b w w' := by
 refine ⟨Mod.ofGrown hg (fun k hk => (hown.lt k hk).1), fun k o hk ho _ => ?_⟩
 rw [hg.block k (lt_of_at hk) (fun e => ?_)]
 ·exact hk
 ·rcases hown.2 with ⟨rfl, _⟩ | ⟨g, cap, cur, rfl, _, h1, _⟩
  ·simp [Value.ownBlock] at e
  ·simp [Value.ownBlock] at e
   subst e
   rw [h1] at hk
   exact ho _ _ (Option.some.inj hk).symm
theorem Bld.lt {B b : Nat} {tx : Bs} {w : World} (h : Bld B b tx w) : B <= b /\ b < w.heap.size := by
 rcases h with h | h
 ·exact ⟨h.1, h.lt⟩
 ·exact ⟨h.1, h.lt⟩
theorem Bld.fresh (w : World) : Bld w.heap.size w.heap.size [] (w.alloc (.cells #[.pointer none, .slice none 0 0] bldT)) := Lib.fresh_isBuilder bldT u8T w
theorem Bld.ext {B b : Nat} {tx : Bs} {w w' : World} (h : Bld B b tx w) (hx : Ext w w') : Bld B b tx w' := by
 have aux : ∀ p, Lib.BuilderAt bldT u8T B b p (Lib.byteCells tx) w -> Lib.BuilderAt bldT u8T B b p (Lib.byteCells tx) w' := by
  rintro p ⟨hB, v, hb, hown, hne⟩
  exact ⟨hB, v, hx.at hb (fun h => h), hown.kept (row := none) ⟨hx.os, hx.tape, hx.output, hx.size, fun k hk _ => hx.block k hk (fun h => h)⟩ (Classical.em _), hne⟩
 exact h.imp (aux _) (aux _)
theorem bsize : (Tryz.prog.info? bldT).map (·.size) = some 2 := by kernel_rfl
theorem blies : liesAt Tryz.prog Tryz.prog.depth bldT (2 / Tryz.prog.cellsOf bldT) 0 bldT 1 = true := by kernel_rfl
theorem binfo : (Tryz.prog.info? u8T).map (fun i => (i.zero, i.size, i.bytes)) = some (some (.int .u8 0), 1, 1) := by kernel_rfl
theorem enters_check : ∀ args w, (callFunc 71 args).run Tryz.prog w = .ok (.enter 71 args) w := enters_of Tryz.func71 (by kernel_rfl) rfl
theorem check_used (b : Nat) (w : World) (h0 : w.cell? ⟨b, 0, none⟩ = some (.pointer (some ⟨b, 0, none⟩))) :
  Calls Tryz.prog 71 #[.pointer (some ⟨b, 0, none⟩)] w fun e w' => e = .returned (.tuple #[]) /\ w' = w := by
 obtain ⟨j, hj, _⟩ := Option.map_eq_some_iff.1 bsize
 go_enter Tryz.func71, Tryz.ntmps71
 go_wp2
 rw [Lib.run_neq_ptr_same w _ Tryz.underlying62 hj]
 go_wp2
 go_end0
 exact ⟨rfl, rfl⟩
theorem check_fresh (b : Nat) (w : World) (h0 : w.cell? ⟨b, 0, none⟩ = some (.pointer none)) (hsh : w.shape? b = some (bldT, 2)) (hfz : w.frozen? ⟨b, 0, none⟩ = false) :
  Calls Tryz.prog 71 #[.pointer (some ⟨b, 0, none⟩)] w fun e w' => e = .returned (.tuple #[]) /\ w' = w.setCell ⟨b, 0, none⟩ (.pointer (some ⟨b, 0, none⟩)) := by
 obtain ⟨j, hj, hjs⟩ := Option.map_eq_some_iff.1 bsize
 go_enter Tryz.func71, Tryz.ntmps71
 go_wp2
 rw [Lib.run_to_unsafe w ⟨b, 0, none⟩ Tryz.underlying62 Tryz.underlying129 hj (by rw [hjs]; decide) hsh (Nat.zero_lt_succ 1)]
 simp only [Result.andThen]
 rw [Oper.upon_value]
 go_wp2
 rw [run_callFunc_extern Tryz.func152 (by kernel_rfl) (by kernel_rfl) (by kernel_rfl) (e := Extern.AbiNoEscape.same) (by kernel_rfl)]
 rw [Lib.run_noEscape]
 simp only [Result.andThen]
 rw [Oper.upon_value]
 go_wp2
 rw [Lib.run_from_unsafe w ⟨b, 0, none⟩ Tryz.underlying129 Tryz.underlying62 hj hsh blies]
 simp only [Result.andThen]
 rw [Oper.upon_value]
 go_wp2
 go_end0
 exact ⟨rfl, rfl⟩
theorem check_any (B b : Nat) (tx : Bs) (w : World) (h : Bld B b tx w) :
  Calls Tryz.prog 71 #[.pointer (some ⟨b, 0, none⟩)] w fun e w' => e = .returned (.tuple #[]) /\ Lib.BuilderAt bldT u8T B b (.pointer (some ⟨b, 0, none⟩)) (Lib.byteCells tx) w' /\ KeepB B b w w' := by
 rcases h with h | h
 ·refine (check_fresh b w h.cell0 h.shape h.frozen0).mono ?_
  rintro e w' ⟨rfl, rfl⟩
  exact ⟨rfl, h.used _, KeepB.setCell h.1 0 _⟩
 ·refine (check_used b w h.cell0).mono ?_
  rintro e w' ⟨rfl, rfl⟩
  exact ⟨rfl, h, KeepB.refl _ _ _⟩
theorem putStr_any (B b : Nat) (tx : Bs) (s : ByteArray) (w : World) (h : Bld B b tx w) (hlen : tx.length + s.size <= 140737488355328) :
  Calls Tryz.prog 43 #[.pointer (some ⟨b, 0, none⟩), .string s] w fun e w' => e = .returned (.tuple #[.int .i64 s.size, .nilIface]) /\ Bld B b (tx ++ s.data.toList) w' /\ KeepB B b w w' := by
 obtain ⟨i0, hi, hz0, hz1, hz2⟩ := info_parts binfo
 have hBw : B <= w.heap.size := by have := h.lt; omega
 have e240 := enters_check
 go_enter Tryz.func43, Tryz.ntmps43
 go_wp2_with (go_at_fn 71; refine (check_any B b tx _ h).mono ?_)
 rintro e w1 ⟨rfl, h1, hb1⟩
 obtain ⟨hB, v, hbk, hown, hne⟩ := h1
 have c0 : w1.cell? ⟨b, 0, none⟩ = some (.pointer (some ⟨b, 0, none⟩)) := by rw [Lib.cell_of_heap hbk]; rfl
 have c1 : w1.cell? ⟨b, 1, none⟩ = some v := by rw [Lib.cell_of_heap hbk]; rfl
 have hlb := hid (Lib.byteCells_length tx)
 go_wp2_with (at_builtin; refine Lib.wpList_append_own_string _ rfl _ _ 63 9 rfl B u8T i0 Tryz.underlying63 Tryz.underlying9 hi hz0 hz1 hz2 _ _ _ rfl hown s rfl ?c3 ?c4 ?c5 ?_)
 case c3 => have := hlb.out; unfold maxLen; omega
 case c4 => have := hlb.out; omega
 case c5 => have := hb1.1.size; omega
 intro v' w2 hown' hgrow _
 have hlt : b < w1.heap.size := lt_of_at hbk
 have hb2 : w2.heap[b]? = some (.cells #[.pointer (some ⟨b, 0, none⟩), v] bldT (0, 0)) := by
  rw [hgrow.block b hlt (fun e => hne e.symm)]
  exact hbk
 have d0 : w2.cell? ⟨b, 0, none⟩ = some (.pointer (some ⟨b, 0, none⟩)) := by rw [Lib.cell_of_heap hb2]; rfl
 have d1 : w2.cell? ⟨b, 1, none⟩ = some v := by rw [Lib.cell_of_heap hb2]; rfl
 have f1 : w2.frozen? ⟨b, 1, none⟩ = false := Lib.frozen_of_heap hb2 1
 obtain ⟨ao, n', cap, rfl⟩ : ∃ ao n' cap, v' = .slice ao n' cap := by
  rcases hown'.2 with ⟨hv, _⟩ | ⟨g, cap, cur, hv, _⟩
  ·exact ⟨_, _, _, hv⟩
  ·exact ⟨_, _, _, hv⟩
 go_wp2
 go_ret2
 refine ⟨rfl, .inr ?_, (hb1.trans (KeepB.grown hown hgrow)).trans (KeepB.setCell hB 1 _)⟩
 have e1 : Lib.byteCells (tx ++ s.data.toList) = Lib.byteCells tx ++ Lib.strCells s := by simp [Lib.byteCells, Lib.strCells]
 rw [e1]
 exact Lib.BuilderAt.put (T := bldT) (e := u8T) hB hb2 (bs' := Lib.byteCells tx ++ Lib.strCells s) (by simpa [Lib.strCells_length] using hown') (by decide)
theorem putByte_any (B b : Nat) (tx : Bs) (c : UInt8) (w : World) (h : Bld B b tx w) (hlen : tx.length + 1 <= 140737488355328) :
  Calls Tryz.prog 45 #[.pointer (some ⟨b, 0, none⟩), .int .u8 c.toNat] w fun e w' => e = .returned .nilIface /\ Bld B b (tx ++ [c]) w' /\ KeepB B b w w' := by
 obtain ⟨i0, hi, hz0, hz1, hz2⟩ := info_parts binfo
 have hBw : B <= w.heap.size := by have := h.lt; omega
 have e240 := enters_check
 go_enter Tryz.func45, Tryz.ntmps45
 go_wp2_with (go_at_fn 71; refine (check_any B b tx _ h).mono ?_)
 rintro e w1 ⟨rfl, h1, hb1⟩
 obtain ⟨hB, v, hbk, hown, hne⟩ := h1
 have c0 : w1.cell? ⟨b, 0, none⟩ = some (.pointer (some ⟨b, 0, none⟩)) := by rw [Lib.cell_of_heap hbk]; rfl
 have c1 : w1.cell? ⟨b, 1, none⟩ = some v := by rw [Lib.cell_of_heap hbk]; rfl
 have hlb := hid (Lib.byteCells_length tx)
 go_wp2_with (at_builtin; refine wpList_append_own _ rfl _ _ 63 rfl B u8T i0 (.int .u8 0) 1 1 Tryz.underlying63 hi hz0 hz1 hz2 rfl (by decide) _ _ _ rfl (hown.alloc _) ⟨w1.heap.size, 0, none⟩ 1 1 [.int .u8 c.toNat] rfl rfl ?c1 ?c2 ?c3 ?c4 ?c5 ?_)
 case c1 =>
  intro j u hj
  match j, hj with
  | 0, hj => simp at hj; subst hj; simp [Addr.add]
 case c2 => intro u hu; simp at hu; subst hu; rfl
 case c3 => have := hlb.out; unfold maxLen; omega
 case c4 => have := hlb.out; omega
 case c5 => have := hb1.1.size; simp; omega
 intro v' w2 hown' hgrow _
 have hlt : b < w1.heap.size := lt_of_at hbk
 have hb2 : w2.heap[b]? = some (.cells #[.pointer (some ⟨b, 0, none⟩), v] bldT (0, 0)) := by
  rw [hgrow.block b (by simp; omega) (fun e => hne e.symm), Lib.alloc_old w1 _ b hlt]
  exact hbk
 have d0 : w2.cell? ⟨b, 0, none⟩ = some (.pointer (some ⟨b, 0, none⟩)) := by rw [Lib.cell_of_heap hb2]; rfl
 have d1 : w2.cell? ⟨b, 1, none⟩ = some v := by rw [Lib.cell_of_heap hb2]; rfl
 have f1 : w2.frozen? ⟨b, 1, none⟩ = false := Lib.frozen_of_heap hb2 1
 obtain ⟨g, cap, rfl⟩ : ∃ g cap, v' = .slice (some ⟨g, 0, none⟩) ((Lib.byteCells tx).length + 1) cap := by
  rcases hown'.2 with ⟨_, h0⟩ | ⟨g, cap, cur, hv, _⟩
  ·omega
  ·exact ⟨g, cap, hv⟩
 go_wp2
 go_ret
 refine ⟨rfl, .inr ?_, ((hb1.ext ((Mod.refl _ w1).alloc _)).trans (KeepB.grown (hown.alloc _) hgrow)).trans (KeepB.setCell hB 1 _)⟩
 have e1 : Lib.byteCells (tx ++ [c]) = Lib.byteCells tx ++ [.int .u8 c.toNat] := by simp [Lib.byteCells]
 rw [e1]
 exact Lib.BuilderAt.put (T := bldT) (e := u8T) hB hb2 (bs' := Lib.byteCells tx ++ [.int .u8 c.toNat]) (by simpa using hown') (by decide)
end Go.Proofs.YtpaefpnkemkikaaGreatDoor
namespace Go.Proofs
open Go.Shelf
def Tryz.lays170_ren : Go.Shelf.Ren := ⟨fun | 170 => 46 | n => n, fun | 70 => 62 | 3 => 3 | 0 => 0 | 72 => 65 | 37 => 63 | 5 => 5 | n => n, fun | n => n⟩
theorem Tryz.lays170 : Go.Proofs.Lays.n170 Tryz.prog Tryz.lays170_ren := {
 mixed := by kernel_rfl
 f170 := Tryz.func46.trans (congrArg some (by kernel_rfl))
 t0 := Tryz.underlying0
 a0 := Tryz.isAgg0
 z0 := Tryz.sizeOf0
 v0 := Tryz.zeroValue0
 t3 := Tryz.underlying3
 a3 := Tryz.isAgg3
 z3 := Tryz.sizeOf3
 v3 := Tryz.zeroValue3
 t37 := Tryz.underlying63
 a37 := Tryz.isAgg63
 z37 := Tryz.sizeOf63
 v37 := Tryz.zeroValue63
 t70 := Tryz.underlying62
 a70 := Tryz.isAgg62
 z70 := Tryz.sizeOf62
 v70 := Tryz.zeroValue62
 t72 := Tryz.underlying65
 a72 := Tryz.isAgg65
 z72 := Tryz.sizeOf65
 v72 := Tryz.zeroValue65 }
open Go.RowKit in
theorem Tryz.Builder_Len (B b : Nat) (bs : List Value) (w : World) (h : Lib.IsBuilder 65 5 B b bs w) :
  Calls Tryz.prog 46 #[.pointer (some ⟨b, 0, none⟩)] w fun e w' => e = .returned (.int .i64 bs.length) /\ w' = w := Any.Builder_Len Tryz.lays170 B b bs w h
def Tryz.lays169_ren : Go.Shelf.Ren := ⟨fun | 169 => 47 | n => n, fun | 70 => 62 | 9 => 9 | 0 => 0 | 72 => 65 | 37 => 63 | 127 => 97 | 3 => 3 | 5 => 5 | n => n, fun | n => n⟩
theorem Tryz.lays169 : Go.Proofs.Lays.n169 Tryz.prog Tryz.lays169_ren := {
 mixed := by kernel_rfl
 f169 := Tryz.func47.trans (congrArg some (by kernel_rfl))
 t0 := Tryz.underlying0
 a0 := Tryz.isAgg0
 z0 := Tryz.sizeOf0
 v0 := Tryz.zeroValue0
 t3 := Tryz.underlying3
 a3 := Tryz.isAgg3
 z3 := Tryz.sizeOf3
 v3 := Tryz.zeroValue3
 t9 := Tryz.underlying9
 a9 := Tryz.isAgg9
 z9 := Tryz.sizeOf9
 v9 := Tryz.zeroValue9
 t37 := Tryz.underlying63
 a37 := Tryz.isAgg63
 z37 := Tryz.sizeOf63
 v37 := Tryz.zeroValue63
 t70 := Tryz.underlying62
 a70 := Tryz.isAgg62
 z70 := Tryz.sizeOf62
 v70 := Tryz.zeroValue62
 t72 := Tryz.underlying65
 a72 := Tryz.isAgg65
 z72 := Tryz.sizeOf65
 v72 := Tryz.zeroValue65
 t127 := Tryz.underlying97
 a127 := Tryz.isAgg97
 z127 := Tryz.sizeOf97
 v127 := Tryz.zeroValue97 }
theorem Tryz.Builder_Extra_169 : Builder.Extra Tryz.prog Tryz.lays169_ren := {
 sizeBuilder := by kernel_rfl
 liesBuilder := by kernel_rfl
 t5 := Tryz.underlying5
 a5 := Tryz.isAgg5
 z5 := Tryz.sizeOf5
 v5 := Tryz.zeroValue5
 infoByte := by kernel_rfl
 cellsByte := by kernel_rfl
 sizeByte := by kernel_rfl
 neB5 := by decide }
open Go.RowKit in
theorem Tryz.Builder_String_any (B b : Nat) (l : List UInt8) (w : World) (h : Lib.IsBuilder 65 5 B b (Lib.byteCells l) w) (hBw : B <= w.heap.size) :
  Calls Tryz.prog 47 #[.pointer (some ⟨b, 0, none⟩)] w fun e w' => e = .returned (.string ⟨l.toArray⟩) /\ Below B w w' := Any.Builder_String_any Tryz.lays169 Tryz.Builder_Extra_169 B b l w h hBw
def Tryz.lays156_ren : Go.Shelf.Ren := ⟨fun | 156 => 72 | 165 => 153 | 166 => 43 | 169 => 47 | 240 => 71 | 241 => 195 | 276 => 152 | 277 => 217 | n => n, fun | 31 => 22 | 9 => 9 | 3 => 3 | 4 => 4 | 0 => 0 | 20 => 20 | 72 => 65 | 76 => 68 | 70 => 62 | 37 => 63 | 75 => 67 | 127 => 97 | 164 => 129 | 5 => 5 | 80 => 73 | n => n, fun | n => n⟩
theorem Tryz.lays156 : Go.Proofs.Lays.n156 Tryz.prog Tryz.lays156_ren := {
 mixed := by kernel_rfl
 f156 := Tryz.func72.trans (congrArg some (by kernel_rfl))
 f165 := Tryz.func153.trans (congrArg some (by kernel_rfl))
 f166 := Tryz.func43.trans (congrArg some (by kernel_rfl))
 f169 := Tryz.func47.trans (congrArg some (by kernel_rfl))
 f240 := Tryz.func71.trans (congrArg some (by kernel_rfl))
 f241 := Tryz.func195.trans (congrArg some (by kernel_rfl))
 f276 := Tryz.func152.trans (congrArg some (by kernel_rfl))
 f277 := Tryz.func217.trans (congrArg some (by kernel_rfl))
 t0 := Tryz.underlying0
 a0 := Tryz.isAgg0
 z0 := Tryz.sizeOf0
 v0 := Tryz.zeroValue0
 t3 := Tryz.underlying3
 a3 := Tryz.isAgg3
 z3 := Tryz.sizeOf3
 v3 := Tryz.zeroValue3
 t4 := Tryz.underlying4
 a4 := Tryz.isAgg4
 z4 := Tryz.sizeOf4
 v4 := Tryz.zeroValue4
 t9 := Tryz.underlying9
 a9 := Tryz.isAgg9
 z9 := Tryz.sizeOf9
 v9 := Tryz.zeroValue9
 t20 := Tryz.underlying20
 a20 := Tryz.isAgg20
 z20 := Tryz.sizeOf20
 v20 := Tryz.zeroValue20
 t31 := Tryz.underlying22
 a31 := Tryz.isAgg22
 z31 := Tryz.sizeOf22
 v31 := Tryz.zeroValue22
 t37 := Tryz.underlying63
 a37 := Tryz.isAgg63
 z37 := Tryz.sizeOf63
 v37 := Tryz.zeroValue63
 t70 := Tryz.underlying62
 a70 := Tryz.isAgg62
 z70 := Tryz.sizeOf62
 v70 := Tryz.zeroValue62
 t72 := Tryz.underlying65
 a72 := Tryz.isAgg65
 z72 := Tryz.sizeOf65
 v72 := Tryz.zeroValue65
 t75 := Tryz.underlying67
 a75 := Tryz.isAgg67
 z75 := Tryz.sizeOf67
 v75 := Tryz.zeroValue67
 t76 := Tryz.underlying68
 a76 := Tryz.isAgg68
 z76 := Tryz.sizeOf68
 v76 := Tryz.zeroValue68
 t127 := Tryz.underlying97
 a127 := Tryz.isAgg97
 z127 := Tryz.sizeOf97
 v127 := Tryz.zeroValue97
 t164 := Tryz.underlying129
 a164 := Tryz.isAgg129
 z164 := Tryz.sizeOf129
 v164 := Tryz.zeroValue129 }
theorem Tryz.Builder_Extra_156 : Builder.Extra Tryz.prog Tryz.lays156_ren := {
 sizeBuilder := by kernel_rfl
 liesBuilder := by kernel_rfl
 t5 := Tryz.underlying5
 a5 := Tryz.isAgg5
 z5 := Tryz.sizeOf5
 v5 := Tryz.zeroValue5
 infoByte := by kernel_rfl
 cellsByte := by kernel_rfl
 sizeByte := by kernel_rfl
 neB5 := by decide }
open Go.RowKit in
theorem Tryz.strings_Join_none (a : Option Addr) (c : Nat) (sep : ByteArray) (w : World) :
  Calls Tryz.prog 72 #[.slice a 0 c, .string sep] w fun e w' => e = .returned (.string ⟨#[]⟩) /\ w' = w := Any.strings_Join_none Tryz.lays156 Tryz.Builder_Extra_156 a c sep w
open Go.RowKit in
theorem Tryz.strings_Join (bk o c : Nat) (xs : List ByteArray) (sep : ByteArray) (w : World) (hcells : ∀ (j : Nat) x, xs[j]? = some x -> w.cell? ⟨bk, o + j, none⟩ = some (.string x)) (hbk : bk < w.heap.size) (hN : xs.length <= 140737488355328) (hcap : xs.length <= c) (hlen : (Lib.join (xs.map (·.data.toList)) sep.data.toList).length <= 140737488355328) :
  Calls Tryz.prog 72 #[.slice (some ⟨bk, o, none⟩) xs.length c, .string sep] w fun e w' => e = .returned (.string ⟨(Lib.join (xs.map (·.data.toList)) sep.data.toList).toArray⟩) /\ Below w.heap.size w w' := Any.strings_Join Tryz.lays156 Tryz.Builder_Extra_156 bk o c xs sep w hcells hbk hN hcap hlen
def Tryz.lays137_ren : Go.Shelf.Ren := ⟨fun | 137 => 186 | 217 => 211 | 266 => 246 | n => n, fun | 9 => 9 | 5 => 5 | 3 => 3 | n => n, fun | n => n⟩
theorem Tryz.lays137 : Go.Proofs.Lays.n137 Tryz.prog Tryz.lays137_ren := {
 mixed := by kernel_rfl
 f137 := Tryz.func186.trans (congrArg some (by kernel_rfl))
 f217 := Tryz.func211.trans (congrArg some (by kernel_rfl))
 f266 := Tryz.func246.trans (congrArg some (by kernel_rfl))
 t3 := Tryz.underlying3
 a3 := Tryz.isAgg3
 z3 := Tryz.sizeOf3
 v3 := Tryz.zeroValue3
 t5 := Tryz.underlying5
 a5 := Tryz.isAgg5
 z5 := Tryz.sizeOf5
 v5 := Tryz.zeroValue5
 t9 := Tryz.underlying9
 a9 := Tryz.isAgg9
 z9 := Tryz.sizeOf9
 v9 := Tryz.zeroValue9 }
open Go.RowKit in
theorem Tryz.strings_IndexByte (s : ByteArray) (c : Int) (w : World) :
  Calls Tryz.prog 186 #[.string s, .int .u8 c] w fun e w' => e = .returned (.int .i64 (Lib.indexByte s.data.toList c.toNat.toUInt8)) /\ w' = w := Any.strings_IndexByte Tryz.lays137 s c w
def Tryz.laysM171_ren : Go.Shelf.Ren := ⟨fun | 171 => 107 | 243 => 176 | 246 => 204 | 283 => 232 | 284 => 233 | 285 => 234 | 286 => 235 | 129 => 255 | 317 => 254 | 318 => 256 | 319 => 257 | 320 => 258 | 337 => 272 | 338 => 273 | n => n, fun | 3 => 3 | 9 => 9 | 2 => 2 | 4 => 4 | 171 => 208 | 0 => 0 | 53 => 164 | 37 => 63 | 5 => 5 | 173 => 211 | 212 => 239 | 51 => 166 | 20 => 20 | 213 => 240 | 46 => 154 | 232 => 266 | 233 => 267 | n => n, fun | 17 => 3 | 18 => 6 | 19 => 7 | n => n⟩
theorem Tryz.laysM171 : Go.Proofs.LaysM.n171 Tryz.prog Tryz.laysM171_ren := {
 mixed := by kernel_rfl
 f129 := Tryz.func255.trans (congrArg some (by kernel_rfl))
 f171 := Tryz.func107.trans (congrArg some (by kernel_rfl))
 f243 := Tryz.func176.trans (congrArg some (by kernel_rfl))
 f246 := Tryz.func204.trans (congrArg some (by kernel_rfl))
 f283 := Tryz.func232.trans (congrArg some (by kernel_rfl))
 f284 := Tryz.func233.trans (congrArg some (by kernel_rfl))
 f285 := Tryz.func234.trans (congrArg some (by kernel_rfl))
 f286 := Tryz.func235.trans (congrArg some (by kernel_rfl))
 f317 := Tryz.func254.trans (congrArg some (by kernel_rfl))
 f318 := Tryz.func256.trans (congrArg some (by kernel_rfl))
 f319 := Tryz.func257.trans (congrArg some (by kernel_rfl))
 f320 := Tryz.func258.trans (congrArg some (by kernel_rfl))
 f337 := Tryz.func272.trans (congrArg some (by kernel_rfl))
 f338 := Tryz.func273.trans (congrArg some (by kernel_rfl))
 t0 := Tryz.underlying0
 a0 := Tryz.isAgg0
 z0 := Tryz.sizeOf0
 v0 := Tryz.zeroValue0
 t2 := Tryz.underlying2
 a2 := Tryz.isAgg2
 z2 := Tryz.sizeOf2
 v2 := Tryz.zeroValue2
 t3 := Tryz.underlying3
 a3 := Tryz.isAgg3
 z3 := Tryz.sizeOf3
 v3 := Tryz.zeroValue3
 t4 := Tryz.underlying4
 a4 := Tryz.isAgg4
 z4 := Tryz.sizeOf4
 v4 := Tryz.zeroValue4
 t5 := Tryz.underlying5
 a5 := Tryz.isAgg5
 z5 := Tryz.sizeOf5
 v5 := Tryz.zeroValue5
 t9 := Tryz.underlying9
 a9 := Tryz.isAgg9
 z9 := Tryz.sizeOf9
 v9 := Tryz.zeroValue9
 t20 := Tryz.underlying20
 a20 := Tryz.isAgg20
 z20 := Tryz.sizeOf20
 v20 := Tryz.zeroValue20
 t37 := Tryz.underlying63
 a37 := Tryz.isAgg63
 z37 := Tryz.sizeOf63
 v37 := Tryz.zeroValue63
 t46 := Tryz.underlying154
 a46 := Tryz.isAgg154
 z46 := Tryz.sizeOf154
 v46 := Tryz.zeroValue154
 t51 := Tryz.underlying166
 a51 := Tryz.isAgg166
 z51 := Tryz.sizeOf166
 v51 := Tryz.zeroValue166
 t53 := Tryz.underlying164
 a53 := Tryz.isAgg164
 z53 := Tryz.sizeOf164
 v53 := Tryz.zeroValue164
 t171 := Tryz.underlying208
 a171 := Tryz.isAgg208
 z171 := Tryz.sizeOf208
 v171 := Tryz.zeroValue208
 t173 := Tryz.underlying211
 a173 := Tryz.isAgg211
 z173 := Tryz.sizeOf211
 v173 := Tryz.zeroValue211
 t212 := Tryz.underlying239
 a212 := Tryz.isAgg239
 z212 := Tryz.sizeOf239
 v212 := Tryz.zeroValue239
 t213 := Tryz.underlying240
 a213 := Tryz.isAgg240
 z213 := Tryz.sizeOf240
 t232 := Tryz.underlying266
 a232 := Tryz.isAgg266
 z232 := Tryz.sizeOf266
 v232 := Tryz.zeroValue266
 t233 := Tryz.underlying267
 a233 := Tryz.isAgg267
 z233 := Tryz.sizeOf267
 v233 := Tryz.zeroValue267
 g17 := by kernel_rfl
 g18 := by kernel_rfl
 g19 := by kernel_rfl
 i0 := by kernel_rfl
 i2 := by kernel_rfl
 i3 := by kernel_rfl
 i4 := by kernel_rfl
 i5 := by kernel_rfl
 i9 := by kernel_rfl
 i20 := by kernel_rfl
 i37 := by kernel_rfl
 i46 := by kernel_rfl
 i51 := by kernel_rfl
 i53 := by kernel_rfl
 i171 := by kernel_rfl
 i173 := by kernel_rfl
 i212 := by kernel_rfl
 i232 := by kernel_rfl
 i233 := by kernel_rfl
 m17 := by kernel_rfl
 m18 := by kernel_rfl
 m19 := by kernel_rfl }
open Go.RowKit Go.Sort Go.Lib in
theorem Tryz.strconv_Itoa (n : Int) (h0 : -9223372036854775808 <= n) (h1 : n <= 9223372036854775807) (w : World) (htab : Lib.TabIs Tryz.prog w "internal/strconv.uint64pow10" .u64 Lib.pow10Tab) :
  Calls Tryz.prog 107 #[.int .i64 n] w fun e w' => e = .returned (.string ⟨(Lib.itoa n).toArray⟩) /\ ∃ k os, w' = grow (w.drewN k) os := Any.strconv_Itoa Tryz.laysM171 n h0 h1 w htab
def Tryz.laysC172_ren : Go.Shelf.Ren := ⟨fun | 172 => 205 | 244 => 236 | 245 => 237 | 247 => 259 | 279 => 260 | 280 => 261 | 281 => 262 | 282 => 263 | 287 => 274 | 316 => 275 | 171 => 107 | 205 => 276 | 321 => 285 | 322 => 286 | 243 => 176 | 246 => 204 | 283 => 232 | 284 => 233 | 285 => 234 | 286 => 235 | 129 => 255 | 317 => 254 | 318 => 256 | 319 => 257 | 320 => 258 | 337 => 272 | 338 => 273 | n => n, fun | 9 => 9 | 3 => 3 | 75 => 67 | 76 => 68 | 4 => 4 | 5 => 5 | 167 => 242 | 37 => 63 | 0 => 0 | 85 => 243 | 2 => 2 | 168 => 245 | 53 => 164 | 175 => 254 | 46 => 154 | 210 => 257 | 127 => 97 | 145 => 270 | 143 => 268 | 21 => 21 | 171 => 208 | 173 => 211 | 212 => 239 | 51 => 166 | 20 => 20 | 213 => 240 | 232 => 266 | 233 => 267 | 80 => 73 | n => n, fun | 15 => 4 | 16 => 5 | 17 => 3 | 18 => 6 | 19 => 7 | n => n⟩
theorem Tryz.laysC172 : Go.Proofs.LaysC.n172 Tryz.prog Tryz.laysC172_ren := {
 mixed := by kernel_rfl
 f129 := Tryz.func255.trans (congrArg some (by kernel_rfl))
 f171 := Tryz.func107.trans (congrArg some (by kernel_rfl))
 f172 := Tryz.func205.trans (congrArg some (by kernel_rfl))
 f205 := Tryz.func276.trans (congrArg some (by kernel_rfl))
 f243 := Tryz.func176.trans (congrArg some (by kernel_rfl))
 f244 := Tryz.func236.trans (congrArg some (by kernel_rfl))
 f245 := Tryz.func237.trans (congrArg some (by kernel_rfl))
 f246 := Tryz.func204.trans (congrArg some (by kernel_rfl))
 f247 := Tryz.func259.trans (congrArg some (by kernel_rfl))
 f279 := Tryz.func260.trans (congrArg some (by kernel_rfl))
 f280 := Tryz.func261.trans (congrArg some (by kernel_rfl))
 f281 := Tryz.func262.trans (congrArg some (by kernel_rfl))
 f282 := Tryz.func263.trans (congrArg some (by kernel_rfl))
 f283 := Tryz.func232.trans (congrArg some (by kernel_rfl))
 f284 := Tryz.func233.trans (congrArg some (by kernel_rfl))
 f285 := Tryz.func234.trans (congrArg some (by kernel_rfl))
 f286 := Tryz.func235.trans (congrArg some (by kernel_rfl))
 f287 := Tryz.func274.trans (congrArg some (by kernel_rfl))
 f316 := Tryz.func275.trans (congrArg some (by kernel_rfl))
 f317 := Tryz.func254.trans (congrArg some (by kernel_rfl))
 f318 := Tryz.func256.trans (congrArg some (by kernel_rfl))
 f319 := Tryz.func257.trans (congrArg some (by kernel_rfl))
 f320 := Tryz.func258.trans (congrArg some (by kernel_rfl))
 f321 := Tryz.func285.trans (congrArg some (by kernel_rfl))
 f322 := Tryz.func286.trans (congrArg some (by kernel_rfl))
 f337 := Tryz.func272.trans (congrArg some (by kernel_rfl))
 f338 := Tryz.func273.trans (congrArg some (by kernel_rfl))
 t0 := Tryz.underlying0
 a0 := Tryz.isAgg0
 z0 := Tryz.sizeOf0
 v0 := Tryz.zeroValue0
 t2 := Tryz.underlying2
 a2 := Tryz.isAgg2
 z2 := Tryz.sizeOf2
 v2 := Tryz.zeroValue2
 t3 := Tryz.underlying3
 a3 := Tryz.isAgg3
 z3 := Tryz.sizeOf3
 v3 := Tryz.zeroValue3
 t4 := Tryz.underlying4
 a4 := Tryz.isAgg4
 z4 := Tryz.sizeOf4
 v4 := Tryz.zeroValue4
 t5 := Tryz.underlying5
 a5 := Tryz.isAgg5
 z5 := Tryz.sizeOf5
 v5 := Tryz.zeroValue5
 t9 := Tryz.underlying9
 a9 := Tryz.isAgg9
 z9 := Tryz.sizeOf9
 v9 := Tryz.zeroValue9
 t20 := Tryz.underlying20
 a20 := Tryz.isAgg20
 z20 := Tryz.sizeOf20
 v20 := Tryz.zeroValue20
 t21 := Tryz.underlying21
 a21 := Tryz.isAgg21
 z21 := Tryz.sizeOf21
 v21 := Tryz.zeroValue21
 t37 := Tryz.underlying63
 a37 := Tryz.isAgg63
 z37 := Tryz.sizeOf63
 v37 := Tryz.zeroValue63
 t46 := Tryz.underlying154
 a46 := Tryz.isAgg154
 z46 := Tryz.sizeOf154
 v46 := Tryz.zeroValue154
 t51 := Tryz.underlying166
 a51 := Tryz.isAgg166
 z51 := Tryz.sizeOf166
 v51 := Tryz.zeroValue166
 t53 := Tryz.underlying164
 a53 := Tryz.isAgg164
 z53 := Tryz.sizeOf164
 v53 := Tryz.zeroValue164
 t75 := Tryz.underlying67
 a75 := Tryz.isAgg67
 z75 := Tryz.sizeOf67
 v75 := Tryz.zeroValue67
 t76 := Tryz.underlying68
 a76 := Tryz.isAgg68
 z76 := Tryz.sizeOf68
 v76 := Tryz.zeroValue68
 t85 := Tryz.underlying243
 a85 := Tryz.isAgg243
 z85 := Tryz.sizeOf243
 v85 := Tryz.zeroValue243
 t127 := Tryz.underlying97
 a127 := Tryz.isAgg97
 z127 := Tryz.sizeOf97
 v127 := Tryz.zeroValue97
 t143 := Tryz.underlying268
 a143 := Tryz.isAgg268
 z143 := Tryz.sizeOf268
 v143 := Tryz.zeroValue268
 t145 := Tryz.underlying270
 a145 := Tryz.isAgg270
 z145 := Tryz.sizeOf270
 v145 := Tryz.zeroValue270
 t167 := Tryz.underlying242
 a167 := Tryz.isAgg242
 z167 := Tryz.sizeOf242
 v167 := Tryz.zeroValue242
 t168 := Tryz.underlying245
 a168 := Tryz.isAgg245
 z168 := Tryz.sizeOf245
 v168 := Tryz.zeroValue245
 t171 := Tryz.underlying208
 a171 := Tryz.isAgg208
 z171 := Tryz.sizeOf208
 v171 := Tryz.zeroValue208
 t173 := Tryz.underlying211
 a173 := Tryz.isAgg211
 z173 := Tryz.sizeOf211
 v173 := Tryz.zeroValue211
 t175 := Tryz.underlying254
 a175 := Tryz.isAgg254
 z175 := Tryz.sizeOf254
 v175 := Tryz.zeroValue254
 t210 := Tryz.underlying257
 a210 := Tryz.isAgg257
 z210 := Tryz.sizeOf257
 v210 := Tryz.zeroValue257
 t212 := Tryz.underlying239
 a212 := Tryz.isAgg239
 z212 := Tryz.sizeOf239
 v212 := Tryz.zeroValue239
 t213 := Tryz.underlying240
 a213 := Tryz.isAgg240
 z213 := Tryz.sizeOf240
 t232 := Tryz.underlying266
 a232 := Tryz.isAgg266
 z232 := Tryz.sizeOf266
 v232 := Tryz.zeroValue266
 t233 := Tryz.underlying267
 a233 := Tryz.isAgg267
 z233 := Tryz.sizeOf267
 v233 := Tryz.zeroValue267
 g15 := by kernel_rfl
 g16 := by kernel_rfl
 g17 := by kernel_rfl
 g18 := by kernel_rfl
 g19 := by kernel_rfl
 t80 := Tryz.underlying73
 a80 := Tryz.isAgg73
 z80 := Tryz.sizeOf73
 v80 := Tryz.zeroValue73
 i0 := by kernel_rfl
 i2 := by kernel_rfl
 i3 := by kernel_rfl
 i4 := by kernel_rfl
 i5 := by kernel_rfl
 i9 := by kernel_rfl
 i20 := by kernel_rfl
 i21 := by kernel_rfl
 i37 := by kernel_rfl
 i46 := by kernel_rfl
 i51 := by kernel_rfl
 i53 := by kernel_rfl
 i75 := by kernel_rfl
 i76 := by kernel_rfl
 i80 := by kernel_rfl
 i85 := by kernel_rfl
 i127 := by kernel_rfl
 i143 := by kernel_rfl
 i145 := by kernel_rfl
 i167 := by kernel_rfl
 i168 := by kernel_rfl
 i171 := by kernel_rfl
 i173 := by kernel_rfl
 i175 := by kernel_rfl
 i210 := by kernel_rfl
 i212 := by kernel_rfl
 i232 := by kernel_rfl
 i233 := by kernel_rfl
 m15 := by kernel_rfl
 m16 := by kernel_rfl
 m17 := by kernel_rfl
 m18 := by kernel_rfl
 m19 := by kernel_rfl
 c0 := by kernel_rfl
 c2 := by kernel_rfl
 c3 := by kernel_rfl
 c4 := by kernel_rfl
 c5 := by kernel_rfl
 c9 := by kernel_rfl
 c20 := by kernel_rfl
 c21 := by kernel_rfl
 c37 := by kernel_rfl
 c46 := by kernel_rfl
 c51 := by kernel_rfl
 c53 := by kernel_rfl
 c75 := by kernel_rfl
 c76 := by kernel_rfl
 c80 := by kernel_rfl
 c85 := by kernel_rfl
 c127 := by kernel_rfl
 c143 := by kernel_rfl
 c145 := by kernel_rfl
 c167 := by kernel_rfl
 c168 := by kernel_rfl
 c171 := by kernel_rfl
 c173 := by kernel_rfl
 c175 := by kernel_rfl
 c210 := by kernel_rfl
 c212 := by kernel_rfl
 c213 := by kernel_rfl
 c232 := by kernel_rfl
 c233 := by kernel_rfl }
open Go.RowKit in
theorem Tryz.strconv_Atoi_ok (s : ByteArray) (hmax : s.size <= 9223372036854775806) (v : Int) (h : Lib.atoiAll s.data.toList = .ok v) (w : World) :
  Calls Tryz.prog 205 #[.string s] w fun e w' => e = .returned (.tuple #[.int .i64 v, .nilIface]) /\ (w' = w \/ ∃ t, w' = Lib.bytesWorld w 5 t) := Any.strconv_Atoi_ok Tryz.laysC172 s hmax v h w
open Go.RowKit in
theorem Tryz.strconv_Atoi_syntax_var (s : ByteArray) (hlim : s.size <= 281474976710656) (h : Lib.atoiAll s.data.toList = Lib.NumEnd.syntax) (tp : TypeId) (p : Value) (w : World) (hvar : w.var? Tryz.prog "strconv.ErrSyntax" = some #[.iface tp p]) :
  Calls Tryz.prog 205 #[.string s] w fun e w' => ∃ N, e = .returned (.tuple #[.int .i64 0, .iface 245 (.pointer (some ⟨N, 0, none⟩))]) /\ w.heap.size <= N /\ w'.heap[N]? = some (.cells #[.string ⟨#[65, 116, 111, 105]⟩, .string s, .iface tp p] 257 (0, 0)) /\ Below w.heap.size w w' := Any.strconv_Atoi_syntax_var Tryz.laysC172 s hlim h tp p w hvar
open Go.RowKit in
theorem Tryz.strconv_Atoi_range_var (s : ByteArray) (hlim : s.size <= 281474976710656) (h : Lib.atoiAll s.data.toList = .range) (tp : TypeId) (p : Value) (w : World) (hvar : w.var? Tryz.prog "strconv.ErrRange" = some #[.iface tp p]) :
  Calls Tryz.prog 205 #[.string s] w fun e w' => ∃ N, e = .returned (.tuple #[.int .i64 (Lib.atoiSat s.data.toList), .iface 245 (.pointer (some ⟨N, 0, none⟩))]) /\ w.heap.size <= N /\ w'.heap[N]? = some (.cells #[.string ⟨#[65, 116, 111, 105]⟩, .string s, .iface tp p] 257 (0, 0)) /\ Below w.heap.size w w' := Any.strconv_Atoi_range_var Tryz.laysC172 s hlim h tp p w hvar
def Tryz.lays143_ren : Go.Shelf.Ren := ⟨fun | 143 => 245 | 219 => 199 | 217 => 211 | 225 => 218 | 224 => 219 | 267 => 220 | 266 => 246 | 314 => 251 | n => n, fun | 9 => 9 | 3 => 3 | 4 => 4 | 5 => 5 | 46 => 154 | 146 => 234 | 51 => 166 | n => n, fun | 1 => 2 | n => n⟩
theorem Tryz.lays143 : Go.Proofs.Lays.n143 Tryz.prog Tryz.lays143_ren := {
 mixed := by kernel_rfl
 f143 := Tryz.func245.trans (congrArg some (by kernel_rfl))
 f217 := Tryz.func211.trans (congrArg some (by kernel_rfl))
 f219 := Tryz.func199.trans (congrArg some (by kernel_rfl))
 f224 := Tryz.func219.trans (congrArg some (by kernel_rfl))
 f225 := Tryz.func218.trans (congrArg some (by kernel_rfl))
 f266 := Tryz.func246.trans (congrArg some (by kernel_rfl))
 f267 := Tryz.func220.trans (congrArg some (by kernel_rfl))
 f314 := Tryz.func251.trans (congrArg some (by kernel_rfl))
 t3 := Tryz.underlying3
 a3 := Tryz.isAgg3
 z3 := Tryz.sizeOf3
 v3 := Tryz.zeroValue3
 t4 := Tryz.underlying4
 a4 := Tryz.isAgg4
 z4 := Tryz.sizeOf4
 v4 := Tryz.zeroValue4
 t5 := Tryz.underlying5
 a5 := Tryz.isAgg5
 z5 := Tryz.sizeOf5
 v5 := Tryz.zeroValue5
 t9 := Tryz.underlying9
 a9 := Tryz.isAgg9
 z9 := Tryz.sizeOf9
 v9 := Tryz.zeroValue9
 t46 := Tryz.underlying154
 a46 := Tryz.isAgg154
 z46 := Tryz.sizeOf154
 v46 := Tryz.zeroValue154
 t51 := Tryz.underlying166
 a51 := Tryz.isAgg166
 z51 := Tryz.sizeOf166
 v51 := Tryz.zeroValue166
 t146 := Tryz.underlying234
 a146 := Tryz.isAgg234
 z146 := Tryz.sizeOf234
 v146 := Tryz.zeroValue234
 g1 := by kernel_rfl }
open Go.RowKit Go.Lib in
theorem Tryz.strings_Index_one (s : ByteArray) (c : UInt8) (w : World) :
  Calls Tryz.prog 245 #[.string s, .string ⟨#[c]⟩] w fun e w' => e = .returned (.int .i64 (Lib.indexByte s.data.toList c)) /\ w' = w := Any.strings_Index_one Tryz.lays143 s c w
def Tryz.lays145_ren : Go.Shelf.Ren := ⟨fun | 145 => 80 | 220 => 160 | 219 => 199 | 217 => 211 | 225 => 218 | 224 => 219 | 267 => 220 | 266 => 246 | 314 => 251 | n => n, fun | 9 => 9 | 4 => 4 | 59 => 102 | 3 => 3 | 5 => 5 | 46 => 154 | 146 => 234 | 51 => 166 | n => n, fun | 1 => 2 | n => n⟩
theorem Tryz.lays145 : Go.Proofs.Lays.n145 Tryz.prog Tryz.lays145_ren := {
 mixed := by kernel_rfl
 f145 := Tryz.func80.trans (congrArg some (by kernel_rfl))
 f217 := Tryz.func211.trans (congrArg some (by kernel_rfl))
 f219 := Tryz.func199.trans (congrArg some (by kernel_rfl))
 f220 := Tryz.func160.trans (congrArg some (by kernel_rfl))
 f224 := Tryz.func219.trans (congrArg some (by kernel_rfl))
 f225 := Tryz.func218.trans (congrArg some (by kernel_rfl))
 f266 := Tryz.func246.trans (congrArg some (by kernel_rfl))
 f267 := Tryz.func220.trans (congrArg some (by kernel_rfl))
 f314 := Tryz.func251.trans (congrArg some (by kernel_rfl))
 t3 := Tryz.underlying3
 a3 := Tryz.isAgg3
 z3 := Tryz.sizeOf3
 v3 := Tryz.zeroValue3
 t4 := Tryz.underlying4
 a4 := Tryz.isAgg4
 z4 := Tryz.sizeOf4
 v4 := Tryz.zeroValue4
 t5 := Tryz.underlying5
 a5 := Tryz.isAgg5
 z5 := Tryz.sizeOf5
 v5 := Tryz.zeroValue5
 t9 := Tryz.underlying9
 a9 := Tryz.isAgg9
 z9 := Tryz.sizeOf9
 v9 := Tryz.zeroValue9
 t46 := Tryz.underlying154
 a46 := Tryz.isAgg154
 z46 := Tryz.sizeOf154
 v46 := Tryz.zeroValue154
 t51 := Tryz.underlying166
 a51 := Tryz.isAgg166
 z51 := Tryz.sizeOf166
 v51 := Tryz.zeroValue166
 t59 := Tryz.underlying102
 a59 := Tryz.isAgg102
 z59 := Tryz.sizeOf102
 v59 := Tryz.zeroValue102
 t146 := Tryz.underlying234
 a146 := Tryz.isAgg234
 z146 := Tryz.sizeOf234
 v146 := Tryz.zeroValue234
 g1 := by kernel_rfl }
open Go.RowKit Go.Lib in
theorem Tryz.strings_Cut (s sep : ByteArray) (m : Int) (w : World) (hs : s.size < 4294967281) (hm : w.cell? ⟨2, 0, none⟩ = some (.int .i64 m)) :
  Calls Tryz.prog 80 #[.string s, .string sep] w fun e w' => e = .returned (.tuple #[.string ⟨(Lib.cut s.data.toList sep.data.toList).1.toArray⟩, .string ⟨(Lib.cut s.data.toList sep.data.toList).2.1.toArray⟩, .bool (Lib.cut s.data.toList sep.data.toList).2.2]) /\ ∃ n, w' = w.drewN n := Any.strings_Cut Tryz.lays145 s sep m w hs hm
def Tryz.lays146_ren : Go.Shelf.Ren := ⟨fun | 146 => 184 | 221 => 210 | 268 => 243 | 138 => 244 | 143 => 245 | 195 => 266 | 197 => 265 | 218 => 267 | 219 => 199 | 260 => 277 | 217 => 211 | 225 => 218 | 224 => 219 | 267 => 220 | 266 => 246 | 314 => 251 | n => n, fun | 9 => 9 | 31 => 22 | 3 => 3 | 4 => 4 | 0 => 0 | 105 => 248 | 21 => 21 | 5 => 5 | 46 => 154 | 119 => 271 | 139 => 274 | 138 => 273 | 146 => 234 | 51 => 166 | n => n, fun | 1 => 2 | 3 => 8 | 4 => 9 | n => n⟩
theorem Tryz.lays146 : Go.Proofs.Lays.n146 Tryz.prog Tryz.lays146_ren := {
 mixed := by kernel_rfl
 f138 := Tryz.func244.trans (congrArg some (by kernel_rfl))
 f143 := Tryz.func245.trans (congrArg some (by kernel_rfl))
 f146 := Tryz.func184.trans (congrArg some (by kernel_rfl))
 f195 := Tryz.func266.trans (congrArg some (by kernel_rfl))
 f197 := Tryz.func265.trans (congrArg some (by kernel_rfl))
 f217 := Tryz.func211.trans (congrArg some (by kernel_rfl))
 f218 := Tryz.func267.trans (congrArg some (by kernel_rfl))
 f219 := Tryz.func199.trans (congrArg some (by kernel_rfl))
 f221 := Tryz.func210.trans (congrArg some (by kernel_rfl))
 f224 := Tryz.func219.trans (congrArg some (by kernel_rfl))
 f225 := Tryz.func218.trans (congrArg some (by kernel_rfl))
 f260 := Tryz.func277.trans (congrArg some (by kernel_rfl))
 f266 := Tryz.func246.trans (congrArg some (by kernel_rfl))
 f267 := Tryz.func220.trans (congrArg some (by kernel_rfl))
 f268 := Tryz.func243.trans (congrArg some (by kernel_rfl))
 f314 := Tryz.func251.trans (congrArg some (by kernel_rfl))
 t0 := Tryz.underlying0
 a0 := Tryz.isAgg0
 z0 := Tryz.sizeOf0
 v0 := Tryz.zeroValue0
 t3 := Tryz.underlying3
 a3 := Tryz.isAgg3
 z3 := Tryz.sizeOf3
 v3 := Tryz.zeroValue3
 t4 := Tryz.underlying4
 a4 := Tryz.isAgg4
 z4 := Tryz.sizeOf4
 v4 := Tryz.zeroValue4
 t5 := Tryz.underlying5
 a5 := Tryz.isAgg5
 z5 := Tryz.sizeOf5
 v5 := Tryz.zeroValue5
 t9 := Tryz.underlying9
 a9 := Tryz.isAgg9
 z9 := Tryz.sizeOf9
 v9 := Tryz.zeroValue9
 t21 := Tryz.underlying21
 a21 := Tryz.isAgg21
 z21 := Tryz.sizeOf21
 v21 := Tryz.zeroValue21
 t31 := Tryz.underlying22
 a31 := Tryz.isAgg22
 z31 := Tryz.sizeOf22
 v31 := Tryz.zeroValue22
 t46 := Tryz.underlying154
 a46 := Tryz.isAgg154
 z46 := Tryz.sizeOf154
 v46 := Tryz.zeroValue154
 t51 := Tryz.underlying166
 a51 := Tryz.isAgg166
 z51 := Tryz.sizeOf166
 v51 := Tryz.zeroValue166
 t105 := Tryz.underlying248
 a105 := Tryz.isAgg248
 z105 := Tryz.sizeOf248
 v105 := Tryz.zeroValue248
 t119 := Tryz.underlying271
 a119 := Tryz.isAgg271
 z119 := Tryz.sizeOf271
 t138 := Tryz.underlying273
 a138 := Tryz.isAgg273
 z138 := Tryz.sizeOf273
 v138 := Tryz.zeroValue273
 t139 := Tryz.underlying274
 a139 := Tryz.isAgg274
 z139 := Tryz.sizeOf274
 v139 := Tryz.zeroValue274
 t146 := Tryz.underlying234
 a146 := Tryz.isAgg234
 z146 := Tryz.sizeOf234
 v146 := Tryz.zeroValue234
 g1 := by kernel_rfl
 g3 := by kernel_rfl
 g4 := by kernel_rfl }
open Go.RowKit Go.Lib in
theorem Tryz.strings_Split (s sep : ByteArray) (m : Int) (w : World) (hs : s.size < 4294967281) (hm : w.cell? ⟨2, 0, none⟩ = some (.int .i64 m)) (h1 : 1 <= sep.size) :
  Calls Tryz.prog 184 #[.string s, .string sep] w fun e w' =>
   e = .returned (.slice (some ⟨w.heap.size, 0, none⟩) (Lib.countB s sep + 1) (Lib.countB s sep + 1)) /\ w' = w.alloc (.cells ((Lib.splitB sep 0 (Lib.countB s sep) s).map Value.string).toArray 9) := Any.strings_Split Tryz.lays146 (by kernel_rfl) s sep m w hs hm h1
def Tryz.lays111_ren : Go.Shelf.Ren := ⟨fun | 111 => 38 | n => n, fun | 28 => 24 | 3 => 3 | 4 => 4 | 0 => 0 | n => n, fun | n => n⟩
theorem Tryz.lays111 : Go.Proofs.Lays.n111 Tryz.prog Tryz.lays111_ren := {
 mixed := by kernel_rfl
 f111 := Tryz.func38.trans (congrArg some (by kernel_rfl))
 t0 := Tryz.underlying0
 a0 := Tryz.isAgg0
 z0 := Tryz.sizeOf0
 v0 := Tryz.zeroValue0
 t3 := Tryz.underlying3
 a3 := Tryz.isAgg3
 z3 := Tryz.sizeOf3
 v3 := Tryz.zeroValue3
 t4 := Tryz.underlying4
 a4 := Tryz.isAgg4
 z4 := Tryz.sizeOf4
 v4 := Tryz.zeroValue4
 t28 := Tryz.underlying24
 a28 := Tryz.isAgg24
 z28 := Tryz.sizeOf24
 v28 := Tryz.zeroValue24 }
open Go.RowKit Go.Lib in
theorem Tryz.slices_Equal_int (b1 o1 n c b2 o2 m d : Nat) (xs ys : List Int) (w : World) (hx : n <= xs.length) (hy : m <= ys.length) (hbig : n <= 9223372036854775807) (hbig2 : m <= 9223372036854775807) (hc1 : ∀ j, j < xs.length -> w.cell? ⟨b1, o1 + j, none⟩ = some (.int .i64 (xs.getD j 0))) (hc2 : ∀ j, j < ys.length -> w.cell? ⟨b2, o2 + j, none⟩ = some (.int .i64 (ys.getD j 0))) :
  Calls Tryz.prog 38 #[.slice (some ⟨b1, o1, none⟩) n c, .slice (some ⟨b2, o2, none⟩) m d] w fun e w' => e = .returned (.bool (xs.take n == ys.take m)) /\ ∃ q, w' = w.drewN q := Any.slices_Equal_int Tryz.lays111 b1 o1 n c b2 o2 m d xs ys w hx hy hbig hbig2 hc1 hc2
open Go.RowKit Go.Lib in
theorem Tryz.slices_Equal_int_empty (a1 a2 : Option Addr) (c m d : Nat) (w : World) (hbig2 : m <= 9223372036854775807) :
  Calls Tryz.prog 38 #[.slice a1 0 c, .slice a2 m d] w fun e w' => e = .returned (.bool (decide (m = 0))) /\ w' = w := Any.slices_Equal_int_empty Tryz.lays111 a1 a2 c m d w hbig2
def Tryz.lays193_ren : Go.Shelf.Ren := ⟨fun | 193 => 61 | n => n, fun | 31 => 22 | 9 => 9 | 4 => 4 | 3 => 3 | 0 => 0 | n => n, fun | n => n⟩
theorem Tryz.lays193 : Go.Proofs.Lays.n193 Tryz.prog Tryz.lays193_ren := {
 mixed := by kernel_rfl
 f193 := Tryz.func61.trans (congrArg some (by kernel_rfl))
 t0 := Tryz.underlying0
 a0 := Tryz.isAgg0
 z0 := Tryz.sizeOf0
 v0 := Tryz.zeroValue0
 t3 := Tryz.underlying3
 a3 := Tryz.isAgg3
 z3 := Tryz.sizeOf3
 v3 := Tryz.zeroValue3
 t4 := Tryz.underlying4
 a4 := Tryz.isAgg4
 z4 := Tryz.sizeOf4
 v4 := Tryz.zeroValue4
 t9 := Tryz.underlying9
 a9 := Tryz.isAgg9
 z9 := Tryz.sizeOf9
 v9 := Tryz.zeroValue9
 t31 := Tryz.underlying22
 a31 := Tryz.isAgg22
 z31 := Tryz.sizeOf22
 v31 := Tryz.zeroValue22 }
open Go.RowKit Go.Lib in
theorem Tryz.slices_Equal_string (b1 o1 n c b2 o2 m d : Nat) (xs ys : List ByteArray) (w : World) (hx : n <= xs.length) (hy : m <= ys.length) (hbig : n <= 9223372036854775807) (hbig2 : m <= 9223372036854775807) (hc1 : ∀ j, j < xs.length -> w.cell? ⟨b1, o1 + j, none⟩ = some (.string (xs.getD j ByteArray.empty))) (hc2 : ∀ j, j < ys.length -> w.cell? ⟨b2, o2 + j, none⟩ = some (.string (ys.getD j ByteArray.empty))) :
  Calls Tryz.prog 61 #[.slice (some ⟨b1, o1, none⟩) n c, .slice (some ⟨b2, o2, none⟩) m d] w fun e w' => e = .returned (.bool (decide (xs.take n = ys.take m))) /\ ∃ q, w' = w.drewN q := Any.slices_Equal_string Tryz.lays193 b1 o1 n c b2 o2 m d xs ys w hx hy hbig hbig2 hc1 hc2
open Go.RowKit Go.Lib in
theorem Tryz.slices_Equal_string_empty (a1 a2 : Option Addr) (c m d : Nat) (w : World) (hbig2 : m <= 9223372036854775807) :
  Calls Tryz.prog 61 #[.slice a1 0 c, .slice a2 m d] w fun e w' => e = .returned (.bool (decide (m = 0))) /\ w' = w := Any.slices_Equal_string_empty Tryz.lays193 a1 a2 c m d w hbig2
open Go.RowKit Go.Lib in
theorem Tryz.slices_Equal_int_lens (a1 a2 : Option Addr) (n c m d : Nat) (w : World) (hnm : n ≠ m) :
  Calls Tryz.prog 38 #[.slice a1 n c, .slice a2 m d] w fun e w' => e = .returned (.bool false) /\ w' = w := Any.slices_Equal_int_lens Tryz.lays111 a1 a2 n c m d w hnm
open Go.RowKit Go.Lib in
theorem Tryz.slices_Equal_string_lens (a1 a2 : Option Addr) (n c m d : Nat) (w : World) (hnm : n ≠ m) :
  Calls Tryz.prog 61 #[.slice a1 n c, .slice a2 m d] w fun e w' => e = .returned (.bool false) /\ w' = w := Any.slices_Equal_string_lens Tryz.lays193 a1 a2 n c m d w hnm
end Go.Proofs
