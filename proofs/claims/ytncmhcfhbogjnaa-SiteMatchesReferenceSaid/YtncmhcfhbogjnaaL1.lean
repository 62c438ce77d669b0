import Derived.Test.YtncmhcfhbogjnaaS7
import Derived.Test.YtncmhcfhbogjnaaSched
namespace Go.Proofs.Ytncmhcfhbogjnaa
open Go.RowKit Cdk

def addrs : List ByteArray := [⟨#[102, 114, 111, 110, 116]⟩, ⟨#[115, 116, 111, 114, 121, 45, 49]⟩, ⟨#[115, 116, 111, 114, 121, 45, 50]⟩, ⟨#[116, 111, 112, 105, 99]⟩, ⟨#[102, 101, 101, 100]⟩]
def strC (s : ByteArray) : List Value := [.string s]
theorem strC_len (s : ByteArray) : (strC s).length = 1 := rfl
theorem el9 : El Try.prog 9 (.string .empty) 1 16 := ⟨by kernel_rfl, rfl, by decide, by decide⟩
theorem str_at {w : World} {ao : Option Addr} {l : List ByteArray} (hr : RowIs w ao (l.flatMap strC)) {k : Nat} (hk : k < l.length) :
    ∃ b off, ao = some ⟨b, off, none⟩ ∧ w.cell? ⟨b, off + k, none⟩ = some (.string l[k]) := by
  obtain ⟨b, off, rfl, hc⟩ := hr.at (by rw [flat_length _ 1 strC_len]; omega)
  have f := flat_get strC 1 strC_len l k 0 l[k] (List.getElem?_eq_getElem hk) (by omega)
  exact ⟨b, off, rfl, hc k _ (by simpa [strC] using f)⟩

def addrV (B : Nat) : Value := .slice (some ⟨B, 0, none⟩) 5 5
theorem addresses_any (w : World) : Calls Try.prog 24 #[] w fun e w' => e = .returned (addrV w.heap.size) ∧ w' = w.alloc (.cells (addrs.flatMap strC).toArray 9) := by
  go_enter Try.func24, Try.ntmps24
  go_wp2
  go_ret
  exact ⟨rfl, rfl⟩
theorem addr_row (w : World) : RowIs (w.alloc (.cells (addrs.flatMap strC).toArray 9)) (some ⟨w.heap.size, 0, none⟩) (addrs.flatMap strC) := RowIs.new w _ _

def errT (e : Int) : ByteArray := if e = 0 then .empty else if e = 251 then ⟨#[33, 110, 111, 110, 101]⟩ else if e = 250 then ⟨#[33, 115, 105, 116, 101]⟩ else ⟨#[33, 63]⟩
set_option maxHeartbeats 400000 in
theorem errorText_any (e : Int) (w : World) : Calls Try.prog 40 #[.int .i64 e] w fun x w' => x = .returned (.string (errT e)) ∧ w = w' := by
  by_cases h0 : e = 0
  · subst h0
    go_enter Try.func40, Try.ntmps40
    go_wp2
    go_ret
    exact ⟨rfl, rfl⟩
  by_cases h1 : e = 251
  · subst h1
    go_enter Try.func40, Try.ntmps40
    go_wp2
    go_ret
    exact ⟨rfl, rfl⟩
  by_cases h2 : e = 250
  · subst h2
    go_enter Try.func40, Try.ntmps40
    go_wp2
    go_ret
    exact ⟨rfl, rfl⟩
  have he : errT e = ⟨#[33, 63]⟩ := by unfold errT; rw [if_neg h0, if_neg h1, if_neg h2]
  have b0 : (e == 0) = false := by simpa using h0
  have b1 : (e == 251) = false := by simpa using h1
  have b2 : (e == 250) = false := by simpa using h2
  replace he := hid he
  clear h0 h1 h2
  go_enter Try.func40, Try.ntmps40
  go_wp2
  go_ret
  rw [he.out]; exact ⟨rfl, rfl⟩

theorem few_any (ao : Option Addr) (n cap : Nat) (w : World) (hn : n ≤ cap) (hc : cap ≤ 9223372036854775807) :
    Calls Try.prog 12 #[.slice ao n cap] w fun e w' => e = .returned (.slice ao (min n 40) cap) ∧ w = w' := by
  go_enter Try.func12, Try.ntmps12
  go_wp2
  all_goals go_ret
  · refine ⟨?_, rfl⟩
    rw [Nat.min_eq_right (by omega)]
    rfl
  · refine ⟨?_, rfl⟩
    rw [Nat.min_eq_left (by omega)]
    rfl

def mark1 (v : Int) : Int := IntKind.u8.wrap (IntKind.i64.wrap (65 + (IntKind.i64.wrap (v.tdiv 26)).tmod 26))
def mark2 (v : Int) : Int := IntKind.u8.wrap (IntKind.i64.wrap (97 + v.tmod 26))
def markB (v : Int) : ByteArray := strOfNums [mark1 v, mark2 v]
def bitB (n : Int) (k : Nat) : Bool := (pickI n 32 / 2 ^ k).tmod 2 == 1
def pageOf (n v : Int) (i : Nat) : Option Pg := if bitB n i then some (addrs.getD i .empty, markB v ++ addrs.getD i .empty, .slice none 0 0) else none
def pagesL (n v : Int) : List Pg := (List.range 5).filterMap (pageOf n v)
theorem el55 : El Try.prog 55 (.agg #[.string .empty, .string .empty, .slice none 0 0]) 3 56 := ⟨by kernel_rfl, rfl, by decide, by decide⟩

set_option maxHeartbeats 2000000 in
theorem pages_any (n v : Int) (w : World) (h1 : -9223372036854775808 ≤ n) (h2 : n ≤ 9223372036854775807) (hv0 : 0 ≤ v) (hv1 : v < 1000) :
    Calls Try.prog 17 #[.int .i64 n, .int .i64 v] w fun e w' => ∃ x, e = .returned x ∧ Own w' w.heap.size 55 3 pgCells x (pagesL n v) ∧ Ext w w' := by
  have hb := pickI_bd n 32 (by omega)
  go_enter Try.func17, Try.ntmps17
  go_wp2_with (go_at_call 24; refine (addresses_any _).mono ?_; rintro e w1 ⟨rfl, rfl⟩; unfold addrV)
  have hrow := hid (heap_alloc_new w (.cells (addrs.flatMap strC).toArray 9))
  have hE : Hid (Ext w (w.alloc (.cells (addrs.flatMap strC).toArray 9))) := hid ((Mod.refl _ w).alloc _)
  have hsz : w.heap.size < (w.alloc (.cells (addrs.flatMap strC).toArray 9)).heap.size := by simp
  generalize (w.alloc (.cells (addrs.flatMap strC).toArray 9)) = wa at hrow hE hsz ⊢
  go_loopg [5, 7] 5 (fun g x i wr => ∃ k : Nat, k + g = 5 ∧ i = .int .i64 k ∧ Own wr w.heap.size 55 3 pgCells x ((List.range k).filterMap (pageOf n v)) ∧ Ext w wr ∧ wr.heap[w.heap.size]? = some (.cells (addrs.flatMap strC).toArray 9 (0, 0)))
  case atStart => exact ⟨0, rfl, rfl, Own.nil _ _ _ _ _, hE.out, hrow.out⟩
  case round =>
    obtain ⟨k, hk, rfl, hown, hEr, hrw⟩ := hrel
    replace hk := hid hk
    replace hown := hid hown
    replace hEr := hid hEr
    by_cases hlt : k < 5
    · obtain ⟨ad, had⟩ : ∃ ad, ad = addrs.getD k .empty := ⟨_, rfl⟩
      have hcell : wr.cell? ⟨w.heap.size, k, none⟩ = some (.string ad) := by
        rw [had, cell_of hrw]
        match k, hlt with
        | 0, _ => rfl
        | 1, _ => rfl
        | 2, _ => rfl
        | 3, _ => rfl
        | 4, _ => rfl
        | k + 5, h => omega
      have hads : ad.size ≤ 7 := by
        rw [had]
        match k, hlt with
        | 0, _ => decide
        | 1, _ => decide
        | 2, _ => decide
        | 3, _ => decide
        | 4, _ => decide
        | k + 5, h => omega
      have hadd : ∀ w, (Op.stringOp .add (markB v) ad).run Try.prog w = .ok (.string (markB v ++ ad)) w := fun w => run_string_add_sum w _ _ (by
        have : (markB v).size = 2 := by unfold markB; rw [strOfNums_size]; rfl
        omega)
      replace hrw := hid hrw
      have hlen : ((List.range k).filterMap (pageOf n v)).length ≤ 5 := by
        have := List.length_filterMap_le (pageOf n v) (List.range k); rw [List.length_range] at this; omega
      have hsp : (List.range (k + 1)).filterMap (pageOf n v) = (List.range k).filterMap (pageOf n v) ++ (pageOf n v k).toList := by
        rw [List.range_succ, List.filterMap_append]
        congr 1
      have hbl : w.heap.size < wr.heap.size := lt_of_at hrw.out
      replace hsp := hid hsp
      go_wp2_with (go_at_call 14; refine (pick_any _ _ _ h1 h2 (by omega) (by omega)).mono ?_; rintro e w' ⟨rfl, rfl⟩)
      · have hbit : bitB n k = true := by assumption
        have hp : pageOf n v k = some (addrs.getD k .empty, markB v ++ addrs.getD k .empty, .slice none 0 0) := by unfold pageOf; rw [if_pos hbit]
        rw [hp] at hsp
        replace hp := hid hp
        replace hbit := hid hbit
        rw [← had] at hsp
        replace had := hid had
        have hx2 : Hid (Ext wr (((wr.alloc (.cells #[.int .u8 (mark1 v), .int .u8 (mark2 v)] 5)).alloc (.cells (pgCells (ad, markB v ++ ad, .slice none 0 0)).toArray 55)).drew)) := (((Mod.refl _ wr).alloc _).alloc _).drew
        have hrow2 : Hid (RowIs (((wr.alloc (.cells #[.int .u8 (mark1 v), .int .u8 (mark2 v)] 5)).alloc (.cells (pgCells (ad, markB v ++ ad, .slice none 0 0)).toArray 55)).drew) (some ⟨wr.heap.size + 1, 0, none⟩) ([(ad, markB v ++ ad, Value.slice none 0 0)].flatMap pgCells)) := by
          have := RowIs.new (wr.alloc (.cells #[.int .u8 (mark1 v), .int .u8 (mark2 v)] 5)) (pgCells (ad, markB v ++ ad, .slice none 0 0)) 55
          rw [World.size_alloc] at this
          exact this
        have hone : Hid (∀ y ∈ [(ad, markB v ++ ad, Value.slice none 0 0)], ∀ u ∈ pgCells y, u.oneCell' = true) := by
          intro y hy u hu
          simp at hy; subst hy
          simp [pgCells] at hu
          rcases hu with rfl | rfl | rfl <;> rfl
        have hconv : (convert 72 9 (.slice (some ⟨wr.heap.size, 0, none⟩) 2 2)).run Try.prog ((wr.alloc (.cells #[.int .u8 (IntKind.u8.wrap (IntKind.i64.wrap (65 + (IntKind.i64.wrap (v.tdiv 26)).tmod 26))), .int .u8 (IntKind.u8.wrap (IntKind.i64.wrap (97 + v.tmod 26)))] 5)).drew) =
            .ok (.string (markB v)) ((wr.alloc (.cells #[.int .u8 (IntKind.u8.wrap (IntKind.i64.wrap (65 + (IntKind.i64.wrap (v.tdiv 26)).tmod 26))), .int .u8 (IntKind.u8.wrap (IntKind.i64.wrap (97 + v.tmod 26)))] 5)).drew) := by
          have := run_convert_bytes_arg (P := Try.prog) (w := (wr.alloc (.cells #[.int .u8 (mark1 v), .int .u8 (mark2 v)] 5)).drew) 72 5 Try.underlying72 Try.underlying5 wr.heap.size 0 2 2 [mark1 v, mark2 v] rfl (fun i hi => by
            have hh : (wr.alloc (.cells #[.int .u8 (mark1 v), .int .u8 (mark2 v)] 5)).drew.heap[wr.heap.size]? = some (.cells #[.int .u8 (mark1 v), .int .u8 (mark2 v)] 5 (0, 0)) := heap_alloc_new wr _
            rw [cell_of hh, Nat.zero_add]
            match i, hi with
            | 0, _ => rfl
            | 1, _ => rfl
            | i + 2, h => omega) 9 Try.underlying9
          exact this
        have hcell2 : (((wr.alloc (.cells #[.int .u8 (mark1 v), .int .u8 (mark2 v)] 5)).alloc (.cells (pgCells (ad, markB v ++ ad, .slice none 0 0)).toArray 55)).drew).cell? ⟨w.heap.size, k, none⟩ = some (.string ad) := hx2.out.cell hcell (fun h => h)
        have hnb : ¬ u5.ownBlock = some w.heap.size := fun e => by
          obtain ⟨c, hc⟩ := hown.out.cells e
          rw [hrw.out] at hc
          simp at hc
        replace hcell2 := hid hcell2
        replace hnb := hid hnb
        refine wp_region_sched (fun w' => w'.cell? ⟨w.heap.size, k, none⟩ = some (.string ad)) [(0, true), (1, true), (2, true), (3, true), (4, true), (5, true), (6, true), (7, true), (8, true), (9, true), (10, true), (11, true), (12, true), (13, true), (16, true), (17, true), (18, true), (19, true), (14, false), (15, false), (20, true), (21, true), (22, false), (23, false), (24, true)] (by kernel_rfl) (by kernel_rfl) (by kernel_rfl) (by decide) hcell ?_
        simp only [schedOps, List.map_cons, List.map_nil, List.getD_cons_zero, List.getD_cons_succ]
        repeat (refine wpS_q (by rfl) ?_ (fun w' hC => ?_) ?_; rotate_left; (go_simp; try with_reducible rfl); simp only [Act.put, List.setIfInBounds_toArray, List.set_cons_zero, List.set_cons_succ])
        refine wpS_c (by rfl) (fun K hK => ?_)
        go_simp
        refine hK.out _ _ (by simp [hcell, World.cell?_alloc_some]) ?_
        clear hK K
        refine wpS_c (by rfl) (fun K hK => ?_)
        go_simp
        refine hK.out _ _ (by simp [hcell, World.cell?_alloc_some]) ?_
        clear hK K
        repeat (refine wpS_q (by rfl) ?_ (fun w' hC => ?_) ?_; rotate_left; (go_simp; try with_reducible rfl); simp only [Act.put, List.setIfInBounds_toArray, List.set_cons_zero, List.set_cons_succ])
        refine wpS_c (by rfl) (fun K hK => ?_)
        go_simp
        refine hK.out _ _ (by simp [hcell, World.cell?_alloc_some]) ?_
        clear hK K
        refine wpS_c (by rfl) (fun K hK => ?_)
        refine wp_app _ _ _ rfl Try.underlying37 el55 rfl (hown.out.ext hx2.out) _ 1 1 rfl [(ad, markB v ++ ad, .slice none 0 0)] rfl hrow2.out pgCells_len hone.out (by simp; omega) (by simp; omega) (by simp) (fun v' w' H => hK.out _ _ (H.out.2.cell hcell2.out hnb.out) ?_)
        clear hK K
        simp only [Act.put, List.setIfInBounds_toArray, List.set_cons_zero, List.set_cons_succ]
        repeat (refine wpS_q (by rfl) ?_ (fun w' hC => ?_) ?_; rotate_left; (go_simp; try with_reducible rfl); simp only [Act.put, List.setIfInBounds_toArray, List.set_cons_zero, List.set_cons_succ])
        refine wpS_nil ?_
        go_wp2
        go_roundg (gk - 1)
        case measure => have := hk.out; omega
        case rel =>
          have hx3 : Ext w w' := (hEr.out.trans hx2.out).then H.out.2 (fun i hi e => by have := hown.out.block _ e; omega)
          refine ⟨k + 1, by have := hk.out; omega, by go_num, ?_, hx3, ?_⟩
          · rw [hsp.out]; exact H.out.1
          · exact H.out.2.at (hx2.out.at hrw.out (fun h => h)) hnb.out
      · have hbit : bitB n k = false := by assumption
        have hp : pageOf n v k = none := by unfold pageOf; rw [if_neg (by simp [hbit])]
        rw [hp] at hsp
        go_roundg (gk - 1)
        case measure => have := hk.out; omega
        case rel => exact ⟨k + 1, by have := hk.out; omega, by go_num, by rw [hsp.out]; simpa using hown.out, hEr.out, hrw.out⟩
    · obtain rfl : k = 5 := by have := hk.out; omega
      go_wp2
      go_ret
      exact ⟨_, rfl, hown.out, hEr.out⟩
end Go.Proofs.Ytncmhcfhbogjnaa
