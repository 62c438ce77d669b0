import Derived.Test.YtncmhcfhbogjnaaL2
namespace Go.Proofs.Ytncmhcfhbogjnaa
open Go.RowKit Cdk

def entR (r : ByteArray × Int) : ByteArray := r.1 ++ errT r.2
def viewG (st : SiteSt) (i : Int) : List ByteArray := addrs.map fun a => entR (GetR st i a)
def viewR (st : SiteSt) (i : Int) : List ByteArray := addrs.map fun a => entR (ReadR st i a)
def viewGs (st : SiteSt) : List ByteArray := (List.range 6).flatMap fun (k : Nat) => viewG st ((k : Int) - 1)
def viewRs (st : SiteSt) (n : Nat) : List ByteArray := (List.range n).flatMap fun (k : Nat) => viewR st (k : Int)
def viewL (st : SiteSt) (n : Nat) : List ByteArray := viewGs st ++ viewRs st (n + 2)

/-- The texts are short. -/
def TxtOk (st : SiteSt) : Prop := ∀ p q, q ∈ st.txt p → q.2.size ≤ 1000

theorem getR_size {d : Txt} {a : ByteArray} (h : ∀ q ∈ d, q.2.size ≤ 1000) : (getR d a).1.size ≤ 1000 := by
  unfold getR
  cases hf : d.find? (fun p => decide (p.1 = a)) with
  | none => simp
  | some q => exact h q (List.mem_of_find?_eq_some hf)
theorem GetR_size {st : SiteSt} (h : TxtOk st) (i : Int) (a : ByteArray) : (GetR st i a).1.size ≤ 1000 := by
  unfold GetR
  split
  · exact getR_size (fun q hq => h _ q hq)
  · simp
theorem ReadR_size {st : SiteSt} (h : TxtOk st) (i : Int) (a : ByteArray) : (ReadR st i a).1.size ≤ 1000 := by
  unfold ReadR
  split
  · exact getR_size (fun q hq => h _ q hq)
  · simp
theorem errT_size (e : Int) : (errT e).size ≤ 5 := by
  unfold errT; repeat' split
  all_goals decide

theorem flat_succ {α : Type} (f : Nat → List α) (k : Nat) : (List.range (k + 1)).flatMap f = (List.range k).flatMap f ++ f k := by
  rw [List.range_succ, List.flatMap_append]; simp

theorem flat_len {α : Type} (f : Nat → List α) (c : Nat) (hf : ∀ k, (f k).length = c) (k : Nat) : ((List.range k).flatMap f).length = k * c := by
  induction k with
  | zero => simp
  | succ k ih => rw [flat_succ, List.length_append, ih, hf, Nat.add_mul]; omega

theorem addrs_len : addrs.length = 5 := rfl
theorem strC_one : ∀ y : ByteArray, ∀ u ∈ strC y, u.oneCell' = true := fun y u hu => by simp [strC] at hu; subst hu; rfl

theorem addr_at {w : World} {B k : Nat} (h : w.heap[B]? = some (.cells (addrs.flatMap strC).toArray 9 (0, 0))) (hk : k < 5) : w.cell? ⟨B, k, none⟩ = some (.string (addrs.getD k .empty)) := by
  rw [cell_of h]
  match k, hk with
  | 0, _ => rfl
  | 1, _ => rfl
  | 2, _ => rfl
  | 3, _ => rfl
  | 4, _ => rfl
  | k + 5, h => omega

set_option maxHeartbeats 4000000 in
theorem view_any {w : World} {F : Nat → Prop} {s : Nat} {st : SiteSt} (h : SiteAt w F s st) (ht : TxtOk st) (n : Nat) (hn : n < 1000) :
    Calls Try.prog 29 #[snapV s, .int .i64 n] w fun e w' => ∃ x, e = .returned x ∧ Own w' w.heap.size 9 1 strC x (viewL st n) ∧ Ext w w' := by
  have hA := hid h
  clear h
  unfold snapV
  go_enter Try.func29, Try.ntmps29
  go_wp2_with (go_at_call 24; refine (addresses_any _).mono ?_; rintro e w1 ⟨rfl, rfl⟩; unfold addrV)
  have hrow := hid (heap_alloc_new w (.cells (addrs.flatMap strC).toArray 9))
  have hE : Hid (Ext w (w.alloc (.cells (addrs.flatMap strC).toArray 9))) := hid ((Mod.refl _ w).alloc _)
  generalize (w.alloc (.cells (addrs.flatMap strC).toArray 9)) = wa at hrow hE ⊢
  go_loopg [5, 7] 6 (fun g x i wr => ∃ k : Nat, k + g = 6 ∧ i = .int .i64 ((k : Int) - 1) ∧ Own wr (w.heap.size + 1) 9 1 strC x ((List.range k).flatMap fun (k : Nat) => viewG st ((k : Int) - 1)) ∧ Ext w wr ∧ wr.heap[w.heap.size]? = some (.cells (addrs.flatMap strC).toArray 9 (0, 0)))
  case atStart => exact ⟨0, rfl, rfl, Own.nil _ _ _ _ _, hE.out, hrow.out⟩
  case round =>
    obtain ⟨k, hk, rfl, hown, hEr, hrw⟩ := hrel
    obtain ⟨wo, rfl⟩ : ∃ wo : World, wo = wr := ⟨_, rfl⟩
    have hk' : k ≤ 6 := by omega
    replace hk := hid hk
    replace hown := hid hown
    replace hEr := hid hEr
    replace hrw := hid hrw
    by_cases hlt : k < 6
    · have hd : decide ((k : Int) - 1 ≤ 4) = true := by simp; omega
      go_wp2_with fail
      go_loopg [5, 8] 5 (fun g x i wr => ∃ t : Nat, t + g = 5 ∧ i = .int .i64 (t : Int) ∧ Own wr (w.heap.size + 1) 9 1 strC x (((List.range k).flatMap fun (k : Nat) => viewG st ((k : Int) - 1)) ++ (viewG st ((k : Int) - 1)).take t) ∧ Ext w wr ∧ wr.heap[w.heap.size]? = some (.cells (addrs.flatMap strC).toArray 9 (0, 0)))
      case atStart => exact ⟨0, rfl, rfl, by simpa using hown.out, hEr.out, hrw.out⟩
      case round =>
        obtain ⟨t, ht', rfl, hown2, hE2, hrw2⟩ := hrel
        have htl : t ≤ 5 := by omega
        replace ht' := hid ht'
        replace hown2 := hid hown2
        replace hE2 := hid hE2
        by_cases hlt2 : t < 5
        · have hcell := addr_at hrw2 hlt2
          have hsz := lt_of_at hrw2
          replace hrw2 := hid hrw2
          obtain ⟨ad, had⟩ : ∃ ad, ad = addrs.getD t .empty := ⟨_, rfl⟩
          rw [← had] at hcell
          have hnext : (viewG st ((k : Int) - 1)).take (t + 1) = (viewG st ((k : Int) - 1)).take t ++ [entR (GetR st ((k : Int) - 1) ad)] := by
            have hl : t < (viewG st ((k : Int) - 1)).length := by simp [viewG, addrs_len]; omega
            rw [take_succ' hl]
            congr 2
            simp only [viewG, List.getElem_map]
            rw [had, List.getD_eq_getElem?_getD, List.getElem?_eq_getElem (by rw [addrs_len]; omega)]
            rfl
          replace had := hid had
          have hget := hid (Get_any (hA.out.mod hE2.out (fun _ _ h => h)) ((k : Int) - 1) ad)
          have hgs := GetR_size ht ((k : Int) - 1) ad
          have hes := errT_size (GetR st ((k : Int) - 1) ad).2
          have hadd : ∀ w, (Op.stringOp .add (GetR st ((k : Int) - 1) ad).1 (errT (GetR st ((k : Int) - 1) ad).2)).run Try.prog w = .ok (.string ((GetR st ((k : Int) - 1) ad).1 ++ errT (GetR st ((k : Int) - 1) ad).2)) w := fun w => run_string_add_sum w _ _ (by omega)
          have hlen : ((List.range k).flatMap fun (k : Nat) => viewG st ((k : Int) - 1)).length ≤ 1000 := by
            rw [flat_len _ 5 (fun k => by simp [viewG, addrs_len])]; omega
          have hlen2 : ((viewG st ((k : Int) - 1)).take t).length ≤ 5 := by rw [List.length_take]; omega
          replace hnext := hid hnext
          unfold snapV resV at hget
          go_wp2_with (first
            | (go_at_call 25; refine hget.out.mono ?_; rintro e w' ⟨rfl, rfl⟩)
            | (go_at_call 40; refine (errorText_any _ _).mono ?_; rintro e w' ⟨rfl, rfl⟩)
            | (at_builtin; refine wpList_app rfl _ _ _ rfl Try.underlying46 el9 rfl (hown2.out.ext ((Mod.refl _ _).alloc _)) _ 1 1 rfl [entR (GetR st ((k : Int) - 1) ad)] rfl (by exact RowIs.new _ _ _) strC_len (fun y _ => strC_one y) (by rw [List.length_append]; simp only [List.length_cons, List.length_nil]; omega) (by rw [World.size_alloc]; omega) (by simp) (fun v6 w6 H6 => ?_); go_frame))
          go_roundg (gk - 1)
          case measure => have := ht'.out; omega
          case rel =>
            have h1 := Mod.alloc (Mod.refl (fun _ => False) wr) (.cells (strC (entR (GetR st ((k : Int) - 1) ad))).toArray 9)
            have hx : Ext w w6 := (hE2.out.trans h1).then H6.out.2 (fun i hi e => by have := hown2.out.block _ e; omega)
            refine ⟨t + 1, by have := ht'.out; omega, by go_num, ?_, hx, H6.out.2.at (h1.at hrw2.out (fun h => h)) (fun e => by have := hown2.out.block _ e; omega)⟩
            rw [hnext.out, ← List.append_assoc]
            exact H6.out.1
        · obtain rfl : t = 5 := by have := ht'.out; omega
          have htk : (viewG st ((k : Int) - 1)).take 5 = viewG st ((k : Int) - 1) := List.take_of_length_le (by simp [viewG, addrs_len])
          rw [htk] at hown2
          replace hrw2 := hid hrw2
          go_wp2
          go_roundg (6 - (k + 1))
          case measure => have := hk.out; omega
          case rel =>
            refine ⟨k + 1, by omega, ?_, ?_, hE2.out, hrw2.out⟩
            · congr 1; omega
            · rw [flat_succ]; exact hown2.out
    · obtain rfl : k = 6 := by have := hk.out; omega
      have hgl : (viewGs st).length = 30 := by unfold viewGs; rw [flat_len _ 5 (fun k => by simp [viewG, addrs_len])]
      go_wp2_with fail
      go_loopg [5, 11] (n + 2) (fun g x i wr => ∃ k : Nat, k + g = n + 2 ∧ i = .int .i64 (k : Int) ∧ Own wr (w.heap.size + 1) 9 1 strC x (viewGs st ++ (List.range k).flatMap fun (k : Nat) => viewR st (k : Int)) ∧ Ext w wr ∧ wr.heap[w.heap.size]? = some (.cells (addrs.flatMap strC).toArray 9 (0, 0)))
      case atStart => exact ⟨0, by omega, rfl, by simpa [viewGs] using hown.out, hEr.out, hrw.out⟩
      case round =>
        obtain ⟨k, hk, rfl, hown, hEr, hrw⟩ := hrel
        obtain ⟨wp, rfl⟩ : ∃ wp : World, wp = wr := ⟨_, rfl⟩
        have hk' : k ≤ n + 2 := by omega
        replace hk := hid hk
        replace hown := hid hown
        replace hEr := hid hEr
        replace hrw := hid hrw
        replace hgl := hid hgl
        by_cases hlt : k < n + 2
        · have hd : decide ((k : Int) ≤ (n : Int) + 1) = true := by simp; omega
          go_wp2_with fail
          go_loopg [5, 12] 5 (fun g x i wr => ∃ t : Nat, t + g = 5 ∧ i = .int .i64 (t : Int) ∧ Own wr (w.heap.size + 1) 9 1 strC x ((viewGs st ++ (List.range k).flatMap fun (k : Nat) => viewR st (k : Int)) ++ (viewR st (k : Int)).take t) ∧ Ext w wr ∧ wr.heap[w.heap.size]? = some (.cells (addrs.flatMap strC).toArray 9 (0, 0)))
          case atStart => exact ⟨0, rfl, rfl, by simpa using hown.out, hEr.out, hrw.out⟩
          case round =>
            obtain ⟨t, ht', rfl, hown2, hE2, hrw2⟩ := hrel
            have htl : t ≤ 5 := by omega
            replace ht' := hid ht'
            replace hown2 := hid hown2
            replace hE2 := hid hE2
            by_cases hlt2 : t < 5
            · have hcell := addr_at hrw2 hlt2
              have hsz := lt_of_at hrw2
              replace hrw2 := hid hrw2
              obtain ⟨ad, had⟩ : ∃ ad, ad = addrs.getD t .empty := ⟨_, rfl⟩
              rw [← had] at hcell
              have hnext : (viewR st (k : Int)).take (t + 1) = (viewR st (k : Int)).take t ++ [entR (ReadR st (k : Int) ad)] := by
                have hl : t < (viewR st (k : Int)).length := by simp [viewR, addrs_len]; omega
                rw [take_succ' hl]
                congr 2
                simp only [viewR, List.getElem_map]
                rw [had, List.getD_eq_getElem?_getD, List.getElem?_eq_getElem (by rw [addrs_len]; omega)]
                rfl
              replace had := hid had
              have hget := hid (Read_any (hA.out.mod hE2.out (fun _ _ h => h)) (k : Int) ad)
              have hgs := ReadR_size ht (k : Int) ad
              have hes := errT_size (ReadR st (k : Int) ad).2
              have hadd : ∀ w, (Op.stringOp .add (ReadR st (k : Int) ad).1 (errT (ReadR st (k : Int) ad).2)).run Try.prog w = .ok (.string ((ReadR st (k : Int) ad).1 ++ errT (ReadR st (k : Int) ad).2)) w := fun w => run_string_add_sum w _ _ (by omega)
              have hlen : (viewGs st ++ (List.range k).flatMap fun (k : Nat) => viewR st (k : Int)).length ≤ 10000 := by
                rw [List.length_append, flat_len _ 5 (fun k => by simp [viewR, addrs_len]), hgl.out]; omega
              have hlen2 : ((viewR st (k : Int)).take t).length ≤ 5 := by rw [List.length_take]; omega
              replace hnext := hid hnext
              unfold snapV resV at hget
              go_wp2_with (first
                | (go_at_call 27; refine hget.out.mono ?_; rintro e w5 ⟨rfl, hx5⟩; replace hx5 := hid hx5; have hs5 := hx5.out.size)
                | (go_at_call 40; refine (errorText_any _ _).mono ?_; rintro e w' ⟨rfl, rfl⟩)
                | (at_builtin; refine wpList_app rfl _ _ _ rfl Try.underlying46 el9 rfl ((hown2.out.ext hx5.out).ext ((Mod.refl _ _).alloc _)) _ 1 1 rfl [entR (ReadR st (k : Int) ad)] rfl (by exact RowIs.new _ _ _) strC_len (fun y _ => strC_one y) (by rw [List.length_append]; simp only [List.length_cons, List.length_nil]; omega) (by rw [World.size_alloc]; omega) (by simp) (fun v6 w6 H6 => ?_); go_frame))
              go_roundg (gk - 1)
              case measure => have := ht'.out; omega
              case rel =>
                have h1 := Mod.alloc hx5.out (.cells (strC (entR (ReadR st (k : Int) ad))).toArray 9)
                have hx : Ext w w6 := (hE2.out.trans h1).then H6.out.2 (fun i hi e => by have := hown2.out.block _ e; omega)
                refine ⟨t + 1, by have := ht'.out; omega, by go_num, ?_, hx, H6.out.2.at (h1.at hrw2.out (fun h => h)) (fun e => by have := hown2.out.block _ e; omega)⟩
                rw [hnext.out, ← List.append_assoc]
                exact H6.out.1
            · obtain rfl : t = 5 := by have := ht'.out; omega
              have htk : (viewR st (k : Int)).take 5 = viewR st (k : Int) := List.take_of_length_le (by simp [viewR, addrs_len])
              rw [htk] at hown2
              replace hrw2 := hid hrw2
              go_wp2
              go_roundg (n + 2 - (k + 1))
              case measure => have := hk.out; omega
              case rel =>
                refine ⟨k + 1, by omega, by go_num, ?_, hE2.out, hrw2.out⟩
                rw [flat_succ, ← List.append_assoc]; exact hown2.out
        · obtain rfl : k = n + 2 := by have := hk.out; omega
          go_wp2_with fail
          go_ret
          exact ⟨_, rfl, hown.out.weaken (by omega), hEr.out⟩
end Go.Proofs.Ytncmhcfhbogjnaa
