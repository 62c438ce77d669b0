import Derived.Test.YtpgniljgaknlpaaGreatDoorK24
/-
  'sane' answers true.
-/
namespace Go.Proofs.YtpgniljgaknlpaaGreatDoor
open Go.RowKit Cdk Tpl

def sA1 : List Nd := [.mk 1 [97] [] [] 0 [] [] [], .mk 2 [] [98] [] 0 [[117, 112, 112, 101, 114]] [] [], .mk 5 [] [102, 111, 111, 116] [] 0 [] [] []]
def sA2 : List Nd := [.mk 3 [] [108, 97, 116, 101, 115, 116] [114, 97, 105, 110] 5 [] [.mk 2 [] [116, 105, 116, 108, 101] [] 0 [] [] []] []]
def sA3 : List Nd := [.mk 4 [] [120] [] 0 [] [.mk 1 [97] [] [] 0 [] [] []] []]
def sA7 : List Nd := [.mk 1 [123] [] [] 0 [] [] [], .mk 2 [] [98] [] 0 [] [] []]
theorem sp1 : parse [97, 123, 98, 124, 117, 112, 112, 101, 114, 125, 123, 105, 110, 99, 108, 117, 100, 101, 32, 102, 111, 111, 116, 125] = .ok sA1 := by kernel_rfl
theorem sp2 : parse [123, 102, 111, 114, 32, 108, 97, 116, 101, 115, 116, 32, 34, 114, 97, 105, 110, 34, 32, 53, 125, 123, 116, 105, 116, 108, 101, 125, 123, 101, 110, 100, 125] = .ok sA2 := by kernel_rfl
theorem sp3 : parse [123, 32, 105, 102, 32, 120, 32, 125, 97, 123, 101, 108, 115, 101, 125, 123, 101, 110, 100, 125] = .ok sA3 := by kernel_rfl
theorem sp4 : parse [123, 105, 102, 32, 120, 125, 97] = .error (7, 100) := by kernel_rfl
theorem sp5 : parse [123, 105, 102, 32, 120, 125, 123, 101, 108, 115, 101, 125, 123, 101, 108, 115, 101, 125, 123, 101, 110, 100, 125] = .error (13, 100) := by kernel_rfl
theorem sq3 : Tpl.print sA3 = some [123, 105, 102, 32, 120, 125, 97, 123, 101, 110, 100, 125] := by kernel_rfl
theorem sq7 : Tpl.print sA7 = some [123, 123, 123, 98, 125] := by kernel_rfl
theorem se1 : eqL sA1 sA1 = true := by kernel_rfl
theorem se2 : eqL sA2 sA2 = true := by kernel_rfl
theorem se12 : eqL sA1 sA2 = false := by kernel_rfl
theorem ss1 : szL sA1 ≤ 1000 := Nat.le_of_ble_eq_true (by kernel_rfl)
theorem ss2 : szL sA2 ≤ 1000 := Nat.le_of_ble_eq_true (by kernel_rfl)
theorem ss3 : szL sA3 ≤ 1000 := Nat.le_of_ble_eq_true (by kernel_rfl)
theorem ss7 : szL sA7 ≤ 1000 := Nat.le_of_ble_eq_true (by kernel_rfl)

theorem Parse_ok (s : ByteArray) (w : World) {l : List Nd} (h : parse s.data.toList = .ok l) : Calls Tryz.prog 11 #[.string s] w fun e w' => ∃ ao n cap, e = .returned (.tuple #[.slice ao n cap, .int .i64 0, .int .i64 0]) ∧ NodesAt (Since w w') w' (.slice ao n cap) l ∧ Ext w w' :=
  (Parse_any s w).mono fun e w' ⟨hx, h1⟩ => by
    rw [h] at h1
    obtain ⟨v, he, hn⟩ := h1
    obtain ⟨ao, n, cap, rfl⟩ := hn.slice
    exact ⟨ao, n, cap, he, hn, hx⟩
theorem Parse_bad (s : ByteArray) (w : World) {a : Nat} {k : Int} (h : parse s.data.toList = .error (a, k)) : Calls Tryz.prog 11 #[.string s] w fun e w' => e = .returned (.tuple #[.slice none 0 0, .int .i64 (a : Nat), .int .i64 k]) ∧ Ext w w' :=
  (Parse_any s w).mono fun e w' ⟨hx, h1⟩ => by
    rw [h] at h1
    exact ⟨h1, hx⟩
theorem Print_ok {F : Nat → Prop} (v : Value) (l : List Nd) (w : World) {s : Bs} (h : Tpl.print l = some s) (hg : Gl w) (hn : NodesAt F w v l) (hF : ∀ k, F k → k < w.heap.size) (hs : szL l ≤ 1000000000) : Calls Tryz.prog 17 #[v] w fun e w' => e = .returned (.tuple #[.string ⟨s.toArray⟩, .int .i64 0]) ∧ Ext w w' :=
  (Print_sz v l w hg hn hF hs).mono fun e w' ⟨hx, h1⟩ => by
    rw [h] at h1
    exact ⟨h1, hx⟩
theorem Same_ok {F : Nat → Prop} (v1 v2 : Value) (a b : List Nd) (w : World) {r : Bool} (h : eqL a b = r) (hn1 : NodesAt F w v1 a) (hn2 : NodesAt F w v2 b) (hF : ∀ k, F k → k < w.heap.size) (hs1 : szL a ≤ 1000000000) (hs2 : szL b ≤ 1000000000) :
    Calls Tryz.prog 19 #[v1, v2] w fun e w' => e = .returned (.bool r) ∧ Ext w w' := by
  subst h; exact Same_any v1 v2 a b w hn1 hn2 hF hs1 hs2

/-- What is below the heap's size. -/
abbrev Lo (w : World) : Nat → Prop := fun k => k < w.heap.size

theorem NodesAt.lo {F : Nat → Prop} {w w' : World} {v : Value} {l : List Nd} (h : NodesAt F w v l) (hF : ∀ k, F k → k < w.heap.size) (hm : Ext w w') : NodesAt (Lo w') w' v l :=
  (h.mod hm (fun _ _ h => h)).mono (fun k hk => Nat.lt_of_lt_of_le (hF k hk) hm.size)

theorem NodesAt.since {w0 w w' : World} {v : Value} {l : List Nd} (h : NodesAt (Since w0 w) w v l) (hm : Ext w w') : NodesAt (Lo w') w' v l := h.lo (fun _ h => h.2) hm

theorem NodesAt.up {w w' : World} {v : Value} {l : List Nd} (h : NodesAt (Lo w) w v l) (hm : Ext w w') : NodesAt (Lo w') w' v l := h.lo (fun _ h => h) hm

/-- A slice of nodes that has just been made. -/
theorem NodesAt.made {w : World} (rows : List NC) (l : List Nd) (cs : List Value) (n b : Nat) (hcs : cs = rows.flatMap ncC) (hn : n = rows.length) (hbs : b = w.heap.size) (h : RowsAt (Lo w) w rows l) : NodesAt (Lo (w.alloc (.cells cs.toArray 36))) (w.alloc (.cells cs.toArray 36)) (.slice (some ⟨b, 0, none⟩) n n) l := by
  subst hcs
  subst hn
  subst hbs
  have hx := Mod.alloc (Mod.refl (fun _ => False) w) (.cells (rows.flatMap ncC).toArray 36)
  refine .mk _ _ rows l (RowIs.new w _ _) (fun b off e => ?_) ((h.mod hx (fun _ _ h => h)).mono (fun k hk => Nat.lt_of_lt_of_le hk hx.size)) (.some ⟨_, _, heap_alloc_new w _⟩ _ _)
  injection e with e; injection e with e _ _
  subst e
  show w.heap.size < _
  rw [World.size_alloc]; omega

theorem StrsAt.made {w : World} (l : List Bs) (cs : List Value) (n : Nat) (hcs : cs = l.flatMap strC) (hn : n = l.length) : StrsAt (Lo (w.alloc (.cells cs.toArray 9))) (w.alloc (.cells cs.toArray 9)) (.slice (some ⟨w.heap.size, 0, none⟩) n n) l := by
  subst hcs
  subst hn
  refine ⟨_, _, rfl, RowIs.new w _ _, fun b off e => ?_, .some ⟨_, _, heap_alloc_new w _⟩ _ _⟩
  injection e with e; injection e with e _ _
  subst e
  show w.heap.size < _
  rw [World.size_alloc]; omega

set_option maxRecDepth 100000 in
set_option maxHeartbeats 8000000 in
theorem sane_any (w : World) (hg : Gl w) : Calls Tryz.prog 9 #[] w fun e w' => e = .returned (.bool true) ∧ Ext w w' := by
  replace hg := hid hg
  go_enter Tryz.func9, Tryz.ntmps9
  go_wp2_with fail
  refine (Parse_ok ⟨#[97, 123, 98, 124, 117, 112, 112, 101, 114, 125, 123, 105, 110, 99, 108, 117, 100, 101, 32, 102, 111, 111, 116, 125]⟩ w (l := sA1) sp1).mono ?_
  rintro e w1 ⟨ao1, n1, c1, rfl, hn1, hx1⟩
  replace hx1 := hid hx1
  replace hn1 := hid hn1
  go_wp2_with fail
  refine (Parse_ok ⟨#[123, 102, 111, 114, 32, 108, 97, 116, 101, 115, 116, 32, 34, 114, 97, 105, 110, 34, 32, 53, 125, 123, 116, 105, 116, 108, 101, 125, 123, 101, 110, 100, 125]⟩ w1 (l := sA2) sp2).mono ?_
  rintro e w2 ⟨ao2, n2, c2, rfl, hn2, hx2⟩
  replace hx2 := hid hx2
  replace hn2 := hid hn2
  go_wp2_with fail
  refine (Parse_ok ⟨#[123, 32, 105, 102, 32, 120, 32, 125, 97, 123, 101, 108, 115, 101, 125, 123, 101, 110, 100, 125]⟩ w2 (l := sA3) sp3).mono ?_
  rintro e w3 ⟨ao3, n3, c3, rfl, hn3, hx3⟩
  replace hx3 := hid hx3
  replace hn3 := hid hn3
  go_wp2_with fail
  have hE3 := hid ((hx1.out.trans hx2.out).trans hx3.out)
  refine (Print_ok (F := Since w2 w3) _ sA3 w3 sq3 (hg.out.ext hE3.out) hn3.out (fun k hk => hk.2) (Nat.le_trans ss3 (by decide))).mono ?_
  rintro e w4 ⟨rfl, hx4⟩
  replace hx4 := hid hx4
  go_wp2_with fail
  refine (Parse_bad ⟨#[123, 105, 102, 32, 120, 125, 97]⟩ w4 (a := 7) (k := 100) sp4).mono ?_
  rintro e w5 ⟨rfl, hx5⟩
  replace hx5 := hid hx5
  go_wp2_with fail
  refine (Parse_bad ⟨#[123, 105, 102, 32, 120, 125, 123, 101, 108, 115, 101, 125, 123, 101, 108, 115, 101, 125, 123, 101, 110, 100, 125]⟩ w5 (a := 13) (k := 100) sp5).mono ?_
  rintro e w6 ⟨rfl, hx6⟩
  replace hx6 := hid hx6
  go_wp2_with fail
  have hE6 := hid (((hE3.out.trans hx4.out).trans hx5.out).trans hx6.out)
  have hm7 := NodesAt.made (w := w6) [⟨1, [123], [], [], 0, .slice none 0 0, .slice none 0 0, .slice none 0 0⟩, ⟨2, [], [98], [], 0, .slice none 0 0, .slice none 0 0, .slice none 0 0⟩] sA7 [.int .i64 1, .string ⟨#[123]⟩, .string ⟨#[]⟩, .string ⟨#[]⟩, .int .i64 0, .slice none 0 0, .slice none 0 0, .slice none 0 0, .int .i64 2, .string ⟨#[]⟩, .string ⟨#[98]⟩, .string ⟨#[]⟩, .int .i64 0, .slice none 0 0, .slice none 0 0, .slice none 0 0] 2 w6.heap.size rfl rfl rfl (.cons _ _ _ _ (.mk _ [] [] [] (StrsAt.nil _ _) (NodesAt.nil _ _) (NodesAt.nil _ _)) (.cons _ _ _ _ (.mk _ [] [] [] (StrsAt.nil _ _) (NodesAt.nil _ _) (NodesAt.nil _ _)) .nil))
  have hxA := Mod.alloc (Mod.refl (fun _ => False) w6) (.cells #[.int .i64 1, .string ⟨#[123]⟩, .string ⟨#[]⟩, .string ⟨#[]⟩, .int .i64 0, .slice none 0 0, .slice none 0 0, .slice none 0 0, .int .i64 2, .string ⟨#[]⟩, .string ⟨#[98]⟩, .string ⟨#[]⟩, .int .i64 0, .slice none 0 0, .slice none 0 0, .slice none 0 0] 36)
  refine (Print_ok _ sA7 _ sq7 (hg.out.ext (hE6.out.trans hxA)) hm7 (fun _ h => h) (Nat.le_trans ss7 (by decide))).mono ?_
  rintro e w7 ⟨rfl, hx7⟩
  have hE7 := hid ((hE6.out.trans hxA).trans hx7)
  have hF7 := hid ((((hx4.out.trans hx5.out).trans hx6.out).trans hxA).trans hx7)
  clear hxA hx7 hm7
  go_wp2_with fail
  have hs8 := StrsAt.made (w := w7) [[117, 112, 112, 101, 114]] [.string ⟨#[117, 112, 112, 101, 114]⟩] 1 rfl rfl
  have hxB := Mod.alloc (Mod.refl (fun _ => False) w7) (.cells #[.string ⟨#[117, 112, 112, 101, 114]⟩] 9)
  have hm8 := NodesAt.made (w := (w7.alloc (.cells #[.string ⟨#[117, 112, 112, 101, 114]⟩] 9))) [⟨1, [97], [], [], 0, .slice none 0 0, .slice none 0 0, .slice none 0 0⟩, ⟨2, [], [98], [], 0, .slice (some ⟨w7.heap.size, 0, none⟩) 1 1, .slice none 0 0, .slice none 0 0⟩, ⟨5, [], [102, 111, 111, 116], [], 0, .slice none 0 0, .slice none 0 0, .slice none 0 0⟩] sA1 [.int .i64 1, .string ⟨#[97]⟩, .string ⟨#[]⟩, .string ⟨#[]⟩, .int .i64 0, .slice none 0 0, .slice none 0 0, .slice none 0 0, .int .i64 2, .string ⟨#[]⟩, .string ⟨#[98]⟩, .string ⟨#[]⟩, .int .i64 0, .slice (some ⟨w7.heap.size, 0, none⟩) 1 1, .slice none 0 0, .slice none 0 0, .int .i64 5, .string ⟨#[]⟩, .string ⟨#[102, 111, 111, 116]⟩, .string ⟨#[]⟩, .int .i64 0, .slice none 0 0, .slice none 0 0, .slice none 0 0] 3 (w7.heap.size + 1) rfl rfl (by simp) (.cons _ _ _ _ (.mk _ [] [] [] (StrsAt.nil _ _) (NodesAt.nil _ _) (NodesAt.nil _ _)) (.cons _ _ _ _ (.mk _ [[117, 112, 112, 101, 114]] [] [] hs8 (NodesAt.nil _ _) (NodesAt.nil _ _)) (.cons _ _ _ _ (.mk _ [] [] [] (StrsAt.nil _ _) (NodesAt.nil _ _) (NodesAt.nil _ _)) .nil)))
  have hxC := hxB.alloc (.cells #[.int .i64 1, .string ⟨#[97]⟩, .string ⟨#[]⟩, .string ⟨#[]⟩, .int .i64 0, .slice none 0 0, .slice none 0 0, .slice none 0 0, .int .i64 2, .string ⟨#[]⟩, .string ⟨#[98]⟩, .string ⟨#[]⟩, .int .i64 0, .slice (some ⟨w7.heap.size, 0, none⟩) 1 1, .slice none 0 0, .slice none 0 0, .int .i64 5, .string ⟨#[]⟩, .string ⟨#[102, 111, 111, 116]⟩, .string ⟨#[]⟩, .int .i64 0, .slice none 0 0, .slice none 0 0, .slice none 0 0] 36)
  have hn1' := hn1.out.since ((hx2.out.trans hx3.out).trans (hF7.out.trans hxC))
  refine (Same_ok _ _ sA1 sA1 _ se1 hn1' hm8 (fun _ h => h) (Nat.le_trans ss1 (by decide)) (Nat.le_trans ss1 (by decide))).mono ?_
  rintro e w8 ⟨rfl, hx8⟩
  have hE8 := hid ((hE7.out.trans hxC).trans hx8)
  have hF8 := hid ((hF7.out.trans hxC).trans hx8)
  clear hxB hs8 hm8 hxC hn1' hx8
  go_wp2_with fail
  have hm9 := NodesAt.made (w := w8) [⟨2, [], [116, 105, 116, 108, 101], [], 0, .slice none 0 0, .slice none 0 0, .slice none 0 0⟩] [.mk 2 [] [116, 105, 116, 108, 101] [] 0 [] [] []] [.int .i64 2, .string ⟨#[]⟩, .string ⟨#[116, 105, 116, 108, 101]⟩, .string ⟨#[]⟩, .int .i64 0, .slice none 0 0, .slice none 0 0, .slice none 0 0] 1 w8.heap.size rfl rfl rfl (.cons _ _ _ _ (.mk _ [] [] [] (StrsAt.nil _ _) (NodesAt.nil _ _) (NodesAt.nil _ _)) .nil)
  have hxD := Mod.alloc (Mod.refl (fun _ => False) w8) (.cells #[.int .i64 2, .string ⟨#[]⟩, .string ⟨#[116, 105, 116, 108, 101]⟩, .string ⟨#[]⟩, .int .i64 0, .slice none 0 0, .slice none 0 0, .slice none 0 0] 36)
  have hm10 := NodesAt.made (w := (w8.alloc (.cells #[.int .i64 2, .string ⟨#[]⟩, .string ⟨#[116, 105, 116, 108, 101]⟩, .string ⟨#[]⟩, .int .i64 0, .slice none 0 0, .slice none 0 0, .slice none 0 0] 36))) [⟨3, [], [108, 97, 116, 101, 115, 116], [114, 97, 105, 110], 5, .slice none 0 0, .slice (some ⟨w8.heap.size, 0, none⟩) 1 1, .slice none 0 0⟩] sA2 [.int .i64 3, .string ⟨#[]⟩, .string ⟨#[108, 97, 116, 101, 115, 116]⟩, .string ⟨#[114, 97, 105, 110]⟩, .int .i64 5, .slice none 0 0, .slice (some ⟨w8.heap.size, 0, none⟩) 1 1, .slice none 0 0] 1 (w8.heap.size + 1) rfl rfl (by simp) (.cons _ _ _ _ (.mk _ [] _ [] (StrsAt.nil _ _) hm9 (NodesAt.nil _ _)) .nil)
  have hxE := hxD.alloc (.cells #[.int .i64 3, .string ⟨#[]⟩, .string ⟨#[108, 97, 116, 101, 115, 116]⟩, .string ⟨#[114, 97, 105, 110]⟩, .int .i64 5, .slice none 0 0, .slice (some ⟨w8.heap.size, 0, none⟩) 1 1, .slice none 0 0] 36)
  have hn2' := hn2.out.since (hx3.out.trans (hF8.out.trans hxE))
  refine (Same_ok _ _ sA2 sA2 _ se2 hn2' hm10 (fun _ h => h) (Nat.le_trans ss2 (by decide)) (Nat.le_trans ss2 (by decide))).mono ?_
  rintro e w9 ⟨rfl, hx9⟩
  have hE9 := hid ((hE8.out.trans hxE).trans hx9)
  have hF9 := hid ((hF8.out.trans hxE).trans hx9)
  clear hxD hm9 hm10 hxE hn2' hx9
  go_wp2_with fail
  have hn1' := hn1.out.since ((hx2.out.trans hx3.out).trans hF9.out)
  have hn2' := hn2.out.since (hx3.out.trans hF9.out)
  refine (Same_ok _ _ sA1 sA2 _ se12 hn1' hn2' (fun _ h => h) (Nat.le_trans ss1 (by decide)) (Nat.le_trans ss2 (by decide))).mono ?_
  rintro e w10 ⟨rfl, hx10⟩
  have hE10 := hid (hE9.out.trans hx10)
  clear hn1' hn2' hx10
  go_wp2_with fail
  go_ret
  exact ⟨rfl, hE10.out⟩
end Go.Proofs.YtpgniljgaknlpaaGreatDoor
