import Derived.Test.YtpaefpnkemkikaaGreatDoorC9
import Derived.Test.YtpaefpnkemkikaaGreatDoorA14
set_option maxRecDepth 100000
set_option maxHeartbeats 16000000
namespace Go.Proofs.YtpaefpnkemkikaaGreatDoor
open Go.RowKit Cdk Scr
theorem sonly_k1 (a1 : Option Addr) (n1 c1 : Nat) (a2 : Option Addr) (n2 c2 : Nat) (a3 : Option Addr) (n3 c3 : Nat) (a4 : Option Addr) (n4 c4 : Nat) (a5 : Option Addr) (n5 c5 : Nat) (fc : Fc) (n cl : Int) (tx : Bs) (fa ke : List Int) (ms : Ms) (w : World) (h : AcAt (fun k => k < w.heap.size) w ⟨⟨.slice a1 n1 c1, .slice a2 n2 c2, .slice a3 n3 c3⟩, .slice a4 n4 c4, .slice a5 n5 c5⟩ ⟨1, fc, n, cl, tx, fa, ke, ms⟩) :
  Calls Tryz.prog 28 #[.agg (acA a1 n1 c1 a2 n2 c2 a3 n3 c3 a4 n4 c4 a5 n5 c5 ⟨1, fc, n, cl, tx, fa, ke, ms⟩)] w fun e w' => e = .returned (.bool (decide ((⟨1, fc, n, cl, tx, fa, ke, ms⟩ : Ac) = onlyA ⟨1, fc, n, cl, tx, fa, ke, ms⟩))) /\ Ext w w' := by
 obtain ⟨r, hr⟩ : ∃ r, r = decide ((⟨1, fc, n, cl, tx, fa, ke, ms⟩ : Ac) = onlyA ⟨1, fc, n, cl, tx, fa, ke, ms⟩) := ⟨_, rfl⟩
 rw [<- hr]
 have hz := two_boxes w (y6 1 fc a1 n1 c1 a2 n2 c2 a3 n3 c3 n cl tx a4 n4 c4 a5 n5 c5 ms) zA9 32 32
 try dsimp only at hz
 replace hz := hid hz
 have h2 := hid (fun W (hX : Mod (fun k => w.heap.size <= k) w W) => h.mod hX (fun k h1 h2 => by omega))
 have hfin : Hid (∀ w', Mod (fun k => w.heap.size <= k) w w' -> Ext w w') := hid (fun w' h => h.mono' (fun k hk e => by omega))
 clear h
 replace hr := hid hr
 unfold acA
 try dsimp only
 go_enter Tryz.func28, Tryz.ntmps28
 go_upto_region 2 with (refine wpList_storeW rfl 32 _ _ rfl (w.heap.size + 1) _ _ 32 rfl rfl hz.out.2.2.1 rfl (by kernel_rfl) rfl (fun W H1 => ?_))
 have hA := hid (H1.out.2.at hz.out.2.1 (by omega))
 have hU := hid H1.out.1
 have hm := hid ((hz.out.1.mono (T := fun k => w.heap.size <= k) (fun _ h => h.elim)).then H1.out.2 (fun k _ e => by omega))
 clear H1 hz
 generalize hRR : w.heap.size = R at hA hU hm hfin h2 ⊢
 replace hRR := hid hRR
 have q_kd : W.cell? ⟨R, 0, none⟩ = some (.int .i64 1) := cell_of' hA.out 0
 have hAl : Hid (W.heap[R]? = some (.cells (([.int .i64 1] : List Value) ++ (((y7 fc a1 n1 c1 a2 n2 c2 a3 n3 c3) : List Value) ++ ((y8 n cl tx a4 n4 c4 a5 n5 c5 ms) : List Value))).toArray 32 (0, 0))) := hid hA.out
 have hUl : Hid (W.heap[R + 1]? = some (.cells (([.int .i64 1] : List Value) ++ (((y1) : List Value) ++ ([.int .i64 0, .int .i64 0, .string ⟨#[]⟩, .slice none 0 0, .slice none 0 0, .int .i64 0, .int .i64 0, .int .i64 0, .int .i64 0, .int .i64 0, .int .i64 0, .string ⟨#[]⟩] : List Value))).toArray 32 (0, 0))) := hid hU.out
 go_upto_region 23 with (first | (refine wpList_loadA rfl 28 _ rfl R 1 [.int .i64 1] (y7 fc a1 n1 c1 a2 n2 c2 a3 n3 c3) (y8 n cl tx a4 n4 c4 a5 n5 c5 ms) _ _ _ rfl rfl hAl.out Tryz.underlying28 rfl (by kernel_rfl) ?_) | (refine wpList_storeA rfl 28 _ _ rfl (R + 1) 1 [.int .i64 1] (y1) [.int .i64 0, .int .i64 0, .string ⟨#[]⟩, .slice none 0 0, .slice none 0 0, .int .i64 0, .int .i64 0, .int .i64 0, .int .i64 0, .int .i64 0, .int .i64 0, .string ⟨#[]⟩] (y7 fc a1 n1 c1 a2 n2 c2 a3 n3 c3) 32 rfl rfl rfl hUl.out rfl (by kernel_rfl) rfl (fun WS HS => ?_)))
 replace hA := hid (HS.out.2.at hA.out (by omega))
 replace hm := hid (hm.out.then HS.out.2 (fun k _ e => by omega))
 have hU2 := HS.out.1
 simp only [List.cons_append, List.nil_append] at hU2
 clear hU
 have hU := hid hU2
 clear HS hAl hUl hU2 q_kd
 have hh := h2.out WS hm.out
 have hS := hid (actSame_any a1 n1 c1 a2 n2 c2 a3 n3 c3 a4 n4 c4 a5 n5 c5 ⟨1, fc, n, cl, tx, fa, ke, ms⟩ a1 n1 c1 a2 n2 c2 a3 n3 c3 none 0 0 none 0 0 ((⟨1, fc, 0, 0, [], [], [], Ms.zero⟩ : Ac)) WS hh ⟨hh.fc, RowAt.nil _ _ _, RowAt.nil _ _ _⟩)
 unfold acA at hS
 try dsimp only at hS
 have hd : Hid (decide ((⟨1, fc, n, cl, tx, fa, ke, ms⟩ : Ac) = (⟨1, fc, 0, 0, [], [], [], Ms.zero⟩ : Ac)) = r) := hid (by rw [hr.out]; rfl)
 rw [hd.out] at hS
 go_wp2_with (first | (refine wpList_loadW (by rfl) 32 _ rfl R _ _ _ _ rfl hA.out Tryz.underlying32 rfl (by kernel_rfl) ?_) | (refine wpList_loadW (by rfl) 32 _ rfl (R + 1) _ _ _ _ rfl hU.out Tryz.underlying32 rfl (by kernel_rfl) ?_))
 refine hS.out.mono ?_; rintro e WE ⟨rfl, hxe⟩
 go_wp2_with fail
 go_ret
 exact ⟨rfl, hfin.out _ (hm.out.then hxe (fun _ _ h => h.elim))⟩
theorem sonly_k2 (a1 : Option Addr) (n1 c1 : Nat) (a2 : Option Addr) (n2 c2 : Nat) (a3 : Option Addr) (n3 c3 : Nat) (a4 : Option Addr) (n4 c4 : Nat) (a5 : Option Addr) (n5 c5 : Nat) (fc : Fc) (n cl : Int) (tx : Bs) (fa ke : List Int) (ms : Ms) (w : World) (h : AcAt (fun k => k < w.heap.size) w ⟨⟨.slice a1 n1 c1, .slice a2 n2 c2, .slice a3 n3 c3⟩, .slice a4 n4 c4, .slice a5 n5 c5⟩ ⟨2, fc, n, cl, tx, fa, ke, ms⟩) :
  Calls Tryz.prog 28 #[.agg (acA a1 n1 c1 a2 n2 c2 a3 n3 c3 a4 n4 c4 a5 n5 c5 ⟨2, fc, n, cl, tx, fa, ke, ms⟩)] w fun e w' => e = .returned (.bool (decide ((⟨2, fc, n, cl, tx, fa, ke, ms⟩ : Ac) = onlyA ⟨2, fc, n, cl, tx, fa, ke, ms⟩))) /\ Ext w w' := by
 obtain ⟨r, hr⟩ : ∃ r, r = decide ((⟨2, fc, n, cl, tx, fa, ke, ms⟩ : Ac) = onlyA ⟨2, fc, n, cl, tx, fa, ke, ms⟩) := ⟨_, rfl⟩
 rw [<- hr]
 have hz := two_boxes w (y6 2 fc a1 n1 c1 a2 n2 c2 a3 n3 c3 n cl tx a4 n4 c4 a5 n5 c5 ms) zA9 32 32
 try dsimp only at hz
 replace hz := hid hz
 have h2 := hid (fun W (hX : Mod (fun k => w.heap.size <= k) w W) => h.mod hX (fun k h1 h2 => by omega))
 have hfin : Hid (∀ w', Mod (fun k => w.heap.size <= k) w w' -> Ext w w') := hid (fun w' h => h.mono' (fun k hk e => by omega))
 clear h
 replace hr := hid hr
 unfold acA
 try dsimp only
 go_enter Tryz.func28, Tryz.ntmps28
 go_upto_region 2 with (refine wpList_storeW rfl 32 _ _ rfl (w.heap.size + 1) _ _ 32 rfl rfl hz.out.2.2.1 rfl (by kernel_rfl) rfl (fun W H1 => ?_))
 have hA := hid (H1.out.2.at hz.out.2.1 (by omega))
 have hU := hid H1.out.1
 have hm := hid ((hz.out.1.mono (T := fun k => w.heap.size <= k) (fun _ h => h.elim)).then H1.out.2 (fun k _ e => by omega))
 clear H1 hz
 generalize hRR : w.heap.size = R at hA hU hm hfin h2 ⊢
 replace hRR := hid hRR
 have q_kd : W.cell? ⟨R, 0, none⟩ = some (.int .i64 2) := cell_of' hA.out 0
 have s_n : W.cell? ⟨R, 24, none⟩ = some (.int .i64 n) := cell_of' hA.out 24
 have o_n : W.cell? ⟨R + 1, 24, none⟩ = some (.int .i64 0) := cell_of' hU.out 24
 have zU := free_of' hU.out
 go_upto_region 23 with (fail)
 clear zU q_kd s_n o_n
 have hU2 := (put_at' (hU.out) 24 (.int .i64 n))
 simp only [sA, sZ, sS] at hU2
 have hA2 := ((put_ne' _ 24 (.int .i64 n) (show R + 1 ≠ R by omega)).trans (hA.out))
 have hm2 := (hm.out.setCell (a := ⟨R + 1, 24, none⟩) (fun _ => by show R <= R + 1; omega) (.int .i64 n))
 clear hA hU hm
 generalize (W.setCell ⟨R + 1, 24, none⟩ (.int .i64 n)) = WS at hU2 hA2 hm2 ⊢
 have hU := hid hU2
 have hA := hid hA2
 have hm := hid hm2
 clear hU2 hA2 hm2
 have hh := h2.out WS hm.out
 have hS := hid (actSame_any a1 n1 c1 a2 n2 c2 a3 n3 c3 a4 n4 c4 a5 n5 c5 ⟨2, fc, n, cl, tx, fa, ke, ms⟩ none 0 0 none 0 0 none 0 0 none 0 0 none 0 0 ((⟨2, Fc.zero, n, 0, [], [], [], Ms.zero⟩ : Ac)) WS hh ⟨fcAt_nil _ _ _ rfl rfl rfl, RowAt.nil _ _ _, RowAt.nil _ _ _⟩)
 unfold acA at hS
 try dsimp only at hS
 have hd : Hid (decide ((⟨2, fc, n, cl, tx, fa, ke, ms⟩ : Ac) = (⟨2, Fc.zero, n, 0, [], [], [], Ms.zero⟩ : Ac)) = r) := hid (by rw [hr.out]; rfl)
 rw [hd.out] at hS
 go_wp2_with (first | (refine wpList_loadW (by rfl) 32 _ rfl R _ _ _ _ rfl hA.out Tryz.underlying32 rfl (by kernel_rfl) ?_) | (refine wpList_loadW (by rfl) 32 _ rfl (R + 1) _ _ _ _ rfl hU.out Tryz.underlying32 rfl (by kernel_rfl) ?_))
 refine hS.out.mono ?_; rintro e WE ⟨rfl, hxe⟩
 go_wp2_with fail
 go_ret
 exact ⟨rfl, hfin.out _ (hm.out.then hxe (fun _ _ h => h.elim))⟩
theorem sonly_k3 (a1 : Option Addr) (n1 c1 : Nat) (a2 : Option Addr) (n2 c2 : Nat) (a3 : Option Addr) (n3 c3 : Nat) (a4 : Option Addr) (n4 c4 : Nat) (a5 : Option Addr) (n5 c5 : Nat) (fc : Fc) (n cl : Int) (tx : Bs) (fa ke : List Int) (ms : Ms) (w : World) (h : AcAt (fun k => k < w.heap.size) w ⟨⟨.slice a1 n1 c1, .slice a2 n2 c2, .slice a3 n3 c3⟩, .slice a4 n4 c4, .slice a5 n5 c5⟩ ⟨3, fc, n, cl, tx, fa, ke, ms⟩) :
  Calls Tryz.prog 28 #[.agg (acA a1 n1 c1 a2 n2 c2 a3 n3 c3 a4 n4 c4 a5 n5 c5 ⟨3, fc, n, cl, tx, fa, ke, ms⟩)] w fun e w' => e = .returned (.bool (decide ((⟨3, fc, n, cl, tx, fa, ke, ms⟩ : Ac) = onlyA ⟨3, fc, n, cl, tx, fa, ke, ms⟩))) /\ Ext w w' := by
 obtain ⟨r, hr⟩ : ∃ r, r = decide ((⟨3, fc, n, cl, tx, fa, ke, ms⟩ : Ac) = onlyA ⟨3, fc, n, cl, tx, fa, ke, ms⟩) := ⟨_, rfl⟩
 rw [<- hr]
 have hz := two_boxes w (y6 3 fc a1 n1 c1 a2 n2 c2 a3 n3 c3 n cl tx a4 n4 c4 a5 n5 c5 ms) zA9 32 32
 try dsimp only at hz
 replace hz := hid hz
 have h2 := hid (fun W (hX : Mod (fun k => w.heap.size <= k) w W) => h.mod hX (fun k h1 h2 => by omega))
 have hfin : Hid (∀ w', Mod (fun k => w.heap.size <= k) w w' -> Ext w w') := hid (fun w' h => h.mono' (fun k hk e => by omega))
 clear h
 replace hr := hid hr
 unfold acA
 try dsimp only
 go_enter Tryz.func28, Tryz.ntmps28
 go_upto_region 2 with (refine wpList_storeW rfl 32 _ _ rfl (w.heap.size + 1) _ _ 32 rfl rfl hz.out.2.2.1 rfl (by kernel_rfl) rfl (fun W H1 => ?_))
 have hA := hid (H1.out.2.at hz.out.2.1 (by omega))
 have hU := hid H1.out.1
 have hm := hid ((hz.out.1.mono (T := fun k => w.heap.size <= k) (fun _ h => h.elim)).then H1.out.2 (fun k _ e => by omega))
 clear H1 hz
 generalize hRR : w.heap.size = R at hA hU hm hfin h2 ⊢
 replace hRR := hid hRR
 have q_kd : W.cell? ⟨R, 0, none⟩ = some (.int .i64 3) := cell_of' hA.out 0
 have s_n : W.cell? ⟨R, 24, none⟩ = some (.int .i64 n) := cell_of' hA.out 24
 have o_n : W.cell? ⟨R + 1, 24, none⟩ = some (.int .i64 0) := cell_of' hU.out 24
 have zU := free_of' hU.out
 go_upto_region 23 with (fail)
 clear zU q_kd s_n o_n
 have hU2 := (put_at' (hU.out) 24 (.int .i64 n))
 simp only [sA, sZ, sS] at hU2
 have hA2 := ((put_ne' _ 24 (.int .i64 n) (show R + 1 ≠ R by omega)).trans (hA.out))
 have hm2 := (hm.out.setCell (a := ⟨R + 1, 24, none⟩) (fun _ => by show R <= R + 1; omega) (.int .i64 n))
 clear hA hU hm
 generalize (W.setCell ⟨R + 1, 24, none⟩ (.int .i64 n)) = WS at hU2 hA2 hm2 ⊢
 have hU := hid hU2
 have hA := hid hA2
 have hm := hid hm2
 clear hU2 hA2 hm2
 have hh := h2.out WS hm.out
 have hS := hid (actSame_any a1 n1 c1 a2 n2 c2 a3 n3 c3 a4 n4 c4 a5 n5 c5 ⟨3, fc, n, cl, tx, fa, ke, ms⟩ none 0 0 none 0 0 none 0 0 none 0 0 none 0 0 ((⟨3, Fc.zero, n, 0, [], [], [], Ms.zero⟩ : Ac)) WS hh ⟨fcAt_nil _ _ _ rfl rfl rfl, RowAt.nil _ _ _, RowAt.nil _ _ _⟩)
 unfold acA at hS
 try dsimp only at hS
 have hd : Hid (decide ((⟨3, fc, n, cl, tx, fa, ke, ms⟩ : Ac) = (⟨3, Fc.zero, n, 0, [], [], [], Ms.zero⟩ : Ac)) = r) := hid (by rw [hr.out]; rfl)
 rw [hd.out] at hS
 go_wp2_with (first | (refine wpList_loadW (by rfl) 32 _ rfl R _ _ _ _ rfl hA.out Tryz.underlying32 rfl (by kernel_rfl) ?_) | (refine wpList_loadW (by rfl) 32 _ rfl (R + 1) _ _ _ _ rfl hU.out Tryz.underlying32 rfl (by kernel_rfl) ?_))
 refine hS.out.mono ?_; rintro e WE ⟨rfl, hxe⟩
 go_wp2_with fail
 go_ret
 exact ⟨rfl, hfin.out _ (hm.out.then hxe (fun _ _ h => h.elim))⟩
theorem sonly_k4 (a1 : Option Addr) (n1 c1 : Nat) (a2 : Option Addr) (n2 c2 : Nat) (a3 : Option Addr) (n3 c3 : Nat) (a4 : Option Addr) (n4 c4 : Nat) (a5 : Option Addr) (n5 c5 : Nat) (fc : Fc) (n cl : Int) (tx : Bs) (fa ke : List Int) (ms : Ms) (w : World) (h : AcAt (fun k => k < w.heap.size) w ⟨⟨.slice a1 n1 c1, .slice a2 n2 c2, .slice a3 n3 c3⟩, .slice a4 n4 c4, .slice a5 n5 c5⟩ ⟨4, fc, n, cl, tx, fa, ke, ms⟩) :
  Calls Tryz.prog 28 #[.agg (acA a1 n1 c1 a2 n2 c2 a3 n3 c3 a4 n4 c4 a5 n5 c5 ⟨4, fc, n, cl, tx, fa, ke, ms⟩)] w fun e w' => e = .returned (.bool (decide ((⟨4, fc, n, cl, tx, fa, ke, ms⟩ : Ac) = onlyA ⟨4, fc, n, cl, tx, fa, ke, ms⟩))) /\ Ext w w' := by
 obtain ⟨r, hr⟩ : ∃ r, r = decide ((⟨4, fc, n, cl, tx, fa, ke, ms⟩ : Ac) = onlyA ⟨4, fc, n, cl, tx, fa, ke, ms⟩) := ⟨_, rfl⟩
 rw [<- hr]
 have hz := two_boxes w (y6 4 fc a1 n1 c1 a2 n2 c2 a3 n3 c3 n cl tx a4 n4 c4 a5 n5 c5 ms) zA9 32 32
 try dsimp only at hz
 replace hz := hid hz
 have h2 := hid (fun W (hX : Mod (fun k => w.heap.size <= k) w W) => h.mod hX (fun k h1 h2 => by omega))
 have hfin : Hid (∀ w', Mod (fun k => w.heap.size <= k) w w' -> Ext w w') := hid (fun w' h => h.mono' (fun k hk e => by omega))
 clear h
 replace hr := hid hr
 unfold acA
 try dsimp only
 go_enter Tryz.func28, Tryz.ntmps28
 go_upto_region 2 with (refine wpList_storeW rfl 32 _ _ rfl (w.heap.size + 1) _ _ 32 rfl rfl hz.out.2.2.1 rfl (by kernel_rfl) rfl (fun W H1 => ?_))
 have hA := hid (H1.out.2.at hz.out.2.1 (by omega))
 have hU := hid H1.out.1
 have hm := hid ((hz.out.1.mono (T := fun k => w.heap.size <= k) (fun _ h => h.elim)).then H1.out.2 (fun k _ e => by omega))
 clear H1 hz
 generalize hRR : w.heap.size = R at hA hU hm hfin h2 ⊢
 replace hRR := hid hRR
 have q_kd : W.cell? ⟨R, 0, none⟩ = some (.int .i64 4) := cell_of' hA.out 0
 have s_fa : W.cell? ⟨R, 27, none⟩ = some (.slice a4 n4 c4) := cell_of' hA.out 27
 have o_fa : W.cell? ⟨R + 1, 27, none⟩ = some (.slice none 0 0) := cell_of' hU.out 27
 have zU := free_of' hU.out
 go_upto_region 23 with (fail)
 clear zU q_kd s_fa o_fa
 have hU2 := (put_at' (hU.out) 27 (.slice a4 n4 c4))
 simp only [sA, sZ, sS] at hU2
 have hA2 := ((put_ne' _ 27 (.slice a4 n4 c4) (show R + 1 ≠ R by omega)).trans (hA.out))
 have hm2 := (hm.out.setCell (a := ⟨R + 1, 27, none⟩) (fun _ => by show R <= R + 1; omega) (.slice a4 n4 c4))
 clear hA hU hm
 generalize (W.setCell ⟨R + 1, 27, none⟩ (.slice a4 n4 c4)) = WS at hU2 hA2 hm2 ⊢
 have hU := hid hU2
 have hA := hid hA2
 have hm := hid hm2
 clear hU2 hA2 hm2
 have hh := h2.out WS hm.out
 have hS := hid (actSame_any a1 n1 c1 a2 n2 c2 a3 n3 c3 a4 n4 c4 a5 n5 c5 ⟨4, fc, n, cl, tx, fa, ke, ms⟩ none 0 0 none 0 0 none 0 0 a4 n4 c4 none 0 0 ((⟨4, Fc.zero, 0, 0, [], fa, [], Ms.zero⟩ : Ac)) WS hh ⟨fcAt_nil _ _ _ rfl rfl rfl, hh.fa, RowAt.nil _ _ _⟩)
 unfold acA at hS
 try dsimp only at hS
 have hd : Hid (decide ((⟨4, fc, n, cl, tx, fa, ke, ms⟩ : Ac) = (⟨4, Fc.zero, 0, 0, [], fa, [], Ms.zero⟩ : Ac)) = r) := hid (by rw [hr.out]; rfl)
 rw [hd.out] at hS
 go_wp2_with (first | (refine wpList_loadW (by rfl) 32 _ rfl R _ _ _ _ rfl hA.out Tryz.underlying32 rfl (by kernel_rfl) ?_) | (refine wpList_loadW (by rfl) 32 _ rfl (R + 1) _ _ _ _ rfl hU.out Tryz.underlying32 rfl (by kernel_rfl) ?_))
 refine hS.out.mono ?_; rintro e WE ⟨rfl, hxe⟩
 go_wp2_with fail
 go_ret
 exact ⟨rfl, hfin.out _ (hm.out.then hxe (fun _ _ h => h.elim))⟩
theorem sonly_k5 (a1 : Option Addr) (n1 c1 : Nat) (a2 : Option Addr) (n2 c2 : Nat) (a3 : Option Addr) (n3 c3 : Nat) (a4 : Option Addr) (n4 c4 : Nat) (a5 : Option Addr) (n5 c5 : Nat) (fc : Fc) (n cl : Int) (tx : Bs) (fa ke : List Int) (ms : Ms) (w : World) (h : AcAt (fun k => k < w.heap.size) w ⟨⟨.slice a1 n1 c1, .slice a2 n2 c2, .slice a3 n3 c3⟩, .slice a4 n4 c4, .slice a5 n5 c5⟩ ⟨5, fc, n, cl, tx, fa, ke, ms⟩) :
  Calls Tryz.prog 28 #[.agg (acA a1 n1 c1 a2 n2 c2 a3 n3 c3 a4 n4 c4 a5 n5 c5 ⟨5, fc, n, cl, tx, fa, ke, ms⟩)] w fun e w' => e = .returned (.bool (decide ((⟨5, fc, n, cl, tx, fa, ke, ms⟩ : Ac) = onlyA ⟨5, fc, n, cl, tx, fa, ke, ms⟩))) /\ Ext w w' := by
 obtain ⟨r, hr⟩ : ∃ r, r = decide ((⟨5, fc, n, cl, tx, fa, ke, ms⟩ : Ac) = onlyA ⟨5, fc, n, cl, tx, fa, ke, ms⟩) := ⟨_, rfl⟩
 rw [<- hr]
 have hz := two_boxes w (y6 5 fc a1 n1 c1 a2 n2 c2 a3 n3 c3 n cl tx a4 n4 c4 a5 n5 c5 ms) zA9 32 32
 try dsimp only at hz
 replace hz := hid hz
 have h2 := hid (fun W (hX : Mod (fun k => w.heap.size <= k) w W) => h.mod hX (fun k h1 h2 => by omega))
 have hfin : Hid (∀ w', Mod (fun k => w.heap.size <= k) w w' -> Ext w w') := hid (fun w' h => h.mono' (fun k hk e => by omega))
 clear h
 replace hr := hid hr
 unfold acA
 try dsimp only
 go_enter Tryz.func28, Tryz.ntmps28
 go_upto_region 2 with (refine wpList_storeW rfl 32 _ _ rfl (w.heap.size + 1) _ _ 32 rfl rfl hz.out.2.2.1 rfl (by kernel_rfl) rfl (fun W H1 => ?_))
 have hA := hid (H1.out.2.at hz.out.2.1 (by omega))
 have hU := hid H1.out.1
 have hm := hid ((hz.out.1.mono (T := fun k => w.heap.size <= k) (fun _ h => h.elim)).then H1.out.2 (fun k _ e => by omega))
 clear H1 hz
 generalize hRR : w.heap.size = R at hA hU hm hfin h2 ⊢
 replace hRR := hid hRR
 have q_kd : W.cell? ⟨R, 0, none⟩ = some (.int .i64 5) := cell_of' hA.out 0
 have s_n : W.cell? ⟨R, 24, none⟩ = some (.int .i64 n) := cell_of' hA.out 24
 have o_n : W.cell? ⟨R + 1, 24, none⟩ = some (.int .i64 0) := cell_of' hU.out 24
 have s_ke : W.cell? ⟨R, 28, none⟩ = some (.slice a5 n5 c5) := cell_of' hA.out 28
 have o_ke : W.cell? ⟨R + 1, 28, none⟩ = some (.slice none 0 0) := cell_of' hU.out 28
 have zU := free_of' hU.out
 go_upto_region 23 with (fail)
 clear zU q_kd s_n o_n s_ke o_ke
 have hU2 := (put_at' ((put_at' (hU.out) 24 (.int .i64 n))) 28 (.slice a5 n5 c5))
 simp only [sA, sZ, sS] at hU2
 have hA2 := ((put_ne' _ 28 (.slice a5 n5 c5) (show R + 1 ≠ R by omega)).trans (((put_ne' _ 24 (.int .i64 n) (show R + 1 ≠ R by omega)).trans (hA.out))))
 have hm2 := ((hm.out.setCell (a := ⟨R + 1, 24, none⟩) (fun _ => by show R <= R + 1; omega) (.int .i64 n)).setCell (a := ⟨R + 1, 28, none⟩) (fun _ => by show R <= R + 1; omega) (.slice a5 n5 c5))
 clear hA hU hm
 generalize ((W.setCell ⟨R + 1, 24, none⟩ (.int .i64 n)).setCell ⟨R + 1, 28, none⟩ (.slice a5 n5 c5)) = WS at hU2 hA2 hm2 ⊢
 have hU := hid hU2
 have hA := hid hA2
 have hm := hid hm2
 clear hU2 hA2 hm2
 have hh := h2.out WS hm.out
 have hS := hid (actSame_any a1 n1 c1 a2 n2 c2 a3 n3 c3 a4 n4 c4 a5 n5 c5 ⟨5, fc, n, cl, tx, fa, ke, ms⟩ none 0 0 none 0 0 none 0 0 none 0 0 a5 n5 c5 ((⟨5, Fc.zero, n, 0, [], [], ke, Ms.zero⟩ : Ac)) WS hh ⟨fcAt_nil _ _ _ rfl rfl rfl, RowAt.nil _ _ _, hh.ke⟩)
 unfold acA at hS
 try dsimp only at hS
 have hd : Hid (decide ((⟨5, fc, n, cl, tx, fa, ke, ms⟩ : Ac) = (⟨5, Fc.zero, n, 0, [], [], ke, Ms.zero⟩ : Ac)) = r) := hid (by rw [hr.out]; rfl)
 rw [hd.out] at hS
 go_wp2_with (first | (refine wpList_loadW (by rfl) 32 _ rfl R _ _ _ _ rfl hA.out Tryz.underlying32 rfl (by kernel_rfl) ?_) | (refine wpList_loadW (by rfl) 32 _ rfl (R + 1) _ _ _ _ rfl hU.out Tryz.underlying32 rfl (by kernel_rfl) ?_))
 refine hS.out.mono ?_; rintro e WE ⟨rfl, hxe⟩
 go_wp2_with fail
 go_ret
 exact ⟨rfl, hfin.out _ (hm.out.then hxe (fun _ _ h => h.elim))⟩
theorem sonly_k6 (a1 : Option Addr) (n1 c1 : Nat) (a2 : Option Addr) (n2 c2 : Nat) (a3 : Option Addr) (n3 c3 : Nat) (a4 : Option Addr) (n4 c4 : Nat) (a5 : Option Addr) (n5 c5 : Nat) (fc : Fc) (n cl : Int) (tx : Bs) (fa ke : List Int) (ms : Ms) (w : World) (h : AcAt (fun k => k < w.heap.size) w ⟨⟨.slice a1 n1 c1, .slice a2 n2 c2, .slice a3 n3 c3⟩, .slice a4 n4 c4, .slice a5 n5 c5⟩ ⟨6, fc, n, cl, tx, fa, ke, ms⟩) :
  Calls Tryz.prog 28 #[.agg (acA a1 n1 c1 a2 n2 c2 a3 n3 c3 a4 n4 c4 a5 n5 c5 ⟨6, fc, n, cl, tx, fa, ke, ms⟩)] w fun e w' => e = .returned (.bool (decide ((⟨6, fc, n, cl, tx, fa, ke, ms⟩ : Ac) = onlyA ⟨6, fc, n, cl, tx, fa, ke, ms⟩))) /\ Ext w w' := by
 obtain ⟨r, hr⟩ : ∃ r, r = decide ((⟨6, fc, n, cl, tx, fa, ke, ms⟩ : Ac) = onlyA ⟨6, fc, n, cl, tx, fa, ke, ms⟩) := ⟨_, rfl⟩
 rw [<- hr]
 have hz := two_boxes w (y6 6 fc a1 n1 c1 a2 n2 c2 a3 n3 c3 n cl tx a4 n4 c4 a5 n5 c5 ms) zA9 32 32
 try dsimp only at hz
 replace hz := hid hz
 have h2 := hid (fun W (hX : Mod (fun k => w.heap.size <= k) w W) => h.mod hX (fun k h1 h2 => by omega))
 have hfin : Hid (∀ w', Mod (fun k => w.heap.size <= k) w w' -> Ext w w') := hid (fun w' h => h.mono' (fun k hk e => by omega))
 clear h
 replace hr := hid hr
 unfold acA
 try dsimp only
 go_enter Tryz.func28, Tryz.ntmps28
 go_upto_region 2 with (refine wpList_storeW rfl 32 _ _ rfl (w.heap.size + 1) _ _ 32 rfl rfl hz.out.2.2.1 rfl (by kernel_rfl) rfl (fun W H1 => ?_))
 have hA := hid (H1.out.2.at hz.out.2.1 (by omega))
 have hU := hid H1.out.1
 have hm := hid ((hz.out.1.mono (T := fun k => w.heap.size <= k) (fun _ h => h.elim)).then H1.out.2 (fun k _ e => by omega))
 clear H1 hz
 generalize hRR : w.heap.size = R at hA hU hm hfin h2 ⊢
 replace hRR := hid hRR
 have q_kd : W.cell? ⟨R, 0, none⟩ = some (.int .i64 6) := cell_of' hA.out 0
 have s_cl : W.cell? ⟨R, 25, none⟩ = some (.int .i64 cl) := cell_of' hA.out 25
 have o_cl : W.cell? ⟨R + 1, 25, none⟩ = some (.int .i64 0) := cell_of' hU.out 25
 have s_tx : W.cell? ⟨R, 26, none⟩ = some (.string ⟨tx.toArray⟩) := cell_of' hA.out 26
 have o_tx : W.cell? ⟨R + 1, 26, none⟩ = some (.string ⟨#[]⟩) := cell_of' hU.out 26
 have zU := free_of' hU.out
 go_upto_region 23 with (fail)
 clear zU q_kd s_cl o_cl s_tx o_tx
 have hU2 := (put_at' ((put_at' (hU.out) 25 (.int .i64 cl))) 26 (.string ⟨tx.toArray⟩))
 simp only [sA, sZ, sS] at hU2
 have hA2 := ((put_ne' _ 26 (.string ⟨tx.toArray⟩) (show R + 1 ≠ R by omega)).trans (((put_ne' _ 25 (.int .i64 cl) (show R + 1 ≠ R by omega)).trans (hA.out))))
 have hm2 := ((hm.out.setCell (a := ⟨R + 1, 25, none⟩) (fun _ => by show R <= R + 1; omega) (.int .i64 cl)).setCell (a := ⟨R + 1, 26, none⟩) (fun _ => by show R <= R + 1; omega) (.string ⟨tx.toArray⟩))
 clear hA hU hm
 generalize ((W.setCell ⟨R + 1, 25, none⟩ (.int .i64 cl)).setCell ⟨R + 1, 26, none⟩ (.string ⟨tx.toArray⟩)) = WS at hU2 hA2 hm2 ⊢
 have hU := hid hU2
 have hA := hid hA2
 have hm := hid hm2
 clear hU2 hA2 hm2
 have hh := h2.out WS hm.out
 have hS := hid (actSame_any a1 n1 c1 a2 n2 c2 a3 n3 c3 a4 n4 c4 a5 n5 c5 ⟨6, fc, n, cl, tx, fa, ke, ms⟩ none 0 0 none 0 0 none 0 0 none 0 0 none 0 0 ((⟨6, Fc.zero, 0, cl, tx, [], [], Ms.zero⟩ : Ac)) WS hh ⟨fcAt_nil _ _ _ rfl rfl rfl, RowAt.nil _ _ _, RowAt.nil _ _ _⟩)
 unfold acA at hS
 try dsimp only at hS
 have hd : Hid (decide ((⟨6, fc, n, cl, tx, fa, ke, ms⟩ : Ac) = (⟨6, Fc.zero, 0, cl, tx, [], [], Ms.zero⟩ : Ac)) = r) := hid (by rw [hr.out]; rfl)
 rw [hd.out] at hS
 go_wp2_with (first | (refine wpList_loadW (by rfl) 32 _ rfl R _ _ _ _ rfl hA.out Tryz.underlying32 rfl (by kernel_rfl) ?_) | (refine wpList_loadW (by rfl) 32 _ rfl (R + 1) _ _ _ _ rfl hU.out Tryz.underlying32 rfl (by kernel_rfl) ?_))
 refine hS.out.mono ?_; rintro e WE ⟨rfl, hxe⟩
 go_wp2_with fail
 go_ret
 exact ⟨rfl, hfin.out _ (hm.out.then hxe (fun _ _ h => h.elim))⟩
theorem sonly_k7 (a1 : Option Addr) (n1 c1 : Nat) (a2 : Option Addr) (n2 c2 : Nat) (a3 : Option Addr) (n3 c3 : Nat) (a4 : Option Addr) (n4 c4 : Nat) (a5 : Option Addr) (n5 c5 : Nat) (fc : Fc) (n cl : Int) (tx : Bs) (fa ke : List Int) (ms : Ms) (w : World) (h : AcAt (fun k => k < w.heap.size) w ⟨⟨.slice a1 n1 c1, .slice a2 n2 c2, .slice a3 n3 c3⟩, .slice a4 n4 c4, .slice a5 n5 c5⟩ ⟨7, fc, n, cl, tx, fa, ke, ms⟩) :
  Calls Tryz.prog 28 #[.agg (acA a1 n1 c1 a2 n2 c2 a3 n3 c3 a4 n4 c4 a5 n5 c5 ⟨7, fc, n, cl, tx, fa, ke, ms⟩)] w fun e w' => e = .returned (.bool (decide ((⟨7, fc, n, cl, tx, fa, ke, ms⟩ : Ac) = onlyA ⟨7, fc, n, cl, tx, fa, ke, ms⟩))) /\ Ext w w' := by
 obtain ⟨r, hr⟩ : ∃ r, r = decide ((⟨7, fc, n, cl, tx, fa, ke, ms⟩ : Ac) = onlyA ⟨7, fc, n, cl, tx, fa, ke, ms⟩) := ⟨_, rfl⟩
 rw [<- hr]
 have hz := two_boxes w (y6 7 fc a1 n1 c1 a2 n2 c2 a3 n3 c3 n cl tx a4 n4 c4 a5 n5 c5 ms) zA9 32 32
 try dsimp only at hz
 replace hz := hid hz
 have h2 := hid (fun W (hX : Mod (fun k => w.heap.size <= k) w W) => h.mod hX (fun k h1 h2 => by omega))
 have hfin : Hid (∀ w', Mod (fun k => w.heap.size <= k) w w' -> Ext w w') := hid (fun w' h => h.mono' (fun k hk e => by omega))
 clear h
 replace hr := hid hr
 unfold acA
 try dsimp only
 go_enter Tryz.func28, Tryz.ntmps28
 go_upto_region 2 with (refine wpList_storeW rfl 32 _ _ rfl (w.heap.size + 1) _ _ 32 rfl rfl hz.out.2.2.1 rfl (by kernel_rfl) rfl (fun W H1 => ?_))
 have hA := hid (H1.out.2.at hz.out.2.1 (by omega))
 have hU := hid H1.out.1
 have hm := hid ((hz.out.1.mono (T := fun k => w.heap.size <= k) (fun _ h => h.elim)).then H1.out.2 (fun k _ e => by omega))
 clear H1 hz
 generalize hRR : w.heap.size = R at hA hU hm hfin h2 ⊢
 replace hRR := hid hRR
 have q_kd : W.cell? ⟨R, 0, none⟩ = some (.int .i64 7) := cell_of' hA.out 0
 have s_cl : W.cell? ⟨R, 25, none⟩ = some (.int .i64 cl) := cell_of' hA.out 25
 have o_cl : W.cell? ⟨R + 1, 25, none⟩ = some (.int .i64 0) := cell_of' hU.out 25
 have s_n : W.cell? ⟨R, 24, none⟩ = some (.int .i64 n) := cell_of' hA.out 24
 have o_n : W.cell? ⟨R + 1, 24, none⟩ = some (.int .i64 0) := cell_of' hU.out 24
 have s_tx : W.cell? ⟨R, 26, none⟩ = some (.string ⟨tx.toArray⟩) := cell_of' hA.out 26
 have o_tx : W.cell? ⟨R + 1, 26, none⟩ = some (.string ⟨#[]⟩) := cell_of' hU.out 26
 have zU := free_of' hU.out
 go_upto_region 23 with (fail)
 clear zU q_kd s_cl o_cl s_n o_n s_tx o_tx
 have hU2 := (put_at' ((put_at' ((put_at' (hU.out) 25 (.int .i64 cl))) 24 (.int .i64 n))) 26 (.string ⟨tx.toArray⟩))
 simp only [sA, sZ, sS] at hU2
 have hA2 := ((put_ne' _ 26 (.string ⟨tx.toArray⟩) (show R + 1 ≠ R by omega)).trans (((put_ne' _ 24 (.int .i64 n) (show R + 1 ≠ R by omega)).trans (((put_ne' _ 25 (.int .i64 cl) (show R + 1 ≠ R by omega)).trans (hA.out))))))
 have hm2 := (((hm.out.setCell (a := ⟨R + 1, 25, none⟩) (fun _ => by show R <= R + 1; omega) (.int .i64 cl)).setCell (a := ⟨R + 1, 24, none⟩) (fun _ => by show R <= R + 1; omega) (.int .i64 n)).setCell (a := ⟨R + 1, 26, none⟩) (fun _ => by show R <= R + 1; omega) (.string ⟨tx.toArray⟩))
 clear hA hU hm
 generalize (((W.setCell ⟨R + 1, 25, none⟩ (.int .i64 cl)).setCell ⟨R + 1, 24, none⟩ (.int .i64 n)).setCell ⟨R + 1, 26, none⟩ (.string ⟨tx.toArray⟩)) = WS at hU2 hA2 hm2 ⊢
 have hU := hid hU2
 have hA := hid hA2
 have hm := hid hm2
 clear hU2 hA2 hm2
 have hh := h2.out WS hm.out
 have hS := hid (actSame_any a1 n1 c1 a2 n2 c2 a3 n3 c3 a4 n4 c4 a5 n5 c5 ⟨7, fc, n, cl, tx, fa, ke, ms⟩ none 0 0 none 0 0 none 0 0 none 0 0 none 0 0 ((⟨7, Fc.zero, n, cl, tx, [], [], Ms.zero⟩ : Ac)) WS hh ⟨fcAt_nil _ _ _ rfl rfl rfl, RowAt.nil _ _ _, RowAt.nil _ _ _⟩)
 unfold acA at hS
 try dsimp only at hS
 have hd : Hid (decide ((⟨7, fc, n, cl, tx, fa, ke, ms⟩ : Ac) = (⟨7, Fc.zero, n, cl, tx, [], [], Ms.zero⟩ : Ac)) = r) := hid (by rw [hr.out]; rfl)
 rw [hd.out] at hS
 go_wp2_with (first | (refine wpList_loadW (by rfl) 32 _ rfl R _ _ _ _ rfl hA.out Tryz.underlying32 rfl (by kernel_rfl) ?_) | (refine wpList_loadW (by rfl) 32 _ rfl (R + 1) _ _ _ _ rfl hU.out Tryz.underlying32 rfl (by kernel_rfl) ?_))
 refine hS.out.mono ?_; rintro e WE ⟨rfl, hxe⟩
 go_wp2_with fail
 go_ret
 exact ⟨rfl, hfin.out _ (hm.out.then hxe (fun _ _ h => h.elim))⟩
theorem sonly_k8 (a1 : Option Addr) (n1 c1 : Nat) (a2 : Option Addr) (n2 c2 : Nat) (a3 : Option Addr) (n3 c3 : Nat) (a4 : Option Addr) (n4 c4 : Nat) (a5 : Option Addr) (n5 c5 : Nat) (fc : Fc) (n cl : Int) (tx : Bs) (fa ke : List Int) (ms : Ms) (w : World) (h : AcAt (fun k => k < w.heap.size) w ⟨⟨.slice a1 n1 c1, .slice a2 n2 c2, .slice a3 n3 c3⟩, .slice a4 n4 c4, .slice a5 n5 c5⟩ ⟨8, fc, n, cl, tx, fa, ke, ms⟩) :
  Calls Tryz.prog 28 #[.agg (acA a1 n1 c1 a2 n2 c2 a3 n3 c3 a4 n4 c4 a5 n5 c5 ⟨8, fc, n, cl, tx, fa, ke, ms⟩)] w fun e w' => e = .returned (.bool (decide ((⟨8, fc, n, cl, tx, fa, ke, ms⟩ : Ac) = onlyA ⟨8, fc, n, cl, tx, fa, ke, ms⟩))) /\ Ext w w' := by
 obtain ⟨r, hr⟩ : ∃ r, r = decide ((⟨8, fc, n, cl, tx, fa, ke, ms⟩ : Ac) = onlyA ⟨8, fc, n, cl, tx, fa, ke, ms⟩) := ⟨_, rfl⟩
 rw [<- hr]
 have hz := two_boxes w (y6 8 fc a1 n1 c1 a2 n2 c2 a3 n3 c3 n cl tx a4 n4 c4 a5 n5 c5 ms) zA9 32 32
 try dsimp only at hz
 replace hz := hid hz
 have h2 := hid (fun W (hX : Mod (fun k => w.heap.size <= k) w W) => h.mod hX (fun k h1 h2 => by omega))
 have hfin : Hid (∀ w', Mod (fun k => w.heap.size <= k) w w' -> Ext w w') := hid (fun w' h => h.mono' (fun k hk e => by omega))
 clear h
 replace hr := hid hr
 unfold acA
 try dsimp only
 go_enter Tryz.func28, Tryz.ntmps28
 go_upto_region 2 with (refine wpList_storeW rfl 32 _ _ rfl (w.heap.size + 1) _ _ 32 rfl rfl hz.out.2.2.1 rfl (by kernel_rfl) rfl (fun W H1 => ?_))
 have hA := hid (H1.out.2.at hz.out.2.1 (by omega))
 have hU := hid H1.out.1
 have hm := hid ((hz.out.1.mono (T := fun k => w.heap.size <= k) (fun _ h => h.elim)).then H1.out.2 (fun k _ e => by omega))
 clear H1 hz
 generalize hRR : w.heap.size = R at hA hU hm hfin h2 ⊢
 replace hRR := hid hRR
 have q_kd : W.cell? ⟨R, 0, none⟩ = some (.int .i64 8) := cell_of' hA.out 0
 have hAl : Hid (W.heap[R]? = some (.cells (((y9 8 fc a1 n1 c1 a2 n2 c2 a3 n3 c3 n cl tx a4 n4 c4 a5 n5 c5) : List Value) ++ (((y10 ms) : List Value) ++ ([] : List Value))).toArray 32 (0, 0))) := hid hA.out
 have hUl : Hid (W.heap[R + 1]? = some (.cells (([.int .i64 8, .int .i64 0, .int .i64 0, .int .i64 0, .int .i64 0, .string ⟨#[]⟩, .int .i64 0, .int .i64 0, .string ⟨#[]⟩, .string ⟨#[]⟩, .slice none 0 0, .slice none 0 0, .int .i64 0, .slice none 0 0, .int .i64 0, .int .i64 0, .int .i64 0, .int .i64 0, .int .i64 0, .string ⟨#[]⟩, .string ⟨#[]⟩, .int .i64 0, .int .i64 0, .int .i64 0, .int .i64 0, .int .i64 0, .string ⟨#[]⟩, .slice none 0 0, .slice none 0 0] : List Value) ++ (([.int .i64 0, .int .i64 0, .int .i64 0, .int .i64 0, .int .i64 0, .int .i64 0, .string ⟨#[]⟩] : List Value) ++ ([] : List Value))).toArray 32 (0, 0))) := hid hU.out
 go_upto_region 23 with (first | (refine wpList_loadA rfl 30 _ rfl R 29 (y9 8 fc a1 n1 c1 a2 n2 c2 a3 n3 c3 n cl tx a4 n4 c4 a5 n5 c5) (y10 ms) [] _ _ _ rfl rfl hAl.out Tryz.underlying30 rfl (by kernel_rfl) ?_) | (refine wpList_storeA rfl 30 _ _ rfl (R + 1) 29 [.int .i64 8, .int .i64 0, .int .i64 0, .int .i64 0, .int .i64 0, .string ⟨#[]⟩, .int .i64 0, .int .i64 0, .string ⟨#[]⟩, .string ⟨#[]⟩, .slice none 0 0, .slice none 0 0, .int .i64 0, .slice none 0 0, .int .i64 0, .int .i64 0, .int .i64 0, .int .i64 0, .int .i64 0, .string ⟨#[]⟩, .string ⟨#[]⟩, .int .i64 0, .int .i64 0, .int .i64 0, .int .i64 0, .int .i64 0, .string ⟨#[]⟩, .slice none 0 0, .slice none 0 0] [.int .i64 0, .int .i64 0, .int .i64 0, .int .i64 0, .int .i64 0, .int .i64 0, .string ⟨#[]⟩] [] (y10 ms) 32 rfl rfl rfl hUl.out rfl (by kernel_rfl) rfl (fun WS HS => ?_)))
 replace hA := hid (HS.out.2.at hA.out (by omega))
 replace hm := hid (hm.out.then HS.out.2 (fun k _ e => by omega))
 have hU2 := HS.out.1
 simp only [List.cons_append, List.nil_append, List.append_nil] at hU2
 clear hU
 have hU := hid hU2
 clear HS hAl hUl hU2 q_kd
 have hh := h2.out WS hm.out
 have hS := hid (actSame_any a1 n1 c1 a2 n2 c2 a3 n3 c3 a4 n4 c4 a5 n5 c5 ⟨8, fc, n, cl, tx, fa, ke, ms⟩ none 0 0 none 0 0 none 0 0 none 0 0 none 0 0 ((⟨8, Fc.zero, 0, 0, [], [], [], ms⟩ : Ac)) WS hh ⟨fcAt_nil _ _ _ rfl rfl rfl, RowAt.nil _ _ _, RowAt.nil _ _ _⟩)
 unfold acA at hS
 try dsimp only at hS
 have hd : Hid (decide ((⟨8, fc, n, cl, tx, fa, ke, ms⟩ : Ac) = (⟨8, Fc.zero, 0, 0, [], [], [], ms⟩ : Ac)) = r) := hid (by rw [hr.out]; rfl)
 rw [hd.out] at hS
 go_wp2_with (first | (refine wpList_loadW (by rfl) 32 _ rfl R _ _ _ _ rfl hA.out Tryz.underlying32 rfl (by kernel_rfl) ?_) | (refine wpList_loadW (by rfl) 32 _ rfl (R + 1) _ _ _ _ rfl hU.out Tryz.underlying32 rfl (by kernel_rfl) ?_))
 refine hS.out.mono ?_; rintro e WE ⟨rfl, hxe⟩
 go_wp2_with fail
 go_ret
 exact ⟨rfl, hfin.out _ (hm.out.then hxe (fun _ _ h => h.elim))⟩
theorem sonly_k9 (a1 : Option Addr) (n1 c1 : Nat) (a2 : Option Addr) (n2 c2 : Nat) (a3 : Option Addr) (n3 c3 : Nat) (a4 : Option Addr) (n4 c4 : Nat) (a5 : Option Addr) (n5 c5 : Nat) (fc : Fc) (n cl : Int) (tx : Bs) (fa ke : List Int) (ms : Ms) (w : World) (h : AcAt (fun k => k < w.heap.size) w ⟨⟨.slice a1 n1 c1, .slice a2 n2 c2, .slice a3 n3 c3⟩, .slice a4 n4 c4, .slice a5 n5 c5⟩ ⟨9, fc, n, cl, tx, fa, ke, ms⟩) :
  Calls Tryz.prog 28 #[.agg (acA a1 n1 c1 a2 n2 c2 a3 n3 c3 a4 n4 c4 a5 n5 c5 ⟨9, fc, n, cl, tx, fa, ke, ms⟩)] w fun e w' => e = .returned (.bool (decide ((⟨9, fc, n, cl, tx, fa, ke, ms⟩ : Ac) = onlyA ⟨9, fc, n, cl, tx, fa, ke, ms⟩))) /\ Ext w w' := by
 obtain ⟨r, hr⟩ : ∃ r, r = decide ((⟨9, fc, n, cl, tx, fa, ke, ms⟩ : Ac) = onlyA ⟨9, fc, n, cl, tx, fa, ke, ms⟩) := ⟨_, rfl⟩
 rw [<- hr]
 have hz := two_boxes w (y6 9 fc a1 n1 c1 a2 n2 c2 a3 n3 c3 n cl tx a4 n4 c4 a5 n5 c5 ms) zA9 32 32
 try dsimp only at hz
 replace hz := hid hz
 have h2 := hid (fun W (hX : Mod (fun k => w.heap.size <= k) w W) => h.mod hX (fun k h1 h2 => by omega))
 have hfin : Hid (∀ w', Mod (fun k => w.heap.size <= k) w w' -> Ext w w') := hid (fun w' h => h.mono' (fun k hk e => by omega))
 clear h
 replace hr := hid hr
 unfold acA
 try dsimp only
 go_enter Tryz.func28, Tryz.ntmps28
 go_upto_region 2 with (refine wpList_storeW rfl 32 _ _ rfl (w.heap.size + 1) _ _ 32 rfl rfl hz.out.2.2.1 rfl (by kernel_rfl) rfl (fun W H1 => ?_))
 have hA := hid (H1.out.2.at hz.out.2.1 (by omega))
 have hU := hid H1.out.1
 have hm := hid ((hz.out.1.mono (T := fun k => w.heap.size <= k) (fun _ h => h.elim)).then H1.out.2 (fun k _ e => by omega))
 clear H1 hz
 generalize hRR : w.heap.size = R at hA hU hm hfin h2 ⊢
 replace hRR := hid hRR
 have q_kd : W.cell? ⟨R, 0, none⟩ = some (.int .i64 9) := cell_of' hA.out 0
 go_upto_region 23 with (fail)
 clear q_kd
 have hh := h2.out W hm.out
 have hS := hid (actSame_any a1 n1 c1 a2 n2 c2 a3 n3 c3 a4 n4 c4 a5 n5 c5 ⟨9, fc, n, cl, tx, fa, ke, ms⟩ none 0 0 none 0 0 none 0 0 none 0 0 none 0 0 ((⟨9, Fc.zero, 0, 0, [], [], [], Ms.zero⟩ : Ac)) W hh ⟨fcAt_nil _ _ _ rfl rfl rfl, RowAt.nil _ _ _, RowAt.nil _ _ _⟩)
 unfold acA at hS
 try dsimp only at hS
 have hd : Hid (decide ((⟨9, fc, n, cl, tx, fa, ke, ms⟩ : Ac) = (⟨9, Fc.zero, 0, 0, [], [], [], Ms.zero⟩ : Ac)) = r) := hid (by rw [hr.out]; rfl)
 rw [hd.out] at hS
 go_wp2_with (first | (refine wpList_loadW (by rfl) 32 _ rfl R _ _ _ _ rfl hA.out Tryz.underlying32 rfl (by kernel_rfl) ?_) | (refine wpList_loadW (by rfl) 32 _ rfl (R + 1) _ _ _ _ rfl hU.out Tryz.underlying32 rfl (by kernel_rfl) ?_))
 refine hS.out.mono ?_; rintro e WE ⟨rfl, hxe⟩
 go_wp2_with fail
 go_ret
 exact ⟨rfl, hfin.out _ (hm.out.then hxe (fun _ _ h => h.elim))⟩
theorem sonly_k10 (a1 : Option Addr) (n1 c1 : Nat) (a2 : Option Addr) (n2 c2 : Nat) (a3 : Option Addr) (n3 c3 : Nat) (a4 : Option Addr) (n4 c4 : Nat) (a5 : Option Addr) (n5 c5 : Nat) (fc : Fc) (n cl : Int) (tx : Bs) (fa ke : List Int) (ms : Ms) (w : World) (h : AcAt (fun k => k < w.heap.size) w ⟨⟨.slice a1 n1 c1, .slice a2 n2 c2, .slice a3 n3 c3⟩, .slice a4 n4 c4, .slice a5 n5 c5⟩ ⟨10, fc, n, cl, tx, fa, ke, ms⟩) :
  Calls Tryz.prog 28 #[.agg (acA a1 n1 c1 a2 n2 c2 a3 n3 c3 a4 n4 c4 a5 n5 c5 ⟨10, fc, n, cl, tx, fa, ke, ms⟩)] w fun e w' => e = .returned (.bool (decide ((⟨10, fc, n, cl, tx, fa, ke, ms⟩ : Ac) = onlyA ⟨10, fc, n, cl, tx, fa, ke, ms⟩))) /\ Ext w w' := by
 obtain ⟨r, hr⟩ : ∃ r, r = decide ((⟨10, fc, n, cl, tx, fa, ke, ms⟩ : Ac) = onlyA ⟨10, fc, n, cl, tx, fa, ke, ms⟩) := ⟨_, rfl⟩
 rw [<- hr]
 have hz := two_boxes w (y6 10 fc a1 n1 c1 a2 n2 c2 a3 n3 c3 n cl tx a4 n4 c4 a5 n5 c5 ms) zA9 32 32
 try dsimp only at hz
 replace hz := hid hz
 have h2 := hid (fun W (hX : Mod (fun k => w.heap.size <= k) w W) => h.mod hX (fun k h1 h2 => by omega))
 have hfin : Hid (∀ w', Mod (fun k => w.heap.size <= k) w w' -> Ext w w') := hid (fun w' h => h.mono' (fun k hk e => by omega))
 clear h
 replace hr := hid hr
 unfold acA
 try dsimp only
 go_enter Tryz.func28, Tryz.ntmps28
 go_upto_region 2 with (refine wpList_storeW rfl 32 _ _ rfl (w.heap.size + 1) _ _ 32 rfl rfl hz.out.2.2.1 rfl (by kernel_rfl) rfl (fun W H1 => ?_))
 have hA := hid (H1.out.2.at hz.out.2.1 (by omega))
 have hU := hid H1.out.1
 have hm := hid ((hz.out.1.mono (T := fun k => w.heap.size <= k) (fun _ h => h.elim)).then H1.out.2 (fun k _ e => by omega))
 clear H1 hz
 generalize hRR : w.heap.size = R at hA hU hm hfin h2 ⊢
 replace hRR := hid hRR
 have q_kd : W.cell? ⟨R, 0, none⟩ = some (.int .i64 10) := cell_of' hA.out 0
 have s_n : W.cell? ⟨R, 24, none⟩ = some (.int .i64 n) := cell_of' hA.out 24
 have o_n : W.cell? ⟨R + 1, 24, none⟩ = some (.int .i64 0) := cell_of' hU.out 24
 have zU := free_of' hU.out
 go_upto_region 23 with (fail)
 clear zU q_kd s_n o_n
 have hU2 := (put_at' (hU.out) 24 (.int .i64 n))
 simp only [sA, sZ, sS] at hU2
 have hA2 := ((put_ne' _ 24 (.int .i64 n) (show R + 1 ≠ R by omega)).trans (hA.out))
 have hm2 := (hm.out.setCell (a := ⟨R + 1, 24, none⟩) (fun _ => by show R <= R + 1; omega) (.int .i64 n))
 clear hA hU hm
 generalize (W.setCell ⟨R + 1, 24, none⟩ (.int .i64 n)) = WS at hU2 hA2 hm2 ⊢
 have hU := hid hU2
 have hA := hid hA2
 have hm := hid hm2
 clear hU2 hA2 hm2
 have hh := h2.out WS hm.out
 have hS := hid (actSame_any a1 n1 c1 a2 n2 c2 a3 n3 c3 a4 n4 c4 a5 n5 c5 ⟨10, fc, n, cl, tx, fa, ke, ms⟩ none 0 0 none 0 0 none 0 0 none 0 0 none 0 0 ((⟨10, Fc.zero, n, 0, [], [], [], Ms.zero⟩ : Ac)) WS hh ⟨fcAt_nil _ _ _ rfl rfl rfl, RowAt.nil _ _ _, RowAt.nil _ _ _⟩)
 unfold acA at hS
 try dsimp only at hS
 have hd : Hid (decide ((⟨10, fc, n, cl, tx, fa, ke, ms⟩ : Ac) = (⟨10, Fc.zero, n, 0, [], [], [], Ms.zero⟩ : Ac)) = r) := hid (by rw [hr.out]; rfl)
 rw [hd.out] at hS
 go_wp2_with (first | (refine wpList_loadW (by rfl) 32 _ rfl R _ _ _ _ rfl hA.out Tryz.underlying32 rfl (by kernel_rfl) ?_) | (refine wpList_loadW (by rfl) 32 _ rfl (R + 1) _ _ _ _ rfl hU.out Tryz.underlying32 rfl (by kernel_rfl) ?_))
 refine hS.out.mono ?_; rintro e WE ⟨rfl, hxe⟩
 go_wp2_with fail
 go_ret
 exact ⟨rfl, hfin.out _ (hm.out.then hxe (fun _ _ h => h.elim))⟩
theorem sonly_k0 (a1 : Option Addr) (n1 c1 : Nat) (a2 : Option Addr) (n2 c2 : Nat) (a3 : Option Addr) (n3 c3 : Nat) (a4 : Option Addr) (n4 c4 : Nat) (a5 : Option Addr) (n5 c5 : Nat) (fc : Fc) (n cl : Int) (tx : Bs) (fa ke : List Int) (ms : Ms) (kd : Int) (hk : ∀ i : Int, 1 <= i -> i <= 10 -> kd ≠ i) (w : World) (h : AcAt (fun k => k < w.heap.size) w ⟨⟨.slice a1 n1 c1, .slice a2 n2 c2, .slice a3 n3 c3⟩, .slice a4 n4 c4, .slice a5 n5 c5⟩ ⟨kd, fc, n, cl, tx, fa, ke, ms⟩) :
  Calls Tryz.prog 28 #[.agg (acA a1 n1 c1 a2 n2 c2 a3 n3 c3 a4 n4 c4 a5 n5 c5 ⟨kd, fc, n, cl, tx, fa, ke, ms⟩)] w fun e w' => e = .returned (.bool (decide ((⟨kd, fc, n, cl, tx, fa, ke, ms⟩ : Ac) = onlyA ⟨kd, fc, n, cl, tx, fa, ke, ms⟩))) /\ Ext w w' := by
 obtain ⟨r, hr⟩ : ∃ r, r = decide ((⟨kd, fc, n, cl, tx, fa, ke, ms⟩ : Ac) = onlyA ⟨kd, fc, n, cl, tx, fa, ke, ms⟩) := ⟨_, rfl⟩
 rw [<- hr]
 have g1 : ¬ kd = 1 := hk 1 (by decide) (by decide)
 have e1 : (kd == 1) = false := by rw [beq_eq_false_iff_ne]; exact g1
 have g2 : ¬ kd = 2 := hk 2 (by decide) (by decide)
 have e2 : (kd == 2) = false := by rw [beq_eq_false_iff_ne]; exact g2
 have g3 : ¬ kd = 3 := hk 3 (by decide) (by decide)
 have e3 : (kd == 3) = false := by rw [beq_eq_false_iff_ne]; exact g3
 have g4 : ¬ kd = 4 := hk 4 (by decide) (by decide)
 have e4 : (kd == 4) = false := by rw [beq_eq_false_iff_ne]; exact g4
 have g5 : ¬ kd = 5 := hk 5 (by decide) (by decide)
 have e5 : (kd == 5) = false := by rw [beq_eq_false_iff_ne]; exact g5
 have g6 : ¬ kd = 6 := hk 6 (by decide) (by decide)
 have e6 : (kd == 6) = false := by rw [beq_eq_false_iff_ne]; exact g6
 have g7 : ¬ kd = 7 := hk 7 (by decide) (by decide)
 have e7 : (kd == 7) = false := by rw [beq_eq_false_iff_ne]; exact g7
 have g8 : ¬ kd = 8 := hk 8 (by decide) (by decide)
 have e8 : (kd == 8) = false := by rw [beq_eq_false_iff_ne]; exact g8
 have g9 : ¬ kd = 9 := hk 9 (by decide) (by decide)
 have e9 : (kd == 9) = false := by rw [beq_eq_false_iff_ne]; exact g9
 have g10 : ¬ kd = 10 := hk 10 (by decide) (by decide)
 have e10 : (kd == 10) = false := by rw [beq_eq_false_iff_ne]; exact g10
 replace g1 := hid g1
 replace g2 := hid g2
 replace g3 := hid g3
 replace g4 := hid g4
 replace g5 := hid g5
 replace g6 := hid g6
 replace g7 := hid g7
 replace g8 := hid g8
 replace g9 := hid g9
 replace g10 := hid g10
 have hz := two_boxes w (y11 kd fc a1 n1 c1 a2 n2 c2 a3 n3 c3 n cl tx a4 n4 c4 a5 n5 c5 ms) zA9 32 32
 try dsimp only at hz
 replace hz := hid hz
 have h2 := hid (fun W (hX : Mod (fun k => w.heap.size <= k) w W) => h.mod hX (fun k h1 h2 => by omega))
 have hfin : Hid (∀ w', Mod (fun k => w.heap.size <= k) w w' -> Ext w w') := hid (fun w' h => h.mono' (fun k hk e => by omega))
 clear h
 replace hr := hid hr
 unfold acA
 try dsimp only
 go_enter Tryz.func28, Tryz.ntmps28
 go_upto_region 2 with (refine wpList_storeW rfl 32 _ _ rfl (w.heap.size + 1) _ _ 32 rfl rfl hz.out.2.2.1 rfl (by kernel_rfl) rfl (fun W H1 => ?_))
 have hA := hid (H1.out.2.at hz.out.2.1 (by omega))
 have hU := hid H1.out.1
 have hm := hid ((hz.out.1.mono (T := fun k => w.heap.size <= k) (fun _ h => h.elim)).then H1.out.2 (fun k _ e => by omega))
 clear H1 hz
 generalize hRR : w.heap.size = R at hA hU hm hfin h2 ⊢
 replace hRR := hid hRR
 have q_kd : W.cell? ⟨R, 0, none⟩ = some (.int .i64 kd) := cell_of' hA.out 0
 go_upto_region 23 with (fail)
 clear q_kd
 have hh := h2.out W hm.out
 have hS := hid (actSame_any a1 n1 c1 a2 n2 c2 a3 n3 c3 a4 n4 c4 a5 n5 c5 ⟨kd, fc, n, cl, tx, fa, ke, ms⟩ none 0 0 none 0 0 none 0 0 none 0 0 none 0 0 ((⟨kd, Fc.zero, 0, 0, [], [], [], Ms.zero⟩ : Ac)) W hh ⟨fcAt_nil _ _ _ rfl rfl rfl, RowAt.nil _ _ _, RowAt.nil _ _ _⟩)
 unfold acA at hS
 try dsimp only at hS
 have hd : Hid (decide ((⟨kd, fc, n, cl, tx, fa, ke, ms⟩ : Ac) = (⟨kd, Fc.zero, 0, 0, [], [], [], Ms.zero⟩ : Ac)) = r) := hid (by rw [hr.out]; rw [show onlyA ⟨kd, fc, n, cl, tx, fa, ke, ms⟩ = (⟨kd, Fc.zero, 0, 0, [], [], [], Ms.zero⟩ : Ac) from by unfold onlyA; simp only [g1.out, g2.out, g3.out, g4.out, g5.out, g6.out, g7.out, g8.out, g10.out, if_false, or_self]; rfl])
 rw [hd.out] at hS
 go_wp2_with (first | (refine wpList_loadW (by rfl) 32 _ rfl R _ _ _ _ rfl hA.out Tryz.underlying32 rfl (by kernel_rfl) ?_) | (refine wpList_loadW (by rfl) 32 _ rfl (R + 1) _ _ _ _ rfl hU.out Tryz.underlying32 rfl (by kernel_rfl) ?_))
 refine hS.out.mono ?_; rintro e WE ⟨rfl, hxe⟩
 go_wp2_with fail
 go_ret
 exact ⟨rfl, hfin.out _ (hm.out.then hxe (fun _ _ h => h.elim))⟩
end Go.Proofs.YtpaefpnkemkikaaGreatDoor
