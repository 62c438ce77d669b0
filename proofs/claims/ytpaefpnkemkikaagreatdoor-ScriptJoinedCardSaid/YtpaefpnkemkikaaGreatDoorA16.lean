import Derived.Test.YtpaefpnkemkikaaGreatDoorA15
set_option maxRecDepth 100000
set_option maxHeartbeats 16000000
namespace Go.Proofs.YtpaefpnkemkikaaGreatDoor
open Go.RowKit Cdk Scr
theorem sonly_any (a1 : Option Addr) (n1 c1 : Nat) (a2 : Option Addr) (n2 c2 : Nat) (a3 : Option Addr) (n3 c3 : Nat) (a4 : Option Addr) (n4 c4 : Nat) (a5 : Option Addr) (n5 c5 : Nat) (a : Ac) (w : World) (h : AcAt (fun k => k < w.heap.size) w ⟨⟨.slice a1 n1 c1, .slice a2 n2 c2, .slice a3 n3 c3⟩, .slice a4 n4 c4, .slice a5 n5 c5⟩ a) :
  Calls Tryz.prog 28 #[.agg (acA a1 n1 c1 a2 n2 c2 a3 n3 c3 a4 n4 c4 a5 n5 c5 a)] w fun e w' => e = .returned (.bool (decide (a = onlyA a))) /\ Ext w w' := by
 obtain ⟨kd, fc, n, cl, tx, fa, ke, ms⟩ := a
 by_cases g1 : kd = 1
 ·subst g1; exact sonly_k1 a1 n1 c1 a2 n2 c2 a3 n3 c3 a4 n4 c4 a5 n5 c5 fc n cl tx fa ke ms w h
 by_cases g2 : kd = 2
 ·subst g2; exact sonly_k2 a1 n1 c1 a2 n2 c2 a3 n3 c3 a4 n4 c4 a5 n5 c5 fc n cl tx fa ke ms w h
 by_cases g3 : kd = 3
 ·subst g3; exact sonly_k3 a1 n1 c1 a2 n2 c2 a3 n3 c3 a4 n4 c4 a5 n5 c5 fc n cl tx fa ke ms w h
 by_cases g4 : kd = 4
 ·subst g4; exact sonly_k4 a1 n1 c1 a2 n2 c2 a3 n3 c3 a4 n4 c4 a5 n5 c5 fc n cl tx fa ke ms w h
 by_cases g5 : kd = 5
 ·subst g5; exact sonly_k5 a1 n1 c1 a2 n2 c2 a3 n3 c3 a4 n4 c4 a5 n5 c5 fc n cl tx fa ke ms w h
 by_cases g6 : kd = 6
 ·subst g6; exact sonly_k6 a1 n1 c1 a2 n2 c2 a3 n3 c3 a4 n4 c4 a5 n5 c5 fc n cl tx fa ke ms w h
 by_cases g7 : kd = 7
 ·subst g7; exact sonly_k7 a1 n1 c1 a2 n2 c2 a3 n3 c3 a4 n4 c4 a5 n5 c5 fc n cl tx fa ke ms w h
 by_cases g8 : kd = 8
 ·subst g8; exact sonly_k8 a1 n1 c1 a2 n2 c2 a3 n3 c3 a4 n4 c4 a5 n5 c5 fc n cl tx fa ke ms w h
 by_cases g9 : kd = 9
 ·subst g9; exact sonly_k9 a1 n1 c1 a2 n2 c2 a3 n3 c3 a4 n4 c4 a5 n5 c5 fc n cl tx fa ke ms w h
 by_cases g10 : kd = 10
 ·subst g10; exact sonly_k10 a1 n1 c1 a2 n2 c2 a3 n3 c3 a4 n4 c4 a5 n5 c5 fc n cl tx fa ke ms w h
 exact sonly_k0 a1 n1 c1 a2 n2 c2 a3 n3 c3 a4 n4 c4 a5 n5 c5 fc n cl tx fa ke ms kd (fun i h1 h2 e => by omega) w h
theorem svalid_k2 (a1 : Option Addr) (n1 c1 : Nat) (a2 : Option Addr) (n2 c2 : Nat) (a3 : Option Addr) (n3 c3 : Nat) (a4 : Option Addr) (n4 c4 : Nat) (a5 : Option Addr) (n5 c5 : Nat) (fc : Fc) (n cl : Int) (tx : Bs) (fa ke : List Int) (ms : Ms) (w : World) (h : AcAt (fun k => k < w.heap.size) w ⟨⟨.slice a1 n1 c1, .slice a2 n2 c2, .slice a3 n3 c3⟩, .slice a4 n4 c4, .slice a5 n5 c5⟩ (⟨2, fc, n, cl, tx, fa, ke, ms⟩ : Ac)) :
  Calls Tryz.prog 14 #[.agg (acA a1 n1 c1 a2 n2 c2 a3 n3 c3 a4 n4 c4 a5 n5 c5 (⟨2, fc, n, cl, tx, fa, ke, ms⟩ : Ac))] w fun e w' => e = .returned (.bool (vAc (⟨2, fc, n, cl, tx, fa, ke, ms⟩ : Ac))) /\ Ext w w' := by
 obtain ⟨r, hr⟩ : ∃ r, r = vAc (⟨2, fc, n, cl, tx, fa, ke, ms⟩ : Ac) := ⟨_, rfl⟩
 rw [<- hr]
 replace hr : r = (rng n 1 500 && (decide ((⟨2, fc, n, cl, tx, fa, ke, ms⟩ : Ac) = onlyA (⟨2, fc, n, cl, tx, fa, ke, ms⟩ : Ac)))) := by
  rw [hr]; unfold vAc; simp only [fieldsA]; first | rfl | (simp [Bool.and_assoc])
 have hO := hid (fun W (hX : Ext w W) => sonly_any a1 n1 c1 a2 n2 c2 a3 n3 c3 a4 n4 c4 a5 n5 c5 (⟨2, fc, n, cl, tx, fa, ke, ms⟩ : Ac) W ((h.ext hX).mono (fun k hk => Nat.lt_of_lt_of_le hk hX.size)))
 generalize decide ((⟨2, fc, n, cl, tx, fa, ke, ms⟩ : Ac) = onlyA (⟨2, fc, n, cl, tx, fa, ke, ms⟩ : Ac)) = od at hr hO
 have c_n := hid (fun W (hX : Ext w W) => swithin_any n 1 500 W)
 generalize rng n 1 500 = b_n at hr c_n
 unfold acA at hO
 try dsimp only at hO
 have hz := heap_alloc_new w (.cells (y6 2 fc a1 n1 c1 a2 n2 c2 a3 n3 c3 n cl tx a4 n4 c4 a5 n5 c5 ms) 32)
 have hx := Mod.alloc (Mod.refl (fun _ => False) w) (.cells (y6 2 fc a1 n1 c1 a2 n2 c2 a3 n3 c3 n cl tx a4 n4 c4 a5 n5 c5 ms) 32)
 try dsimp only at hz hx
 replace hr := hid hr
 clear h
 unfold acA
 try dsimp only
 go_enter Tryz.func14, Tryz.ntmps14
 go_upto_region 1 with (fail)
 generalize (w.alloc _) = W at hz hx ⊢
 generalize w.heap.size = R at hz ⊢
 have hA := hid hz
 replace hx := hid hx
 clear hz
 have q_kd : W.cell? ⟨R, 0, none⟩ = some (.int .i64 2) := cell_of' hA.out 0
 have s_n : W.cell? ⟨R, 24, none⟩ = some (.int .i64 n) := cell_of' hA.out 24
 go_wp2_with fail
 refine (c_n.out _ hx.out).mono ?_; rintro e w' ⟨rfl, rfl⟩
 cases b_n with
 | false =>
  go_wp2_with fail
  go_ret
  exact ⟨by rw [hr.out]; simp, hx.out⟩
 | true =>
 go_wp2_with (refine wpList_loadW (by rfl) 32 _ rfl R _ _ _ _ rfl hA.out Tryz.underlying32 rfl (by kernel_rfl) ?_)
 refine (hO.out _ hx.out).mono ?_; rintro e W9 ⟨rfl, hxn⟩
 go_wp2_with fail
 go_ret
 exact ⟨by rw [hr.out]; simp, hx.out.trans hxn⟩
theorem svalid_k3 (a1 : Option Addr) (n1 c1 : Nat) (a2 : Option Addr) (n2 c2 : Nat) (a3 : Option Addr) (n3 c3 : Nat) (a4 : Option Addr) (n4 c4 : Nat) (a5 : Option Addr) (n5 c5 : Nat) (fc : Fc) (n cl : Int) (tx : Bs) (fa ke : List Int) (ms : Ms) (w : World) (h : AcAt (fun k => k < w.heap.size) w ⟨⟨.slice a1 n1 c1, .slice a2 n2 c2, .slice a3 n3 c3⟩, .slice a4 n4 c4, .slice a5 n5 c5⟩ (⟨3, fc, n, cl, tx, fa, ke, ms⟩ : Ac)) :
  Calls Tryz.prog 14 #[.agg (acA a1 n1 c1 a2 n2 c2 a3 n3 c3 a4 n4 c4 a5 n5 c5 (⟨3, fc, n, cl, tx, fa, ke, ms⟩ : Ac))] w fun e w' => e = .returned (.bool (vAc (⟨3, fc, n, cl, tx, fa, ke, ms⟩ : Ac))) /\ Ext w w' := by
 obtain ⟨r, hr⟩ : ∃ r, r = vAc (⟨3, fc, n, cl, tx, fa, ke, ms⟩ : Ac) := ⟨_, rfl⟩
 rw [<- hr]
 replace hr : r = (rng n 0 1000000000 && (decide ((⟨3, fc, n, cl, tx, fa, ke, ms⟩ : Ac) = onlyA (⟨3, fc, n, cl, tx, fa, ke, ms⟩ : Ac)))) := by
  rw [hr]; unfold vAc; simp only [fieldsA]; first | rfl | (simp [Bool.and_assoc])
 have hO := hid (fun W (hX : Ext w W) => sonly_any a1 n1 c1 a2 n2 c2 a3 n3 c3 a4 n4 c4 a5 n5 c5 (⟨3, fc, n, cl, tx, fa, ke, ms⟩ : Ac) W ((h.ext hX).mono (fun k hk => Nat.lt_of_lt_of_le hk hX.size)))
 generalize decide ((⟨3, fc, n, cl, tx, fa, ke, ms⟩ : Ac) = onlyA (⟨3, fc, n, cl, tx, fa, ke, ms⟩ : Ac)) = od at hr hO
 have c_n := hid (fun W (hX : Ext w W) => swithin_any n 0 1000000000 W)
 generalize rng n 0 1000000000 = b_n at hr c_n
 unfold acA at hO
 try dsimp only at hO
 have hz := heap_alloc_new w (.cells (y6 3 fc a1 n1 c1 a2 n2 c2 a3 n3 c3 n cl tx a4 n4 c4 a5 n5 c5 ms) 32)
 have hx := Mod.alloc (Mod.refl (fun _ => False) w) (.cells (y6 3 fc a1 n1 c1 a2 n2 c2 a3 n3 c3 n cl tx a4 n4 c4 a5 n5 c5 ms) 32)
 try dsimp only at hz hx
 replace hr := hid hr
 clear h
 unfold acA
 try dsimp only
 go_enter Tryz.func14, Tryz.ntmps14
 go_upto_region 1 with (fail)
 generalize (w.alloc _) = W at hz hx ⊢
 generalize w.heap.size = R at hz ⊢
 have hA := hid hz
 replace hx := hid hx
 clear hz
 have q_kd : W.cell? ⟨R, 0, none⟩ = some (.int .i64 3) := cell_of' hA.out 0
 have s_n : W.cell? ⟨R, 24, none⟩ = some (.int .i64 n) := cell_of' hA.out 24
 go_wp2_with fail
 refine (c_n.out _ hx.out).mono ?_; rintro e w' ⟨rfl, rfl⟩
 cases b_n with
 | false =>
  go_wp2_with fail
  go_ret
  exact ⟨by rw [hr.out]; simp, hx.out⟩
 | true =>
 go_wp2_with (refine wpList_loadW (by rfl) 32 _ rfl R _ _ _ _ rfl hA.out Tryz.underlying32 rfl (by kernel_rfl) ?_)
 refine (hO.out _ hx.out).mono ?_; rintro e W9 ⟨rfl, hxn⟩
 go_wp2_with fail
 go_ret
 exact ⟨by rw [hr.out]; simp, hx.out.trans hxn⟩
theorem svalid_k10 (a1 : Option Addr) (n1 c1 : Nat) (a2 : Option Addr) (n2 c2 : Nat) (a3 : Option Addr) (n3 c3 : Nat) (a4 : Option Addr) (n4 c4 : Nat) (a5 : Option Addr) (n5 c5 : Nat) (fc : Fc) (n cl : Int) (tx : Bs) (fa ke : List Int) (ms : Ms) (w : World) (h : AcAt (fun k => k < w.heap.size) w ⟨⟨.slice a1 n1 c1, .slice a2 n2 c2, .slice a3 n3 c3⟩, .slice a4 n4 c4, .slice a5 n5 c5⟩ (⟨10, fc, n, cl, tx, fa, ke, ms⟩ : Ac)) :
  Calls Tryz.prog 14 #[.agg (acA a1 n1 c1 a2 n2 c2 a3 n3 c3 a4 n4 c4 a5 n5 c5 (⟨10, fc, n, cl, tx, fa, ke, ms⟩ : Ac))] w fun e w' => e = .returned (.bool (vAc (⟨10, fc, n, cl, tx, fa, ke, ms⟩ : Ac))) /\ Ext w w' := by
 obtain ⟨r, hr⟩ : ∃ r, r = vAc (⟨10, fc, n, cl, tx, fa, ke, ms⟩ : Ac) := ⟨_, rfl⟩
 rw [<- hr]
 replace hr : r = (rng n 0 10000 && (decide ((⟨10, fc, n, cl, tx, fa, ke, ms⟩ : Ac) = onlyA (⟨10, fc, n, cl, tx, fa, ke, ms⟩ : Ac)))) := by
  rw [hr]; unfold vAc; simp only [fieldsA]; first | rfl | (simp [Bool.and_assoc])
 have hO := hid (fun W (hX : Ext w W) => sonly_any a1 n1 c1 a2 n2 c2 a3 n3 c3 a4 n4 c4 a5 n5 c5 (⟨10, fc, n, cl, tx, fa, ke, ms⟩ : Ac) W ((h.ext hX).mono (fun k hk => Nat.lt_of_lt_of_le hk hX.size)))
 generalize decide ((⟨10, fc, n, cl, tx, fa, ke, ms⟩ : Ac) = onlyA (⟨10, fc, n, cl, tx, fa, ke, ms⟩ : Ac)) = od at hr hO
 have c_n := hid (fun W (hX : Ext w W) => swithin_any n 0 10000 W)
 generalize rng n 0 10000 = b_n at hr c_n
 unfold acA at hO
 try dsimp only at hO
 have hz := heap_alloc_new w (.cells (y6 10 fc a1 n1 c1 a2 n2 c2 a3 n3 c3 n cl tx a4 n4 c4 a5 n5 c5 ms) 32)
 have hx := Mod.alloc (Mod.refl (fun _ => False) w) (.cells (y6 10 fc a1 n1 c1 a2 n2 c2 a3 n3 c3 n cl tx a4 n4 c4 a5 n5 c5 ms) 32)
 try dsimp only at hz hx
 replace hr := hid hr
 clear h
 unfold acA
 try dsimp only
 go_enter Tryz.func14, Tryz.ntmps14
 go_upto_region 1 with (fail)
 generalize (w.alloc _) = W at hz hx ⊢
 generalize w.heap.size = R at hz ⊢
 have hA := hid hz
 replace hx := hid hx
 clear hz
 have q_kd : W.cell? ⟨R, 0, none⟩ = some (.int .i64 10) := cell_of' hA.out 0
 have s_n : W.cell? ⟨R, 24, none⟩ = some (.int .i64 n) := cell_of' hA.out 24
 go_wp2_with fail
 refine (c_n.out _ hx.out).mono ?_; rintro e w' ⟨rfl, rfl⟩
 cases b_n with
 | false =>
  go_wp2_with fail
  go_ret
  exact ⟨by rw [hr.out]; simp, hx.out⟩
 | true =>
 go_wp2_with (refine wpList_loadW (by rfl) 32 _ rfl R _ _ _ _ rfl hA.out Tryz.underlying32 rfl (by kernel_rfl) ?_)
 refine (hO.out _ hx.out).mono ?_; rintro e W9 ⟨rfl, hxn⟩
 go_wp2_with fail
 go_ret
 exact ⟨by rw [hr.out]; simp, hx.out.trans hxn⟩
theorem svalid_k4 (a1 : Option Addr) (n1 c1 : Nat) (a2 : Option Addr) (n2 c2 : Nat) (a3 : Option Addr) (n3 c3 : Nat) (a4 : Option Addr) (n4 c4 : Nat) (a5 : Option Addr) (n5 c5 : Nat) (fc : Fc) (n cl : Int) (tx : Bs) (fa ke : List Int) (ms : Ms) (w : World) (h : AcAt (fun k => k < w.heap.size) w ⟨⟨.slice a1 n1 c1, .slice a2 n2 c2, .slice a3 n3 c3⟩, .slice a4 n4 c4, .slice a5 n5 c5⟩ (⟨4, fc, n, cl, tx, fa, ke, ms⟩ : Ac)) :
  Calls Tryz.prog 14 #[.agg (acA a1 n1 c1 a2 n2 c2 a3 n3 c3 a4 n4 c4 a5 n5 c5 (⟨4, fc, n, cl, tx, fa, ke, ms⟩ : Ac))] w fun e w' => e = .returned (.bool (vAc (⟨4, fc, n, cl, tx, fa, ke, ms⟩ : Ac))) /\ Ext w w' := by
 obtain ⟨r, hr⟩ : ∃ r, r = vAc (⟨4, fc, n, cl, tx, fa, ke, ms⟩ : Ac) := ⟨_, rfl⟩
 rw [<- hr]
 replace hr : r = (isLs fa 64 24 && (decide ((⟨4, fc, n, cl, tx, fa, ke, ms⟩ : Ac) = onlyA (⟨4, fc, n, cl, tx, fa, ke, ms⟩ : Ac)))) := by
  rw [hr]; unfold vAc; simp only [fieldsA]; first | rfl | (simp [Bool.and_assoc])
 have hO := hid (fun W (hX : Ext w W) => sonly_any a1 n1 c1 a2 n2 c2 a3 n3 c3 a4 n4 c4 a5 n5 c5 (⟨4, fc, n, cl, tx, fa, ke, ms⟩ : Ac) W ((h.ext hX).mono (fun k hk => Nat.lt_of_lt_of_le hk hX.size)))
 generalize decide ((⟨4, fc, n, cl, tx, fa, ke, ms⟩ : Ac) = onlyA (⟨4, fc, n, cl, tx, fa, ke, ms⟩ : Ac)) = od at hr hO
 have c_f := hid (fun W (hX : Ext w W) => slist_any (.slice a4 n4 c4) fa 64 24 W (h.fa.ext hX))
 generalize isLs fa 64 24 = b_f at hr c_f
 unfold acA at hO
 try dsimp only at hO
 have hz := heap_alloc_new w (.cells (y6 4 fc a1 n1 c1 a2 n2 c2 a3 n3 c3 n cl tx a4 n4 c4 a5 n5 c5 ms) 32)
 have hx := Mod.alloc (Mod.refl (fun _ => False) w) (.cells (y6 4 fc a1 n1 c1 a2 n2 c2 a3 n3 c3 n cl tx a4 n4 c4 a5 n5 c5 ms) 32)
 try dsimp only at hz hx
 replace hr := hid hr
 clear h
 unfold acA
 try dsimp only
 go_enter Tryz.func14, Tryz.ntmps14
 go_upto_region 1 with (fail)
 generalize (w.alloc _) = W at hz hx ⊢
 generalize w.heap.size = R at hz ⊢
 have hA := hid hz
 replace hx := hid hx
 clear hz
 have q_kd : W.cell? ⟨R, 0, none⟩ = some (.int .i64 4) := cell_of' hA.out 0
 have s_fa : W.cell? ⟨R, 27, none⟩ = some (.slice a4 n4 c4) := cell_of' hA.out 27
 go_wp2_with fail
 refine (c_f.out _ hx.out).mono ?_; rintro e W5 ⟨rfl, hxn⟩
 replace hA := hid (hxn.at hA.out (fun h => h))
 replace hx := hid (hx.out.trans hxn)
 clear hxn s_fa
 have s_fa : W5.cell? ⟨R, 27, none⟩ = some (.slice a4 n4 c4) := cell_of' hA.out 27
 cases b_f with
 | false =>
  go_wp2_with fail
  go_ret
  exact ⟨by rw [hr.out]; simp, hx.out⟩
 | true =>
 go_wp2_with (refine wpList_loadW (by rfl) 32 _ rfl R _ _ _ _ rfl hA.out Tryz.underlying32 rfl (by kernel_rfl) ?_)
 refine (hO.out _ hx.out).mono ?_; rintro e W9 ⟨rfl, hxn⟩
 go_wp2_with fail
 go_ret
 exact ⟨by rw [hr.out]; simp, hx.out.trans hxn⟩
theorem svalid_k5 (a1 : Option Addr) (n1 c1 : Nat) (a2 : Option Addr) (n2 c2 : Nat) (a3 : Option Addr) (n3 c3 : Nat) (a4 : Option Addr) (n4 c4 : Nat) (a5 : Option Addr) (n5 c5 : Nat) (fc : Fc) (n cl : Int) (tx : Bs) (fa ke : List Int) (ms : Ms) (w : World) (h : AcAt (fun k => k < w.heap.size) w ⟨⟨.slice a1 n1 c1, .slice a2 n2 c2, .slice a3 n3 c3⟩, .slice a4 n4 c4, .slice a5 n5 c5⟩ (⟨5, fc, n, cl, tx, fa, ke, ms⟩ : Ac)) :
  Calls Tryz.prog 14 #[.agg (acA a1 n1 c1 a2 n2 c2 a3 n3 c3 a4 n4 c4 a5 n5 c5 (⟨5, fc, n, cl, tx, fa, ke, ms⟩ : Ac))] w fun e w' => e = .returned (.bool (vAc (⟨5, fc, n, cl, tx, fa, ke, ms⟩ : Ac))) /\ Ext w w' := by
 obtain ⟨r, hr⟩ : ∃ r, r = vAc (⟨5, fc, n, cl, tx, fa, ke, ms⟩ : Ac) := ⟨_, rfl⟩
 rw [<- hr]
 replace hr : r = (rng n (-1) 4194304 && (isLs ke 64 1000 && (decide ((⟨5, fc, n, cl, tx, fa, ke, ms⟩ : Ac) = onlyA (⟨5, fc, n, cl, tx, fa, ke, ms⟩ : Ac))))) := by
  rw [hr]; unfold vAc; simp only [fieldsA]; first | rfl | (simp [Bool.and_assoc])
 have hO := hid (fun W (hX : Ext w W) => sonly_any a1 n1 c1 a2 n2 c2 a3 n3 c3 a4 n4 c4 a5 n5 c5 (⟨5, fc, n, cl, tx, fa, ke, ms⟩ : Ac) W ((h.ext hX).mono (fun k hk => Nat.lt_of_lt_of_le hk hX.size)))
 generalize decide ((⟨5, fc, n, cl, tx, fa, ke, ms⟩ : Ac) = onlyA (⟨5, fc, n, cl, tx, fa, ke, ms⟩ : Ac)) = od at hr hO
 have c_n := hid (fun W (hX : Ext w W) => swithin_any n (-1) 4194304 W)
 have c_k := hid (fun W (hX : Ext w W) => slist_any (.slice a5 n5 c5) ke 64 1000 W (h.ke.ext hX))
 generalize rng n (-1) 4194304 = b_n at hr c_n
 generalize isLs ke 64 1000 = b_k at hr c_k
 unfold acA at hO
 try dsimp only at hO
 have hz := heap_alloc_new w (.cells (y6 5 fc a1 n1 c1 a2 n2 c2 a3 n3 c3 n cl tx a4 n4 c4 a5 n5 c5 ms) 32)
 have hx := Mod.alloc (Mod.refl (fun _ => False) w) (.cells (y6 5 fc a1 n1 c1 a2 n2 c2 a3 n3 c3 n cl tx a4 n4 c4 a5 n5 c5 ms) 32)
 try dsimp only at hz hx
 replace hr := hid hr
 clear h
 unfold acA
 try dsimp only
 go_enter Tryz.func14, Tryz.ntmps14
 go_upto_region 1 with (fail)
 generalize (w.alloc _) = W at hz hx ⊢
 generalize w.heap.size = R at hz ⊢
 have hA := hid hz
 replace hx := hid hx
 clear hz
 have q_kd : W.cell? ⟨R, 0, none⟩ = some (.int .i64 5) := cell_of' hA.out 0
 have s_n : W.cell? ⟨R, 24, none⟩ = some (.int .i64 n) := cell_of' hA.out 24
 have s_ke : W.cell? ⟨R, 28, none⟩ = some (.slice a5 n5 c5) := cell_of' hA.out 28
 go_wp2_with fail
 refine (c_n.out _ hx.out).mono ?_; rintro e w' ⟨rfl, rfl⟩
 cases b_n with
 | false =>
  go_wp2_with fail
  go_ret
  exact ⟨by rw [hr.out]; simp, hx.out⟩
 | true =>
 go_wp2_with fail
 refine (c_k.out _ hx.out).mono ?_; rintro e W6 ⟨rfl, hxn⟩
 replace hA := hid (hxn.at hA.out (fun h => h))
 replace hx := hid (hx.out.trans hxn)
 clear hxn s_n s_ke
 have s_n : W6.cell? ⟨R, 24, none⟩ = some (.int .i64 n) := cell_of' hA.out 24
 have s_ke : W6.cell? ⟨R, 28, none⟩ = some (.slice a5 n5 c5) := cell_of' hA.out 28
 cases b_k with
 | false =>
  go_wp2_with fail
  go_ret
  exact ⟨by rw [hr.out]; simp, hx.out⟩
 | true =>
 go_wp2_with (refine wpList_loadW (by rfl) 32 _ rfl R _ _ _ _ rfl hA.out Tryz.underlying32 rfl (by kernel_rfl) ?_)
 refine (hO.out _ hx.out).mono ?_; rintro e W9 ⟨rfl, hxn⟩
 go_wp2_with fail
 go_ret
 exact ⟨by rw [hr.out]; simp, hx.out.trans hxn⟩
theorem svalid_k6 (a1 : Option Addr) (n1 c1 : Nat) (a2 : Option Addr) (n2 c2 : Nat) (a3 : Option Addr) (n3 c3 : Nat) (a4 : Option Addr) (n4 c4 : Nat) (a5 : Option Addr) (n5 c5 : Nat) (fc : Fc) (n cl : Int) (tx : Bs) (fa ke : List Int) (ms : Ms) (w : World) (h : AcAt (fun k => k < w.heap.size) w ⟨⟨.slice a1 n1 c1, .slice a2 n2 c2, .slice a3 n3 c3⟩, .slice a4 n4 c4, .slice a5 n5 c5⟩ (⟨6, fc, n, cl, tx, fa, ke, ms⟩ : Ac)) :
  Calls Tryz.prog 14 #[.agg (acA a1 n1 c1 a2 n2 c2 a3 n3 c3 a4 n4 c4 a5 n5 c5 (⟨6, fc, n, cl, tx, fa, ke, ms⟩ : Ac))] w fun e w' => e = .returned (.bool (vAc (⟨6, fc, n, cl, tx, fa, ke, ms⟩ : Ac))) /\ Ext w w' := by
 obtain ⟨r, hr⟩ : ∃ r, r = vAc (⟨6, fc, n, cl, tx, fa, ke, ms⟩ : Ac) := ⟨_, rfl⟩
 rw [<- hr]
 replace hr : r = (rng cl 0 3 && (isTs tx 1 100 33 && (decide ((⟨6, fc, n, cl, tx, fa, ke, ms⟩ : Ac) = onlyA (⟨6, fc, n, cl, tx, fa, ke, ms⟩ : Ac))))) := by
  rw [hr]; unfold vAc; simp only [fieldsA]; first | rfl | (simp [Bool.and_assoc])
 have hO := hid (fun W (hX : Ext w W) => sonly_any a1 n1 c1 a2 n2 c2 a3 n3 c3 a4 n4 c4 a5 n5 c5 (⟨6, fc, n, cl, tx, fa, ke, ms⟩ : Ac) W ((h.ext hX).mono (fun k hk => Nat.lt_of_lt_of_le hk hX.size)))
 generalize decide ((⟨6, fc, n, cl, tx, fa, ke, ms⟩ : Ac) = onlyA (⟨6, fc, n, cl, tx, fa, ke, ms⟩ : Ac)) = od at hr hO
 have c_c := hid (fun W (hX : Ext w W) => sclass_any cl W)
 have c_x := hid (fun W (hX : Ext w W) => stext_any ⟨tx.toArray⟩ 1 100 33 (by decide) W)
 generalize rng cl 0 3 = b_c at hr c_c
 simp only [] at c_x
 generalize isTs tx 1 100 33 = b_x at hr c_x
 unfold acA at hO
 try dsimp only at hO
 have hz := heap_alloc_new w (.cells (y6 6 fc a1 n1 c1 a2 n2 c2 a3 n3 c3 n cl tx a4 n4 c4 a5 n5 c5 ms) 32)
 have hx := Mod.alloc (Mod.refl (fun _ => False) w) (.cells (y6 6 fc a1 n1 c1 a2 n2 c2 a3 n3 c3 n cl tx a4 n4 c4 a5 n5 c5 ms) 32)
 try dsimp only at hz hx
 replace hr := hid hr
 clear h
 unfold acA
 try dsimp only
 go_enter Tryz.func14, Tryz.ntmps14
 go_upto_region 1 with (fail)
 generalize (w.alloc _) = W at hz hx ⊢
 generalize w.heap.size = R at hz ⊢
 have hA := hid hz
 replace hx := hid hx
 clear hz
 have q_kd : W.cell? ⟨R, 0, none⟩ = some (.int .i64 6) := cell_of' hA.out 0
 have s_cl : W.cell? ⟨R, 25, none⟩ = some (.int .i64 cl) := cell_of' hA.out 25
 have s_tx : W.cell? ⟨R, 26, none⟩ = some (.string ⟨tx.toArray⟩) := cell_of' hA.out 26
 go_wp2_with fail
 refine (c_c.out _ hx.out).mono ?_; rintro e w' ⟨rfl, rfl⟩
 cases b_c with
 | false =>
  go_wp2_with fail
  go_ret
  exact ⟨by rw [hr.out]; simp, hx.out⟩
 | true =>
 go_wp2_with fail
 refine (c_x.out _ hx.out).mono ?_; rintro e w' ⟨rfl, rfl⟩
 cases b_x with
 | false =>
  go_wp2_with fail
  go_ret
  exact ⟨by rw [hr.out]; simp, hx.out⟩
 | true =>
 go_wp2_with (refine wpList_loadW (by rfl) 32 _ rfl R _ _ _ _ rfl hA.out Tryz.underlying32 rfl (by kernel_rfl) ?_)
 refine (hO.out _ hx.out).mono ?_; rintro e W9 ⟨rfl, hxn⟩
 go_wp2_with fail
 go_ret
 exact ⟨by rw [hr.out]; simp, hx.out.trans hxn⟩
theorem svalid_k7 (a1 : Option Addr) (n1 c1 : Nat) (a2 : Option Addr) (n2 c2 : Nat) (a3 : Option Addr) (n3 c3 : Nat) (a4 : Option Addr) (n4 c4 : Nat) (a5 : Option Addr) (n5 c5 : Nat) (fc : Fc) (n cl : Int) (tx : Bs) (fa ke : List Int) (ms : Ms) (w : World) (h : AcAt (fun k => k < w.heap.size) w ⟨⟨.slice a1 n1 c1, .slice a2 n2 c2, .slice a3 n3 c3⟩, .slice a4 n4 c4, .slice a5 n5 c5⟩ (⟨7, fc, n, cl, tx, fa, ke, ms⟩ : Ac)) :
  Calls Tryz.prog 14 #[.agg (acA a1 n1 c1 a2 n2 c2 a3 n3 c3 a4 n4 c4 a5 n5 c5 (⟨7, fc, n, cl, tx, fa, ke, ms⟩ : Ac))] w fun e w' => e = .returned (.bool (vAc (⟨7, fc, n, cl, tx, fa, ke, ms⟩ : Ac))) /\ Ext w w' := by
 obtain ⟨r, hr⟩ : ∃ r, r = vAc (⟨7, fc, n, cl, tx, fa, ke, ms⟩ : Ac) := ⟨_, rfl⟩
 rw [<- hr]
 replace hr : r = (rng cl 0 3 && (rng n 0 64 && (isTs tx 0 300 32 && (decide ((⟨7, fc, n, cl, tx, fa, ke, ms⟩ : Ac) = onlyA (⟨7, fc, n, cl, tx, fa, ke, ms⟩ : Ac)))))) := by
  rw [hr]; unfold vAc; simp only [fieldsA]; first | rfl | (simp [Bool.and_assoc])
 have hO := hid (fun W (hX : Ext w W) => sonly_any a1 n1 c1 a2 n2 c2 a3 n3 c3 a4 n4 c4 a5 n5 c5 (⟨7, fc, n, cl, tx, fa, ke, ms⟩ : Ac) W ((h.ext hX).mono (fun k hk => Nat.lt_of_lt_of_le hk hX.size)))
 generalize decide ((⟨7, fc, n, cl, tx, fa, ke, ms⟩ : Ac) = onlyA (⟨7, fc, n, cl, tx, fa, ke, ms⟩ : Ac)) = od at hr hO
 have c_c := hid (fun W (hX : Ext w W) => sclass_any cl W)
 have c_n := hid (fun W (hX : Ext w W) => swithin_any n 0 64 W)
 have c_x := hid (fun W (hX : Ext w W) => stext_any ⟨tx.toArray⟩ 0 300 32 (by decide) W)
 generalize rng cl 0 3 = b_c at hr c_c
 generalize rng n 0 64 = b_n at hr c_n
 simp only [] at c_x
 generalize isTs tx 0 300 32 = b_x at hr c_x
 unfold acA at hO
 try dsimp only at hO
 have hz := heap_alloc_new w (.cells (y6 7 fc a1 n1 c1 a2 n2 c2 a3 n3 c3 n cl tx a4 n4 c4 a5 n5 c5 ms) 32)
 have hx := Mod.alloc (Mod.refl (fun _ => False) w) (.cells (y6 7 fc a1 n1 c1 a2 n2 c2 a3 n3 c3 n cl tx a4 n4 c4 a5 n5 c5 ms) 32)
 try dsimp only at hz hx
 replace hr := hid hr
 clear h
 unfold acA
 try dsimp only
 go_enter Tryz.func14, Tryz.ntmps14
 go_upto_region 1 with (fail)
 generalize (w.alloc _) = W at hz hx ⊢
 generalize w.heap.size = R at hz ⊢
 have hA := hid hz
 replace hx := hid hx
 clear hz
 have q_kd : W.cell? ⟨R, 0, none⟩ = some (.int .i64 7) := cell_of' hA.out 0
 have s_cl : W.cell? ⟨R, 25, none⟩ = some (.int .i64 cl) := cell_of' hA.out 25
 have s_n : W.cell? ⟨R, 24, none⟩ = some (.int .i64 n) := cell_of' hA.out 24
 have s_tx : W.cell? ⟨R, 26, none⟩ = some (.string ⟨tx.toArray⟩) := cell_of' hA.out 26
 go_wp2_with fail
 refine (c_c.out _ hx.out).mono ?_; rintro e w' ⟨rfl, rfl⟩
 cases b_c with
 | false =>
  go_wp2_with fail
  go_ret
  exact ⟨by rw [hr.out]; simp, hx.out⟩
 | true =>
 go_wp2_with fail
 refine (c_n.out _ hx.out).mono ?_; rintro e w' ⟨rfl, rfl⟩
 cases b_n with
 | false =>
  go_wp2_with fail
  go_ret
  exact ⟨by rw [hr.out]; simp, hx.out⟩
 | true =>
 go_wp2_with fail
 refine (c_x.out _ hx.out).mono ?_; rintro e w' ⟨rfl, rfl⟩
 cases b_x with
 | false =>
  go_wp2_with fail
  go_ret
  exact ⟨by rw [hr.out]; simp, hx.out⟩
 | true =>
 go_wp2_with (refine wpList_loadW (by rfl) 32 _ rfl R _ _ _ _ rfl hA.out Tryz.underlying32 rfl (by kernel_rfl) ?_)
 refine (hO.out _ hx.out).mono ?_; rintro e W9 ⟨rfl, hxn⟩
 go_wp2_with fail
 go_ret
 exact ⟨by rw [hr.out]; simp, hx.out.trans hxn⟩
theorem svalid_k8 (a1 : Option Addr) (n1 c1 : Nat) (a2 : Option Addr) (n2 c2 : Nat) (a3 : Option Addr) (n3 c3 : Nat) (a4 : Option Addr) (n4 c4 : Nat) (a5 : Option Addr) (n5 c5 : Nat) (fc : Fc) (n cl : Int) (tx : Bs) (fa ke : List Int) (ms : Ms) (w : World) (h : AcAt (fun k => k < w.heap.size) w ⟨⟨.slice a1 n1 c1, .slice a2 n2 c2, .slice a3 n3 c3⟩, .slice a4 n4 c4, .slice a5 n5 c5⟩ (⟨8, fc, n, cl, tx, fa, ke, ms⟩ : Ac)) :
  Calls Tryz.prog 14 #[.agg (acA a1 n1 c1 a2 n2 c2 a3 n3 c3 a4 n4 c4 a5 n5 c5 (⟨8, fc, n, cl, tx, fa, ke, ms⟩ : Ac))] w fun e w' => e = .returned (.bool (vAc (⟨8, fc, n, cl, tx, fa, ke, ms⟩ : Ac))) /\ Ext w w' := by
 obtain ⟨r, hr⟩ : ∃ r, r = vAc (⟨8, fc, n, cl, tx, fa, ke, ms⟩ : Ac) := ⟨_, rfl⟩
 rw [<- hr]
 replace hr : r = (vMs ms && (decide ((⟨8, fc, n, cl, tx, fa, ke, ms⟩ : Ac) = onlyA (⟨8, fc, n, cl, tx, fa, ke, ms⟩ : Ac)))) := by
  rw [hr]; unfold vAc; simp only [fieldsA]; first | rfl | (simp [Bool.and_assoc])
 have hO := hid (fun W (hX : Ext w W) => sonly_any a1 n1 c1 a2 n2 c2 a3 n3 c3 a4 n4 c4 a5 n5 c5 (⟨8, fc, n, cl, tx, fa, ke, ms⟩ : Ac) W ((h.ext hX).mono (fun k hk => Nat.lt_of_lt_of_le hk hX.size)))
 generalize decide ((⟨8, fc, n, cl, tx, fa, ke, ms⟩ : Ac) = onlyA (⟨8, fc, n, cl, tx, fa, ke, ms⟩ : Ac)) = od at hr hO
 have c_m := hid (fun W (hX : Ext w W) => msgValid_any ms W)
 unfold msC strV at c_m
 generalize vMs ms = b_m at hr c_m
 unfold acA at hO
 try dsimp only at hO
 have hz := heap_alloc_new w (.cells (y6 8 fc a1 n1 c1 a2 n2 c2 a3 n3 c3 n cl tx a4 n4 c4 a5 n5 c5 ms) 32)
 have hx := Mod.alloc (Mod.refl (fun _ => False) w) (.cells (y6 8 fc a1 n1 c1 a2 n2 c2 a3 n3 c3 n cl tx a4 n4 c4 a5 n5 c5 ms) 32)
 try dsimp only at hz hx
 replace hr := hid hr
 clear h
 unfold acA
 try dsimp only
 go_enter Tryz.func14, Tryz.ntmps14
 go_upto_region 1 with (fail)
 generalize (w.alloc _) = W at hz hx ⊢
 generalize w.heap.size = R at hz ⊢
 have hA := hid hz
 replace hx := hid hx
 clear hz
 have q_kd : W.cell? ⟨R, 0, none⟩ = some (.int .i64 8) := cell_of' hA.out 0
 have hAl : Hid (W.heap[R]? = some (.cells (((y9 8 fc a1 n1 c1 a2 n2 c2 a3 n3 c3 n cl tx a4 n4 c4 a5 n5 c5) : List Value) ++ (((y10 ms) : List Value) ++ ([] : List Value))).toArray 32 (0, 0))) := hid hA.out
 go_wp2_with (refine wpList_loadA rfl 30 _ rfl R 29 (y9 8 fc a1 n1 c1 a2 n2 c2 a3 n3 c3 n cl tx a4 n4 c4 a5 n5 c5) (y10 ms) [] _ _ _ rfl rfl hAl.out Tryz.underlying30 rfl (by kernel_rfl) ?_)
 refine (c_m.out _ hx.out).mono ?_; rintro e W5 ⟨rfl, hxn⟩
 replace hA := hid (hxn.at hA.out (fun h => h))
 replace hx := hid (hx.out.trans hxn)
 clear hxn
 cases b_m with
 | false =>
  go_wp2_with fail
  go_ret
  exact ⟨by rw [hr.out]; simp, hx.out⟩
 | true =>
 go_wp2_with (refine wpList_loadW (by rfl) 32 _ rfl R _ _ _ _ rfl hA.out Tryz.underlying32 rfl (by kernel_rfl) ?_)
 refine (hO.out _ hx.out).mono ?_; rintro e W9 ⟨rfl, hxn⟩
 go_wp2_with fail
 go_ret
 exact ⟨by rw [hr.out]; simp, hx.out.trans hxn⟩
theorem svalid_k9 (a1 : Option Addr) (n1 c1 : Nat) (a2 : Option Addr) (n2 c2 : Nat) (a3 : Option Addr) (n3 c3 : Nat) (a4 : Option Addr) (n4 c4 : Nat) (a5 : Option Addr) (n5 c5 : Nat) (fc : Fc) (n cl : Int) (tx : Bs) (fa ke : List Int) (ms : Ms) (w : World) (h : AcAt (fun k => k < w.heap.size) w ⟨⟨.slice a1 n1 c1, .slice a2 n2 c2, .slice a3 n3 c3⟩, .slice a4 n4 c4, .slice a5 n5 c5⟩ (⟨9, fc, n, cl, tx, fa, ke, ms⟩ : Ac)) :
  Calls Tryz.prog 14 #[.agg (acA a1 n1 c1 a2 n2 c2 a3 n3 c3 a4 n4 c4 a5 n5 c5 (⟨9, fc, n, cl, tx, fa, ke, ms⟩ : Ac))] w fun e w' => e = .returned (.bool (vAc (⟨9, fc, n, cl, tx, fa, ke, ms⟩ : Ac))) /\ Ext w w' := by
 obtain ⟨r, hr⟩ : ∃ r, r = vAc (⟨9, fc, n, cl, tx, fa, ke, ms⟩ : Ac) := ⟨_, rfl⟩
 rw [<- hr]
 replace hr : r = (decide ((⟨9, fc, n, cl, tx, fa, ke, ms⟩ : Ac) = onlyA (⟨9, fc, n, cl, tx, fa, ke, ms⟩ : Ac))) := by
  rw [hr]; unfold vAc; simp only [fieldsA]; first | rfl | (simp [Bool.and_assoc])
 have hO := hid (fun W (hX : Ext w W) => sonly_any a1 n1 c1 a2 n2 c2 a3 n3 c3 a4 n4 c4 a5 n5 c5 (⟨9, fc, n, cl, tx, fa, ke, ms⟩ : Ac) W ((h.ext hX).mono (fun k hk => Nat.lt_of_lt_of_le hk hX.size)))
 generalize decide ((⟨9, fc, n, cl, tx, fa, ke, ms⟩ : Ac) = onlyA (⟨9, fc, n, cl, tx, fa, ke, ms⟩ : Ac)) = od at hr hO
 unfold acA at hO
 try dsimp only at hO
 have hz := heap_alloc_new w (.cells (y6 9 fc a1 n1 c1 a2 n2 c2 a3 n3 c3 n cl tx a4 n4 c4 a5 n5 c5 ms) 32)
 have hx := Mod.alloc (Mod.refl (fun _ => False) w) (.cells (y6 9 fc a1 n1 c1 a2 n2 c2 a3 n3 c3 n cl tx a4 n4 c4 a5 n5 c5 ms) 32)
 try dsimp only at hz hx
 replace hr := hid hr
 clear h
 unfold acA
 try dsimp only
 go_enter Tryz.func14, Tryz.ntmps14
 go_upto_region 1 with (fail)
 generalize (w.alloc _) = W at hz hx ⊢
 generalize w.heap.size = R at hz ⊢
 have hA := hid hz
 replace hx := hid hx
 clear hz
 have q_kd : W.cell? ⟨R, 0, none⟩ = some (.int .i64 9) := cell_of' hA.out 0
 go_wp2_with (refine wpList_loadW (by rfl) 32 _ rfl R _ _ _ _ rfl hA.out Tryz.underlying32 rfl (by kernel_rfl) ?_)
 refine (hO.out _ hx.out).mono ?_; rintro e W9 ⟨rfl, hxn⟩
 go_wp2_with fail
 go_ret
 exact ⟨by rw [hr.out]; simp, hx.out.trans hxn⟩
theorem svalid_k1 (a1 : Option Addr) (n1 c1 : Nat) (a2 : Option Addr) (n2 c2 : Nat) (a3 : Option Addr) (n3 c3 : Nat) (a4 : Option Addr) (n4 c4 : Nat) (a5 : Option Addr) (n5 c5 : Nat) (fc : Fc) (n cl : Int) (tx : Bs) (fa ke : List Int) (ms : Ms) (w : World) (h : AcAt (fun k => k < w.heap.size) w ⟨⟨.slice a1 n1 c1, .slice a2 n2 c2, .slice a3 n3 c3⟩, .slice a4 n4 c4, .slice a5 n5 c5⟩ (⟨1, fc, n, cl, tx, fa, ke, ms⟩ : Ac)) :
  Calls Tryz.prog 14 #[.agg (acA a1 n1 c1 a2 n2 c2 a3 n3 c3 a4 n4 c4 a5 n5 c5 (⟨1, fc, n, cl, tx, fa, ke, ms⟩ : Ac))] w fun e w' => e = .returned (.bool (vAc (⟨1, fc, n, cl, tx, fa, ke, ms⟩ : Ac))) /\ Ext w w' := by
 obtain ⟨r, hr⟩ : ∃ r, r = vAc (⟨1, fc, n, cl, tx, fa, ke, ms⟩ : Ac) := ⟨_, rfl⟩
 rw [<- hr]
 replace hr : r = (decide (fc.n = 0) && (decide (fc.tm = 0) && (!decide (fc.kd = 10) && (vFc fc && (decide ((⟨1, fc, n, cl, tx, fa, ke, ms⟩ : Ac) = onlyA (⟨1, fc, n, cl, tx, fa, ke, ms⟩ : Ac))))))) := by
  rw [hr]; unfold vAc; simp only [fieldsA]; first | rfl | (simp [Bool.and_assoc])
 have hO := hid (fun W (hX : Ext w W) => sonly_any a1 n1 c1 a2 n2 c2 a3 n3 c3 a4 n4 c4 a5 n5 c5 (⟨1, fc, n, cl, tx, fa, ke, ms⟩ : Ac) W ((h.ext hX).mono (fun k hk => Nat.lt_of_lt_of_le hk hX.size)))
 generalize decide ((⟨1, fc, n, cl, tx, fa, ke, ms⟩ : Ac) = onlyA (⟨1, fc, n, cl, tx, fa, ke, ms⟩ : Ac)) = od at hr hO
 have c_v := hid (fun W (hX : Ext w W) => fvalid_any a1 n1 c1 a2 n2 c2 a3 n3 c3 fc W ((h.fc.ext hX).mono (fun k hk => Nat.lt_of_lt_of_le hk hX.size)))
 have e_n := int_beq fc.n 0
 generalize decide (fc.n = 0) = b_n at hr e_n
 have e_t := int_beq fc.tm 0
 generalize decide (fc.tm = 0) = b_t at hr e_t
 have e_k := int_bne fc.kd 10
 generalize decide (fc.kd = 10) = b_k at hr e_k
 generalize vFc fc = b_v at hr c_v
 unfold acA at hO
 try dsimp only at hO
 have hz := heap_alloc_new w (.cells (y6 1 fc a1 n1 c1 a2 n2 c2 a3 n3 c3 n cl tx a4 n4 c4 a5 n5 c5 ms) 32)
 have hx := Mod.alloc (Mod.refl (fun _ => False) w) (.cells (y6 1 fc a1 n1 c1 a2 n2 c2 a3 n3 c3 n cl tx a4 n4 c4 a5 n5 c5 ms) 32)
 try dsimp only at hz hx
 replace hr := hid hr
 clear h
 unfold acA
 try dsimp only
 go_enter Tryz.func14, Tryz.ntmps14
 go_upto_region 1 with (fail)
 generalize (w.alloc _) = W at hz hx ⊢
 generalize w.heap.size = R at hz ⊢
 have hA := hid hz
 replace hx := hid hx
 clear hz
 have q_kd : W.cell? ⟨R, 0, none⟩ = some (.int .i64 1) := cell_of' hA.out 0
 have hAl : Hid (W.heap[R]? = some (.cells (([.int .i64 1] : List Value) ++ (((y7 fc a1 n1 c1 a2 n2 c2 a3 n3 c3) : List Value) ++ ((y8 n cl tx a4 n4 c4 a5 n5 c5 ms) : List Value))).toArray 32 (0, 0))) := hid hA.out
 go_upto_region 4 with (first | (refine wpList_loadA rfl 28 _ rfl R 1 [.int .i64 1] (y7 fc a1 n1 c1 a2 n2 c2 a3 n3 c3) (y8 n cl tx a4 n4 c4 a5 n5 c5 ms) _ _ _ rfl rfl hAl.out Tryz.underlying28 rfl (by kernel_rfl) ?_) | (refine wpList_storeW rfl 28 _ _ rfl W.heap.size _ _ 28 rfl rfl (heap_alloc_new W _) rfl (by kernel_rfl) rfl (fun WS HS => ?_)))
 have hm2 := ((Mod.alloc (Mod.refl (fun _ => False) W) (.cells zF9 28)).mono (T := fun k => W.heap.size <= k) (fun _ h => h.elim)).then HS.out.2 (fun k _ e => by omega)
 have hX2 : Ext W WS := hm2.mono' (fun k h1 h2 => by omega)
 have hU := HS.out.1
 generalize W.heap.size = R2 at hU ⊢
 clear hm2 HS q_kd hAl
 replace hA := hid (hX2.at hA.out (fun h => h))
 replace hx := hid (hx.out.trans hX2)
 clear hX2
 have u_n : WS.cell? ⟨R2, 0, none⟩ = some (.int .i64 fc.n) := cell_of' hU 0
 have u_tm : WS.cell? ⟨R2, 1, none⟩ = some (.int .i64 fc.tm) := cell_of' hU 1
 have u_kd : WS.cell? ⟨R2, 2, none⟩ = some (.int .i64 fc.kd) := cell_of' hU 2
 replace hU := hid hU
 unfold fcA at c_v
 cases b_n with
 | false =>
  go_wp2_with fail
  go_ret
  exact ⟨by rw [hr.out]; simp, hx.out⟩
 | true =>
 cases b_t with
 | false =>
  go_wp2_with fail
  go_ret
  exact ⟨by rw [hr.out]; simp, hx.out⟩
 | true =>
 cases b_k with
 | true =>
  go_wp2_with fail
  go_ret
  exact ⟨by rw [hr.out]; simp, hx.out⟩
 | false =>
 go_wp2_with (refine wpList_loadW (by rfl) 28 _ rfl R2 _ _ _ _ rfl hU.out Tryz.underlying28 rfl (by kernel_rfl) ?_)
 refine (c_v.out _ hx.out).mono ?_; rintro e W5 ⟨rfl, hxn⟩
 replace hA := hid (hxn.at hA.out (fun h => h))
 replace hx := hid (hx.out.trans hxn)
 clear hxn hU u_n u_tm u_kd
 cases b_v with
 | false =>
  go_wp2_with fail
  go_ret
  exact ⟨by rw [hr.out]; simp, hx.out⟩
 | true =>
 go_wp2_with (refine wpList_loadW (by rfl) 32 _ rfl R _ _ _ _ rfl hA.out Tryz.underlying32 rfl (by kernel_rfl) ?_)
 refine (hO.out _ hx.out).mono ?_; rintro e W9 ⟨rfl, hxn⟩
 go_wp2_with fail
 go_ret
 exact ⟨by rw [hr.out]; simp, hx.out.trans hxn⟩
theorem svalid_k0 (a1 : Option Addr) (n1 c1 : Nat) (a2 : Option Addr) (n2 c2 : Nat) (a3 : Option Addr) (n3 c3 : Nat) (a4 : Option Addr) (n4 c4 : Nat) (a5 : Option Addr) (n5 c5 : Nat) (fc : Fc) (n cl : Int) (tx : Bs) (fa ke : List Int) (ms : Ms) (kd : Int) (hk : ∀ i : Int, 1 <= i -> i <= 10 -> kd ≠ i) (w : World) (_h : AcAt (fun k => k < w.heap.size) w ⟨⟨.slice a1 n1 c1, .slice a2 n2 c2, .slice a3 n3 c3⟩, .slice a4 n4 c4, .slice a5 n5 c5⟩ (⟨kd, fc, n, cl, tx, fa, ke, ms⟩ : Ac)) :
  Calls Tryz.prog 14 #[.agg (acA a1 n1 c1 a2 n2 c2 a3 n3 c3 a4 n4 c4 a5 n5 c5 (⟨kd, fc, n, cl, tx, fa, ke, ms⟩ : Ac))] w fun e w' => e = .returned (.bool (vAc (⟨kd, fc, n, cl, tx, fa, ke, ms⟩ : Ac))) /\ Ext w w' := by
 obtain ⟨r, hr⟩ : ∃ r, r = vAc (⟨kd, fc, n, cl, tx, fa, ke, ms⟩ : Ac) := ⟨_, rfl⟩
 rw [<- hr]
 have g1 : ¬ kd = 1 := hk 1 (by decide) (by decide)
 have e1 : (kd == 1) = false := by rw [beq_eq_false_iff_ne]; exact g1
 have g2 : ¬ kd = 2 := hk 2 (by decide) (by decide)
 have e2 : (kd == 2) = false := by rw [beq_eq_false_iff_ne]; exact g2
 have g3 : ¬ kd = 3 := hk 3 (by decide) (by decide)
 have e3 : (kd == 3) = false := by rw [beq_eq_false_iff_ne]; exact g3
 have g4 : ¬ kd = 4 := hk 4 (by decide) (by decide)
 have e4 : (kd == 4) = false := by rw [beq_eq_false_iff_ne]; exact g4
 have g5 : ¬ kd = 5 := hk 5 (by decide) (by decide)
 have e5 : (kd == 5) = false := by rw [beq_eq_false_iff_ne]; exact g5
 have g6 : ¬ kd = 6 := hk 6 (by decide) (by decide)
 have e6 : (kd == 6) = false := by rw [beq_eq_false_iff_ne]; exact g6
 have g7 : ¬ kd = 7 := hk 7 (by decide) (by decide)
 have e7 : (kd == 7) = false := by rw [beq_eq_false_iff_ne]; exact g7
 have g8 : ¬ kd = 8 := hk 8 (by decide) (by decide)
 have e8 : (kd == 8) = false := by rw [beq_eq_false_iff_ne]; exact g8
 have g9 : ¬ kd = 9 := hk 9 (by decide) (by decide)
 have e9 : (kd == 9) = false := by rw [beq_eq_false_iff_ne]; exact g9
 have g10 : ¬ kd = 10 := hk 10 (by decide) (by decide)
 have e10 : (kd == 10) = false := by rw [beq_eq_false_iff_ne]; exact g10
 replace hr : r = false := by
  rw [hr]; unfold vAc fieldsA
  simp only [g1, g2, g3, g4, g5, g6, g7, g8, g9, g10, if_false]
  rfl
 replace g1 := hid g1
 replace g2 := hid g2
 replace g3 := hid g3
 replace g4 := hid g4
 replace g5 := hid g5
 replace g6 := hid g6
 replace g7 := hid g7
 replace g8 := hid g8
 replace g9 := hid g9
 replace g10 := hid g10
 have hz := heap_alloc_new w (.cells (y11 kd fc a1 n1 c1 a2 n2 c2 a3 n3 c3 n cl tx a4 n4 c4 a5 n5 c5 ms) 32)
 have hx := Mod.alloc (Mod.refl (fun _ => False) w) (.cells (y11 kd fc a1 n1 c1 a2 n2 c2 a3 n3 c3 n cl tx a4 n4 c4 a5 n5 c5 ms) 32)
 try dsimp only at hz hx
 replace hr := hid hr
 clear _h
 unfold acA
 try dsimp only
 go_enter Tryz.func14, Tryz.ntmps14
 go_upto_region 1 with (fail)
 generalize (w.alloc _) = W at hz hx ⊢
 generalize w.heap.size = R at hz ⊢
 have hA := hid hz
 replace hx := hid hx
 clear hz
 have q_kd : W.cell? ⟨R, 0, none⟩ = some (.int .i64 kd) := cell_of' hA.out 0
 go_wp2_with fail
 go_ret
 exact ⟨by rw [hr.out]; try rfl, hx.out⟩
theorem svalid_any (a1 : Option Addr) (n1 c1 : Nat) (a2 : Option Addr) (n2 c2 : Nat) (a3 : Option Addr) (n3 c3 : Nat) (a4 : Option Addr) (n4 c4 : Nat) (a5 : Option Addr) (n5 c5 : Nat) (a : Ac) (w : World) (h : AcAt (fun k => k < w.heap.size) w ⟨⟨.slice a1 n1 c1, .slice a2 n2 c2, .slice a3 n3 c3⟩, .slice a4 n4 c4, .slice a5 n5 c5⟩ a) :
  Calls Tryz.prog 14 #[.agg (acA a1 n1 c1 a2 n2 c2 a3 n3 c3 a4 n4 c4 a5 n5 c5 a)] w fun e w' => e = .returned (.bool (vAc a)) /\ Ext w w' := by
 obtain ⟨kd, fc, n, cl, tx, fa, ke, ms⟩ := a
 by_cases g1 : kd = 1
 ·subst g1; exact svalid_k1 a1 n1 c1 a2 n2 c2 a3 n3 c3 a4 n4 c4 a5 n5 c5 fc n cl tx fa ke ms w h
 by_cases g2 : kd = 2
 ·subst g2; exact svalid_k2 a1 n1 c1 a2 n2 c2 a3 n3 c3 a4 n4 c4 a5 n5 c5 fc n cl tx fa ke ms w h
 by_cases g3 : kd = 3
 ·subst g3; exact svalid_k3 a1 n1 c1 a2 n2 c2 a3 n3 c3 a4 n4 c4 a5 n5 c5 fc n cl tx fa ke ms w h
 by_cases g4 : kd = 4
 ·subst g4; exact svalid_k4 a1 n1 c1 a2 n2 c2 a3 n3 c3 a4 n4 c4 a5 n5 c5 fc n cl tx fa ke ms w h
 by_cases g5 : kd = 5
 ·subst g5; exact svalid_k5 a1 n1 c1 a2 n2 c2 a3 n3 c3 a4 n4 c4 a5 n5 c5 fc n cl tx fa ke ms w h
 by_cases g6 : kd = 6
 ·subst g6; exact svalid_k6 a1 n1 c1 a2 n2 c2 a3 n3 c3 a4 n4 c4 a5 n5 c5 fc n cl tx fa ke ms w h
 by_cases g7 : kd = 7
 ·subst g7; exact svalid_k7 a1 n1 c1 a2 n2 c2 a3 n3 c3 a4 n4 c4 a5 n5 c5 fc n cl tx fa ke ms w h
 by_cases g8 : kd = 8
 ·subst g8; exact svalid_k8 a1 n1 c1 a2 n2 c2 a3 n3 c3 a4 n4 c4 a5 n5 c5 fc n cl tx fa ke ms w h
 by_cases g9 : kd = 9
 ·subst g9; exact svalid_k9 a1 n1 c1 a2 n2 c2 a3 n3 c3 a4 n4 c4 a5 n5 c5 fc n cl tx fa ke ms w h
 by_cases g10 : kd = 10
 ·subst g10; exact svalid_k10 a1 n1 c1 a2 n2 c2 a3 n3 c3 a4 n4 c4 a5 n5 c5 fc n cl tx fa ke ms w h
 exact svalid_k0 a1 n1 c1 a2 n2 c2 a3 n3 c3 a4 n4 c4 a5 n5 c5 fc n cl tx fa ke ms kd (fun i h1 h2 e => by omega) w h
end Go.Proofs.YtpaefpnkemkikaaGreatDoor
