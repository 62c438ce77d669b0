import Derived.Test.YtpaefpnkemkikaaGreatDoorC9
import Derived.Test.YtpaefpnkemkikaaGreatDoorB5
import Derived.Test.YtpaefpnkemkikaaGreatDoorLoadR
import Derived.Test.YtpaefpnkemkikaaGreatDoorF4
set_option maxRecDepth 100000
set_option maxHeartbeats 16000000
namespace Go.Proofs.YtpaefpnkemkikaaGreatDoor
open Go.RowKit Cdk Scr
theorem rsame_any {F : Nat -> Prop} (a11 : Option Addr) (n11 c11 : Nat) (a12 : Option Addr) (n12 c12 : Nat) (a13 : Option Addr) (n13 c13 : Nat) (a14 : Option Addr) (n14 c14 : Nat) (a15 : Option Addr) (n15 c15 : Nat) (a : Ac) (a21 : Option Addr) (n21 c21 : Nat) (a22 : Option Addr) (n22 c22 : Nat) (a23 : Option Addr) (n23 c23 : Nat) (a24 : Option Addr) (n24 c24 : Nat) (a25 : Option Addr) (n25 c25 : Nat) (b : Ac) (w : World) (h1 : AcAt F w ⟨⟨.slice a11 n11 c11, .slice a12 n12 c12, .slice a13 n13 c13⟩, .slice a14 n14 c14, .slice a15 n15 c15⟩ a) (h2 : AcAt F w ⟨⟨.slice a21 n21 c21, .slice a22 n22 c22, .slice a23 n23 c23⟩, .slice a24 n24 c24, .slice a25 n25 c25⟩ b) :
  Calls Tryz.prog 17 #[.agg (acA a11 n11 c11 a12 n12 c12 a13 n13 c13 a14 n14 c14 a15 n15 c15 a), .agg (acA a21 n21 c21 a22 n22 c22 a23 n23 c23 a24 n24 c24 a25 n25 c25 b)] w fun e w' => e = .returned (.bool (decide (a = b))) /\ Ext w w' := by
 obtain ⟨r, hr⟩ : ∃ r, r = decide (a = b) := ⟨_, rfl⟩
 rw [<- hr]
 have H1 := hid (fun W (hX : Ext w W) => rints_any (F := F) (.slice a14 n14 c14) (.slice a24 n24 c24) a.fa b.fa W (h1.fa.ext hX) (h2.fa.ext hX))
 have H2 := hid (fun W (hX : Ext w W) => rints_any (F := F) (.slice a15 n15 c15) (.slice a25 n25 c25) a.ke b.ke W (h1.ke.ext hX) (h2.ke.ext hX))
 have H3 := hid (fun W (hX : Ext w W) => rfactSame_any (F := F) a11 n11 c11 a12 n12 c12 a13 n13 c13 a.fc a21 n21 c21 a22 n22 c22 a23 n23 c23 b.fc W (h1.fc.ext hX) (h2.fc.ext hX))
 clear h1 h2
 obtain ⟨k1, f1, n1, cl1, x1, fa1, ke1, m1⟩ := a
 obtain ⟨m1kd, m1pa, m1sq, m1st, m1ba, m1ve, m1da⟩ := m1
 obtain ⟨k2, f2, n2, cl2, x2, fa2, ke2, m2⟩ := b
 obtain ⟨m2kd, m2pa, m2sq, m2st, m2ba, m2ve, m2da⟩ := m2
 replace hr : r = (decide (f1 = f2) && (decide (fa1 = fa2) && (decide (ke1 = ke2) && (decide (k1 = k2) && (decide (n1 = n2) && (decide (cl1 = cl2) && (decide (x1 = x2) && (decide ((⟨m1kd, m1pa, m1sq, m1st, m1ba, m1ve, m1da⟩ : Ms) = ⟨m2kd, m2pa, m2sq, m2st, m2ba, m2ve, m2da⟩))))))))) := by
  rw [hr, Bool.eq_iff_iff]
  simp only [Ac.mk.injEq, decide_eq_true_eq, Bool.and_eq_true]
  constructor
  ·rintro ⟨h1, h2, h3, h4, h5, h6, h7, h8⟩; exact ⟨h2, h6, h7, h1, h3, h4, h5, h8⟩
  ·rintro ⟨h2, h6, h7, h1, h3, h4, h5, h8⟩; exact ⟨h1, h2, h3, h4, h5, h6, h7, h8⟩
 simp only at H1 H2 H3
 generalize decide (fa1 = fa2) = b_fa at hr H1
 generalize decide (ke1 = ke2) = b_ke at hr H2
 generalize decide (f1 = f2) = b_f at hr H3
 have hms := fun W => msEq_run ⟨m1kd, m1pa, m1sq, m1st, m1ba, m1ve, m1da⟩ ⟨m2kd, m2pa, m2sq, m2st, m2ba, m2ve, m2da⟩ W
 unfold msC strV at hms
 simp only at hms
 generalize decide ((⟨m1kd, m1pa, m1sq, m1st, m1ba, m1ve, m1da⟩ : Ms) = ⟨m2kd, m2pa, m2sq, m2st, m2ba, m2ve, m2da⟩) = b_m at hr hms
 have e_k := int_beq k1 k2
 generalize decide (k1 = k2) = b_k at hr e_k
 have e_n := int_beq n1 n2
 generalize decide (n1 = n2) = b_n at hr e_n
 have e_cl := int_beq cl1 cl2
 generalize decide (cl1 = cl2) = b_cl at hr e_cl
 have e_x := bs_beq x1 x2
 generalize decide (x1 = x2) = b_x at hr e_x
 replace hr := hid hr
 obtain ⟨hx, hA, hB, -⟩ := two_boxes w #[.int .i64 k1, .int .i64 f1.n, .int .i64 f1.tm, .int .i64 f1.kd, .int .i64 f1.st, .string ⟨f1.lg.toArray⟩, .int .i64 f1.rv, .int .i64 f1.bs, .string ⟨f1.ti.toArray⟩, .string ⟨f1.au.toArray⟩, .slice a11 n11 c11, .slice a12 n12 c12, .int .i64 f1.lb.til, .slice a13 n13 c13, .int .i64 f1.lb.app, .int .i64 f1.lb.den, .int .i64 f1.ed, .int .i64 f1.bk, .int .i64 f1.se, .string ⟨f1.tx.toArray⟩, .string ⟨f1.nm.toArray⟩, .int .i64 f1.pa, .int .i64 f1.cl, .int .i64 f1.un, .int .i64 n1, .int .i64 cl1, .string ⟨x1.toArray⟩, .slice a14 n14 c14, .slice a15 n15 c15, .int .i64 m1kd, .int .i64 m1pa, .int .i64 m1sq, .int .i64 m1st, .int .i64 m1ba, .int .i64 m1ve, .string ⟨m1da.toArray⟩] #[.int .i64 k2, .int .i64 f2.n, .int .i64 f2.tm, .int .i64 f2.kd, .int .i64 f2.st, .string ⟨f2.lg.toArray⟩, .int .i64 f2.rv, .int .i64 f2.bs, .string ⟨f2.ti.toArray⟩, .string ⟨f2.au.toArray⟩, .slice a21 n21 c21, .slice a22 n22 c22, .int .i64 f2.lb.til, .slice a23 n23 c23, .int .i64 f2.lb.app, .int .i64 f2.lb.den, .int .i64 f2.ed, .int .i64 f2.bk, .int .i64 f2.se, .string ⟨f2.tx.toArray⟩, .string ⟨f2.nm.toArray⟩, .int .i64 f2.pa, .int .i64 f2.cl, .int .i64 f2.un, .int .i64 n2, .int .i64 cl2, .string ⟨x2.toArray⟩, .slice a24 n24 c24, .slice a25 n25 c25, .int .i64 m2kd, .int .i64 m2pa, .int .i64 m2sq, .int .i64 m2st, .int .i64 m2ba, .int .i64 m2ve, .string ⟨m2da.toArray⟩] 32 32
 replace hx := hid hx
 unfold acA
 simp only
 unfold fcA at H3
 go_enter Tryz.func17, Tryz.ntmps17
 go_upto_region 1 with (fail)
 generalize ((w.alloc _).alloc _) = W at hx hA hB ⊢
 generalize w.heap.size = R at hA hB ⊢
 replace hA := hid hA
 replace hB := hid hB
 go_wp2_with (first | (refine wpList_loadG (by rfl) 28 _ rfl R 1 [.int .i64 k1] [.int .i64 f1.n, .int .i64 f1.tm, .int .i64 f1.kd, .int .i64 f1.st, .string ⟨f1.lg.toArray⟩, .int .i64 f1.rv, .int .i64 f1.bs, .string ⟨f1.ti.toArray⟩, .string ⟨f1.au.toArray⟩, .slice a11 n11 c11, .slice a12 n12 c12, .int .i64 f1.lb.til, .slice a13 n13 c13, .int .i64 f1.lb.app, .int .i64 f1.lb.den, .int .i64 f1.ed, .int .i64 f1.bk, .int .i64 f1.se, .string ⟨f1.tx.toArray⟩, .string ⟨f1.nm.toArray⟩, .int .i64 f1.pa, .int .i64 f1.cl, .int .i64 f1.un] [.int .i64 n1, .int .i64 cl1, .string ⟨x1.toArray⟩, .slice a14 n14 c14, .slice a15 n15 c15, .int .i64 m1kd, .int .i64 m1pa, .int .i64 m1sq, .int .i64 m1st, .int .i64 m1ba, .int .i64 m1ve, .string ⟨m1da.toArray⟩] _ _ _ rfl rfl hA.out Tryz.underlying28 rfl (by kernel_rfl) ?_) | (refine wpList_loadG (by rfl) 28 _ rfl (R + 1) 1 [.int .i64 k2] [.int .i64 f2.n, .int .i64 f2.tm, .int .i64 f2.kd, .int .i64 f2.st, .string ⟨f2.lg.toArray⟩, .int .i64 f2.rv, .int .i64 f2.bs, .string ⟨f2.ti.toArray⟩, .string ⟨f2.au.toArray⟩, .slice a21 n21 c21, .slice a22 n22 c22, .int .i64 f2.lb.til, .slice a23 n23 c23, .int .i64 f2.lb.app, .int .i64 f2.lb.den, .int .i64 f2.ed, .int .i64 f2.bk, .int .i64 f2.se, .string ⟨f2.tx.toArray⟩, .string ⟨f2.nm.toArray⟩, .int .i64 f2.pa, .int .i64 f2.cl, .int .i64 f2.un] [.int .i64 n2, .int .i64 cl2, .string ⟨x2.toArray⟩, .slice a24 n24 c24, .slice a25 n25 c25, .int .i64 m2kd, .int .i64 m2pa, .int .i64 m2sq, .int .i64 m2st, .int .i64 m2ba, .int .i64 m2ve, .string ⟨m2da.toArray⟩] _ _ _ rfl rfl hB.out Tryz.underlying28 rfl (by kernel_rfl) ?_))
 refine (H3.out _ hx.out).mono ?_; rintro e W2 ⟨rfl, hxn⟩
 replace hA := hid (hxn.at hA.out (fun h => h))
 replace hB := hid (hxn.at hB.out (fun h => h))
 replace hx := hid (hx.out.trans hxn)
 clear hxn
 have p_27 : W2.cell? ⟨R, 27, none⟩ = some (.slice a14 n14 c14) := cell_of' hA.out 27
 have q_27 : W2.cell? ⟨R + 1, 27, none⟩ = some (.slice a24 n24 c24) := cell_of' hB.out 27
 go_wp2_with fail
 refine (H1.out _ hx.out).mono ?_; rintro e W3 ⟨rfl, hxn⟩
 replace hA := hid (hxn.at hA.out (fun h => h))
 replace hB := hid (hxn.at hB.out (fun h => h))
 replace hx := hid (hx.out.trans hxn)
 clear hxn p_27 q_27
 have p_28 : W3.cell? ⟨R, 28, none⟩ = some (.slice a15 n15 c15) := cell_of' hA.out 28
 have q_28 : W3.cell? ⟨R + 1, 28, none⟩ = some (.slice a25 n25 c25) := cell_of' hB.out 28
 go_wp2_with fail
 refine (H2.out _ hx.out).mono ?_; rintro e W4 ⟨rfl, hxn⟩
 replace hA := hid (hxn.at hA.out (fun h => h))
 replace hB := hid (hxn.at hB.out (fun h => h))
 replace hx := hid (hx.out.trans hxn)
 clear hxn p_28 q_28
 have p_0 : W4.cell? ⟨R, 0, none⟩ = some (.int .i64 k1) := cell_of' hA.out 0
 have q_0 : W4.cell? ⟨R + 1, 0, none⟩ = some (.int .i64 k2) := cell_of' hB.out 0
 have p_24 : W4.cell? ⟨R, 24, none⟩ = some (.int .i64 n1) := cell_of' hA.out 24
 have q_24 : W4.cell? ⟨R + 1, 24, none⟩ = some (.int .i64 n2) := cell_of' hB.out 24
 have p_25 : W4.cell? ⟨R, 25, none⟩ = some (.int .i64 cl1) := cell_of' hA.out 25
 have q_25 : W4.cell? ⟨R + 1, 25, none⟩ = some (.int .i64 cl2) := cell_of' hB.out 25
 have p_26 : W4.cell? ⟨R, 26, none⟩ = some (.string ⟨x1.toArray⟩) := cell_of' hA.out 26
 have q_26 : W4.cell? ⟨R + 1, 26, none⟩ = some (.string ⟨x2.toArray⟩) := cell_of' hB.out 26
 have p_29 : W4.cell? ⟨R, 29, none⟩ = some (.int .i64 m1kd) := cell_of' hA.out 29
 have q_29 : W4.cell? ⟨R + 1, 29, none⟩ = some (.int .i64 m2kd) := cell_of' hB.out 29
 have p_30 : W4.cell? ⟨R, 30, none⟩ = some (.int .i64 m1pa) := cell_of' hA.out 30
 have q_30 : W4.cell? ⟨R + 1, 30, none⟩ = some (.int .i64 m2pa) := cell_of' hB.out 30
 have p_31 : W4.cell? ⟨R, 31, none⟩ = some (.int .i64 m1sq) := cell_of' hA.out 31
 have q_31 : W4.cell? ⟨R + 1, 31, none⟩ = some (.int .i64 m2sq) := cell_of' hB.out 31
 have p_32 : W4.cell? ⟨R, 32, none⟩ = some (.int .i64 m1st) := cell_of' hA.out 32
 have q_32 : W4.cell? ⟨R + 1, 32, none⟩ = some (.int .i64 m2st) := cell_of' hB.out 32
 have p_33 : W4.cell? ⟨R, 33, none⟩ = some (.int .i64 m1ba) := cell_of' hA.out 33
 have q_33 : W4.cell? ⟨R + 1, 33, none⟩ = some (.int .i64 m2ba) := cell_of' hB.out 33
 have p_34 : W4.cell? ⟨R, 34, none⟩ = some (.int .i64 m1ve) := cell_of' hA.out 34
 have q_34 : W4.cell? ⟨R + 1, 34, none⟩ = some (.int .i64 m2ve) := cell_of' hB.out 34
 have p_35 : W4.cell? ⟨R, 35, none⟩ = some (.string ⟨m1da.toArray⟩) := cell_of' hA.out 35
 have q_35 : W4.cell? ⟨R + 1, 35, none⟩ = some (.string ⟨m2da.toArray⟩) := cell_of' hB.out 35
 go_upto_region 4 with (fail)
 refine wp_region_strip ?_
 simp only [List.map_cons, List.map_nil, strip_mk]
 cases b_f with
 | false =>
  go_wp2_with fail
  go_ret
  exact ⟨by rw [hr.out]; simp, hx.out⟩
 | true =>
 cases b_fa with
 | false =>
  go_wp2_with fail
  go_ret
  exact ⟨by rw [hr.out]; simp, hx.out⟩
 | true =>
 cases b_ke with
 | false =>
  go_wp2_with fail
  go_ret
  exact ⟨by rw [hr.out]; simp, hx.out⟩
 | true =>
 cases b_k with
 | false =>
  go_wp2_with fail
  go_ret
  exact ⟨by rw [hr.out]; simp, hx.out⟩
 | true =>
 cases b_n with
 | false =>
  go_wp2_with fail
  go_ret
  exact ⟨by rw [hr.out]; simp, hx.out⟩
 | true =>
 cases b_cl with
 | false =>
  go_wp2_with fail
  go_ret
  exact ⟨by rw [hr.out]; simp, hx.out⟩
 | true =>
 cases b_x with
 | false =>
  go_wp2_with fail
  go_ret
  exact ⟨by rw [hr.out]; simp, hx.out⟩
 | true =>
 cases b_m with
 | false =>
  go_wp2_with fail
  go_ret
  exact ⟨by rw [hr.out]; simp, hx.out⟩
 | true =>
 go_wp2_with fail
 go_ret
 exact ⟨by rw [hr.out]; simp, hx.out⟩
theorem rsameList_any (v1 v2 : Value) (l m : List Ac) (w : World) (h1 : AcsAt (fun k => k < w.heap.size) w v1 l) (h2 : AcsAt (fun k => k < w.heap.size) w v2 m) :
  Calls Tryz.prog 24 #[v1, v2] w fun e w' => e = .returned (.bool (decide (l = m))) /\ Ext w w' := by
 obtain ⟨ao1, cap1, rfl⟩ := h1.slice
 obtain ⟨ao2, cap2, rfl⟩ := h2.slice
 have hl1 := h1.len
 have hl2 := h2.len
 obtain ⟨r, hr⟩ : ∃ r, r = decide (l = m) := ⟨_, rfl⟩
 rw [<- hr]
 replace h1 := hid h1
 replace h2 := hid h2
 by_cases hlm : l.length = m.length
 ·have e1 : ((l.length : Int) == (m.length : Int)) = true := by rw [beq_iff_eq]; omega
  replace hr := hid hr
  generalize hn2 : m.length = n2 at hlm h2 e1 hl2 ⊢
  subst hlm
  go_enter Tryz.func24, Tryz.ntmps24
  go_wp2_with fail
  go_loopg [5] l.length (fun g i wr => ∃ j : Nat, j + g = l.length /\ i = .int .i64 j /\ Hid (l.take j = m.take j) /\ Ext w wr)
  case atStart => exact ⟨0, by omega, rfl, hid rfl, Mod.refl _ _⟩
  case round =>
   obtain ⟨j, hj, rfl, htk, hx⟩ := hrel
   replace hx := hid hx
   by_cases hlt : j < l.length
   ·have hdi : (j : Int) < (l.length : Int) := by omega
    have hd : decide ((j : Int) < (l.length : Int)) = true := decide_eq_true hdi
    have hjw : IntKind.i64.wrap ((j : Int) + 1) = (j : Int) + 1 := IntWalk.i64_in _ (by omega)
    have hltm : j < m.length := by omega
    obtain ⟨b1, o1, k1, sv, e, -, hAa, hc⟩ := h1.out.get hlt
    injection e with e _ e3
    subst e e3
    have h2' := h2.out
    rw [<- hn2] at h2'
    obtain ⟨b2, o2, k2, tv, e, -, hBa, hd2⟩ := h2'.get hltm
    injection e with e _ e3
    subst e e3
    clear h2'
    obtain ⟨x, hxe⟩ : ∃ x, x = l[j] := ⟨_, rfl⟩
    obtain ⟨y, hye⟩ : ∃ y, y = m[j] := ⟨_, rfl⟩
    rw [<- hxe] at hAa hc
    rw [<- hye] at hBa hd2
    obtain ⟨xa1, xn1, xc1, xa2, xn2, xc2, xa3, xn3, xc3, xa4, xn4, xc4, xa5, xn5, xc5, rfl⟩ := acAt_slices hAa
    obtain ⟨ya1, yn1, yc1, ya2, yn2, yc2, ya3, yn3, yc3, ya4, yn4, yc4, ya5, yn5, yc5, rfl⟩ := acAt_slices hBa
    obtain ⟨V, hV⟩ : ∃ V, V = acA xa1 xn1 xc1 xa2 xn2 xc2 xa3 xn3 xc3 xa4 xn4 xc4 xa5 xn5 xc5 x := ⟨_, rfl⟩
    have rV : wr.rangeAt b1 (o1 + j * 36) V.toList := fun i u hu => by
     have hu' : (acC (⟨⟨.slice xa1 xn1 xc1, .slice xa2 xn2 xc2, .slice xa3 xn3 xc3⟩, .slice xa4 xn4 xc4, .slice xa5 xn5 xc5⟩, x))[i]? = some u := by rw [hV] at hu; exact hu
     exact hx.out.cell (hc i u (List.getElem?_eq_some_iff.1 hu').1 hu') (fun h => h)
    have sV : V.size = 36 := by rw [hV]; rfl
    have iV : (Tryz.prog.info? 32).map (·.size) = some V.size := by rw [sV]; kernel_rfl
    obtain ⟨U, hU⟩ : ∃ V, V = acA ya1 yn1 yc1 ya2 yn2 yc2 ya3 yn3 yc3 ya4 yn4 yc4 ya5 yn5 yc5 y := ⟨_, rfl⟩
    have rU : wr.rangeAt b2 (o2 + j * 36) U.toList := fun i u hu => by
     have hu' : (acC (⟨⟨.slice ya1 yn1 yc1, .slice ya2 yn2 yc2, .slice ya3 yn3 yc3⟩, .slice ya4 yn4 yc4, .slice ya5 yn5 yc5⟩, y))[i]? = some u := by rw [hU] at hu; exact hu
     exact hx.out.cell (hd2 i u (List.getElem?_eq_some_iff.1 hu').1 hu') (fun h => h)
    have sU : U.size = 36 := by rw [hU]; rfl
    have iU : (Tryz.prog.info? 32).map (·.size) = some U.size := by rw [sU]; kernel_rfl
    have hsm := fun W (hW : Ext wr W) => rsame_any xa1 xn1 xc1 xa2 xn2 xc2 xa3 xn3 xc3 xa4 xn4 xc4 xa5 xn5 xc5 x ya1 yn1 yc1 ya2 yn2 yc2 ya3 yn3 yc3 ya4 yn4 yc4 ya5 yn5 yc5 y W ((hAa.ext hx.out).ext hW) ((hBa.ext hx.out).ext hW)
    rw [<- hV, <- hU] at hsm
    replace hsm := hid hsm
    replace rV := hid rV
    replace rU := hid rU
    replace sV := hid sV
    replace iV := hid iV
    replace sU := hid sU
    replace iU := hid iU
    replace hV := hid hV
    replace hU := hid hU
    replace hxe := hid hxe
    replace hye := hid hye
    replace hj := hid hj
    replace hn2 := hid hn2
    clear hc hd2 hAa hBa
    go_upto_region 6 with fail
    try simp only [List.append_eq, List.cons_append, List.nil_append]
    refine wp_region_sched (fun W => Ext wr W) [(0, true), (1, true), (2, true), (3, true), (4, true), (5, true), (6, true), (7, true), (8, false), (9, true)]
     (by as_aux_lemma => kernel_rfl) (by as_aux_lemma => kernel_rfl) (by as_aux_lemma => kernel_rfl) (by decide) (Mod.drew0 (fun _ => False) wr) ?_
    simp only [schedOps, List.map_cons, List.map_nil, List.getD_cons_zero, List.getD_cons_succ]
    have hy0 := hid (Mod.drew0 (fun _ => False) wr)
    iterate 3 (refine qT ?_)
    refine wpS_loadR (by rfl) 32 _ rfl b1 (o1 + j * 36) rfl V _ (fun W hW => rangeAt_ext rV.out hW) Tryz.underlying32 rfl (by have := iV.out; simpa using this) ?_
    try simp only [Act.put, sA, sZ, sS]
    iterate 3 (refine qT ?_)
    refine wpS_loadR (by rfl) 32 _ rfl b2 (o2 + j * 36) rfl U _ (fun W hW => rangeAt_ext rU.out hW) Tryz.underlying32 rfl (by have := iU.out; simpa using this) ?_
    try simp only [Act.put, sA, sZ, sS]
    refine wpS_c (by rfl) (fun K hK => ?_)
    go_simp
    refine (hsm.out _ hy0.out).mono ?_; rintro e w9 ⟨rfl, hxn⟩
    refine hK.out _ _ (hy0.out.trans hxn) ?_
    have hy1 := hid (hx.out.trans (hy0.out.trans hxn))
    clear hK K hxn
    try simp only [Act.put, sA, sZ, sS]
    by_cases hxy : x = y
    ·have hb : decide (x = y) = true := decide_eq_true hxy
     rw [hb]
     have htk2 : Hid (l.take (j + 1) = m.take (j + 1)) := hid (by rw [List.take_succ_eq_append_getElem hlt, List.take_succ_eq_append_getElem hltm, htk.out, <- hxe.out, <- hye.out, hxy])
     replace hxy := hid hxy
     iterate 1 (refine qT ?_)
     refine wpS_nil ?_
     go_wp2_with fail
     go_roundg (gk - 1)
     case measure => have := hj.out; omega
     case rel => exact ⟨j + 1, by have := hj.out; omega, by go_num, htk2, hy1.out⟩
    ·have hb : decide (x = y) = false := decide_eq_false hxy
     rw [hb]
     have hrf : Hid (r = false) := hid (by rw [hr.out]; exact decide_eq_false (fun e => hxy (by rw [hxe.out, hye.out]; simp only [e])))
     replace hxy := hid hxy
     iterate 1 (refine qT ?_)
     refine wpS_nil ?_
     go_wp2_with fail
     go_ret
     exact ⟨by rw [hrf.out]; rfl, hy1.out⟩
   ·obtain rfl : j = l.length := by omega
    have hdi : ¬ (l.length : Int) < (l.length : Int) := by omega
    have hd : decide ((l.length : Int) < (l.length : Int)) = false := decide_eq_false hdi
    have hrt : Hid (r = true) := hid (by rw [hr.out]; refine decide_eq_true ?_; have := htk.out; rw [List.take_length, <- hn2, List.take_length] at this; exact this)
    replace hn2 := hid hn2
    go_wp2_with fail
    go_ret
    exact ⟨by rw [hrt.out]; rfl, hx.out⟩
 ·have e1 : ((l.length : Int) == (m.length : Int)) = false := by rw [beq_eq_false_iff_ne]; omega
  have e1i : ¬ (l.length : Int) = (m.length : Int) := by omega
  have hrf : Hid (r = false) := hid (by rw [hr]; exact decide_eq_false (fun e => hlm (by rw [e])))
  replace hr := hid hr
  go_enter Tryz.func24, Tryz.ntmps24
  go_wp2_with fail
  go_ret
  exact ⟨by rw [hrf.out]; rfl, Mod.refl _ _⟩
end Go.Proofs.YtpaefpnkemkikaaGreatDoor
