import Derived.Test.YtpgniljgaknlpaaGreatDoorK23
/-
  'Same'.
-/
namespace Go.Proofs.YtpgniljgaknlpaaGreatDoor
open Go.RowKit Cdk Tpl

/-- The node at place j, and its cells. -/
theorem NodesAt.node {F : Nat → Prop} {w : World} {ao : Option Addr} {n cap : Nat} {l : List Nd} (h : NodesAt F w (.slice ao n cap) l) {j : Nat} (hj : j < l.length) :
    ∃ b off kd tx nm ar ct a1 m1 x1 a2 m2 x2 a3 m3 x3 fl ks es, ao = some ⟨b, off, none⟩ ∧ F b ∧ l[j] = .mk kd tx nm ar ct fl ks es ∧ StrsAt F w (.slice a1 m1 x1) fl ∧ NodesAt F w (.slice a2 m2 x2) ks ∧ NodesAt F w (.slice a3 m3 x3) es ∧
      w.cell? ⟨b, off + j * 8, none⟩ = some (.int .i64 kd) ∧ w.cell? ⟨b, off + j * 8 + 1, none⟩ = some (.string ⟨tx.toArray⟩) ∧ w.cell? ⟨b, off + j * 8 + 2, none⟩ = some (.string ⟨nm.toArray⟩) ∧ w.cell? ⟨b, off + j * 8 + 3, none⟩ = some (.string ⟨ar.toArray⟩) ∧ w.cell? ⟨b, off + j * 8 + 4, none⟩ = some (.int .i64 ct) ∧
      w.cell? ⟨b, off + j * 8 + 5, none⟩ = some (.slice a1 m1 x1) ∧ w.cell? ⟨b, off + j * 8 + 6, none⟩ = some (.slice a2 m2 x2) ∧ w.cell? ⟨b, off + j * 8 + 7, none⟩ = some (.slice a3 m3 x3) := by
  cases h with
  | mk _ _ rows _ hrow hb hrows =>
    have hlen := hrows.len
    obtain ⟨hjr, hND⟩ := RowsAt.get hj hrows
    obtain ⟨b, off, hao, hc⟩ := hrow.at (by rw [flat_length _ 8 ncC_len]; omega)
    have hgs := fun t ht => flat_get ncC 8 ncC_len rows j t rows[j] (List.getElem?_eq_getElem hjr) ht
    generalize rows[j] = c at hND hgs
    generalize l[j] = nd at hND
    cases hND with
    | mk c fl ks es hfl hks hes =>
    obtain ⟨kd, tx, nm, ar, ct, vf, vk, ve⟩ := c
    obtain ⟨a1, m1, x1, h1⟩ := hfl.slice
    obtain ⟨a2, m2, x2, h2⟩ := hks.slice
    obtain ⟨a3, m3, x3, h3⟩ := hes.slice
    simp only at h1 h2 h3
    subst h1; subst h2; subst h3
    have g0 := hc _ _ ((hgs 0 (by omega)).trans rfl)
    have g1 := hc _ _ ((hgs 1 (by omega)).trans rfl)
    have g2 := hc _ _ ((hgs 2 (by omega)).trans rfl)
    have g3 := hc _ _ ((hgs 3 (by omega)).trans rfl)
    have g4 := hc _ _ ((hgs 4 (by omega)).trans rfl)
    have g5 := hc _ _ ((hgs 5 (by omega)).trans rfl)
    have g6 := hc _ _ ((hgs 6 (by omega)).trans rfl)
    have g7 := hc _ _ ((hgs 7 (by omega)).trans rfl)
    simp only [← Nat.add_assoc, Nat.add_zero, strV] at g0 g1 g2 g3 g4 g5 g6 g7
    exact ⟨b, off, kd, tx, nm, ar, ct, a1, m1, x1, a2, m2, x2, a3, m3, x3, fl, ks, es, hao, hb b off hao, rfl, hfl, hks, hes, g0, g1, g2, g3, g4, g5, g6, g7⟩

theorem NodesAt.count {F : Nat → Prop} {w : World} {ao : Option Addr} {n cap : Nat} {l : List Nd} (h : NodesAt F w (.slice ao n cap) l) : n = l.length := by
  cases h with
  | mk _ _ _ _ _ _ h => exact h.len

/-- The state of the comparison of two lists: the stack, and the pair at block Q. -/
structure St (w : World) (B Q : Nat) (u1 u2 : Value) (e : Value) (xs : List (Value × Value)) (wi : World) : Prop where
  own : Cdk.Own wi B 71 2 pairC e xs
  ne : ∀ k, e.ownBlock = some k → k ≠ Q
  q : wi.heap[Q]? = some (.cells #[u1, u2] 71 (0, 0))
  mod : Mod (fun k => B ≤ k) w wi
  low : B ≤ Q

theorem St.ext {w : World} {B Q : Nat} {u1 u2 e : Value} {xs : List (Value × Value)} {wi wi' : World} (h : St w B Q u1 u2 e xs wi) (hm : Ext wi wi') : St w B Q u1 u2 e xs wi' :=
  ⟨h.own.ext hm, h.ne, hm.at h.q (fun h => h), h.mod.then hm (fun _ _ h => h.elim), h.low⟩

theorem St.size {w : World} {B Q : Nat} {u1 u2 e : Value} {xs : List (Value × Value)} {wi : World} (h : St w B Q u1 u2 e xs wi) : B ≤ wi.heap.size := by
  have := lt_of_at h.q
  have := h.low
  omega

theorem St.push {w : World} {B Q : Nat} {u1 u2 : Value} {ao : Option Addr} {n cap cap' g : Nat} {xs : List (Value × Value)} {p : Value × Value} {wi w' : World} (h : St w B Q u1 u2 (.slice ao n cap) xs wi)
    (H : Cdk.Own w' B 71 2 pairC (.slice (some ⟨g, 0, none⟩) (n + 1) cap') (xs ++ [p]) ∧ Mod (fun k => (Value.slice ao n cap).ownBlock = some k) wi w' ∧ ((Value.slice ao n cap).ownBlock = some g ∨ wi.heap.size < g)) : St w B Q u1 u2 (.slice (some ⟨g, 0, none⟩) (n + 1) cap') (xs ++ [p]) w' := by
  obtain ⟨h1, h2, h3⟩ := H
  refine ⟨h1, fun k hk => ?_, h2.at h.q (fun e => h.ne _ e rfl), h.mod.then h2 (fun k _ e => (h.own.block k e).1), h.low⟩
  have e : g = k := by simpa [Value.ownBlock] using hk
  subst e
  rcases h3 with h3 | h3
  · exact h.ne _ h3
  · have := lt_of_at h.q
    omega

/-- One pair more. -/
theorem wpList_pair {w : World} {R : Nat} {xs : List (Value × Value)} {aov : Option Addr} {n capv : Nat} {ops : Array Oper} {rest : List Oper} {o : Oper} {a : Act} {Q : Exit → Act → World → Prop} (hg : o.guard = none) (s x : Operand)
    (ho : o.op = .call { callee := .builtin .append, args := #[s, x], argTypes := #[72, 72] }) (p1 p2 : Value) (h1 : p1.oneCell' = true) (h2 : p2.oneCell' = true) (hs : a.eval s = .slice aov n capv) (hown : Cdk.Own w R 71 2 pairC (.slice aov n capv) xs) (hn : xs.length = n) (hlen : n ≤ 100000000000)
    (hR : R ≤ w.heap.size) (hx : a.eval x = .slice (some ⟨w.heap.size, 0, none⟩) 1 1)
    (hK : ∀ g cap w', Hid (Cdk.Own w' R 71 2 pairC (.slice (some ⟨g, 0, none⟩) (n + 1) cap) (xs ++ [(p1, p2)]) ∧ Mod (fun k => (Value.slice aov n capv).ownBlock = some k) w w' ∧ ((Value.slice aov n capv).ownBlock = some g ∨ w.heap.size < g)) → wpList Tryz.prog ops Q rest (a.put o.dst (.slice (some ⟨g, 0, none⟩) (n + 1) cap)) w') :
    wpList Tryz.prog ops Q (o :: rest) a (w.alloc (.cells #[p1, p2] 71)) := by
  subst hn
  obtain ⟨i0, hi, hz0, hz1, hz2⟩ := info_parts el63.row
  have hx1 := Mod.alloc (Mod.refl (fun _ => False) w) (.cells #[p1, p2] 71)
  have hrow := RowIs.new w [p1, p2] 71
  have hown1 := hown.ext hx1
  have hs1 : (w.alloc (.cells #[p1, p2] 71)).heap.size = w.heap.size + 1 := World.size_alloc _ _
  refine wpList_append_lies (P := Tryz.prog) (w.alloc (.cells #[p1, p2] 71)) hg s x _ ho R 71 i0 _ 2 48 Tryz.underlying72 hi hz0 hz1 hz2 el63.cells el63.pos _ xs.length (xs.flatMap pairC) hs hown1 ⟨w.heap.size, 0, none⟩ 1 1 [p1, p2] hx rfl (fun j u hu => ?_) (fun u hu => ?_) (by decide) (by simp only [maxLen]; omega) (by omega) (by omega) _ rfl (fun g cap w' h3 h4 h5 h6 => ?_)
  · obtain ⟨b, off, e, hc⟩ := hrow j u hu
    simp only [Option.some.injEq, Addr.mk.injEq, and_true] at e
    obtain ⟨e1, e2⟩ := e
    subst e1
    subst e2
    rw [Addr.add_lit]
    exact hc
  · simp only [List.mem_cons, List.not_mem_nil, or_false] at hu
    rcases hu with rfl | rfl
    · exact h1
    · exact h2
  · have hO : Cdk.Own w' R 71 2 pairC (.slice (some ⟨g, 0, none⟩) (xs.length + 1) cap) (xs ++ [(p1, p2)]) := by
      unfold Cdk.Own
      rw [List.length_append, List.flatMap_append]
      simpa [pairC] using h3
    have hMm : Mod (fun k => (Value.slice aov xs.length capv).ownBlock = some k) (w.alloc (.cells #[p1, p2] 71)) w' := Mod.ofGrown h4 (fun k hk => hk)
    refine hK g cap w' ⟨hO, (hx1.mono (fun _ h => h.elim)).trans hMm, ?_⟩
    rcases h5 with h5 | h5
    · exact .inl h5
    · exact .inr (by omega)

theorem szL_app : ∀ (a b : List Nd), szL (a ++ b) = szL a + szL b
  | [], b => by simp [szL]
  | x :: a, b => by simp only [List.cons_append, szL, szL_app a b]; omega

set_option maxRecDepth 100000 in
set_option maxHeartbeats 32000000 in
theorem Same_any {F : Nat → Prop} (v1 v2 : Value) (a b : List Nd) (w : World) (hn1 : NodesAt F w v1 a) (hn2 : NodesAt F w v2 b) (hF : ∀ k, F k → k < w.heap.size) (hs1 : szL a ≤ 1000000000) (hs2 : szL b ≤ 1000000000) :
    Calls Tryz.prog 19 #[v1, v2] w fun e w' => e = .returned (.bool (eqL a b)) ∧ Ext w w' := by
  obtain ⟨r, hr⟩ : ∃ r, r = eqL a b := ⟨_, rfl⟩
  rw [← hr]
  obtain ⟨ao1, n1, c1, rfl⟩ := hn1.slice
  obtain ⟨ao2, n2, c2, rfl⟩ := hn2.slice
  obtain ⟨B, hB⟩ : ∃ B, B = w.heap.size := ⟨_, rfl⟩
  rw [← hB] at hF
  have hps := PairsAt.one hn1 hn2
  have hfin : ∀ w', Mod (fun k => B ≤ k) w w' → Ext w w' := fun w' hm => hm.mono' (fun k hk e => by omega)
  have hr0 : Hid (r = allEq [(a, b)]) := hid (by rw [hr]; simp [allEq])
  have hz0 : szP [(a, b)] ≤ 1 + szL a := by simp [szP]
  have hb0 : Hid (∀ p ∈ [(a, b)], szL p.2 ≤ 1000000000) := hid (fun p hp => by simp only [List.mem_singleton] at hp; subst hp; exact hs2)
  have hown0 := own_one (w := w) (base := B) (e := 71) (.slice ao1 n1 c1, .slice ao2 n2 c2) (by omega)
  have hm0 := (Mod.alloc (Mod.refl (fun k => B ≤ k) w) (.cells #[.slice ao1 n1 c1, .slice ao2 n2 c2] 71))
  simp only at hown0
  replace hr := hid hr
  replace hfin := hid hfin
  replace hF := hid hF
  clear hn1 hn2
  replace hps := hid hps
  replace hz0 := hid hz0
  replace hown0 := hid hown0
  replace hm0 := hid hm0
  go_enter Tryz.func19, Tryz.ntmps19
  go_wp2_with fail
  rw [← hB]
  rw [← hB] at hown0
  replace hB := hid hB
  go_loopg [5] (1 + szL a) (fun g e wr => ∃ xs ps, (∃ ao cap, e = .slice ao xs.length cap) ∧ Cdk.Own wr B 71 2 pairC e xs ∧ PairsAt F w xs ps ∧ szP ps ≤ g ∧ g ≤ 1000000001 ∧ Hid (∀ p ∈ ps, szL p.2 ≤ 1000000000) ∧ Hid (r = allEq ps) ∧ Mod (fun k => B ≤ k) w wr)
  case atStart => exact ⟨_, _, ⟨_, _, rfl⟩, hown0.out, hps.out, hz0.out, by omega, hb0, hr0, hm0.out⟩
  case round =>
    clear hown0 hps hz0 hb0 hr0 hm0 hr hs1 hs2
    obtain ⟨xs, ps, ⟨aor, capr, rfl⟩, hown, hps, hsz, hgk, hbs, hr, hm⟩ := hrel
    have hxl := hps.len
    have hpl := szP_len ps
    obtain ⟨N, hN⟩ : ∃ N, N = xs.length := ⟨_, rfl⟩
    rw [← hN] at hown ⊢
    have hN6 : N ≤ 1000000001 := by omega
    replace hxl := hid hxl
    by_cases hpos : 0 < N
    rotate_left
    · have hd : decide ((0 : Int) < (N : Int)) = false := decide_eq_false (by omega)
      have hdi : ¬ (0 : Int) < (N : Int) := by omega
      have hrt : Hid (r = true) := hid (by
        rw [hr.out]
        have : ps = [] := List.eq_nil_of_length_eq_zero (by have := hxl.out; omega)
        rw [this]; rfl)
      replace hown := hid hown
      replace hps := hid hps
      replace hm := hid hm
      replace hN := hid hN
      go_wp2_with fail
      go_ret
      exact ⟨by rw [hrt.out]; rfl, hfin.out _ hm.out⟩
    · have hd : decide ((0 : Int) < (N : Int)) = true := decide_eq_true (by omega)
      have hdi : (0 : Int) < (N : Int) := by omega
      obtain ⟨xs', ps', u1, u2, a, b, rfl, rfl, hps', hA, hBn⟩ := hps.pop (by omega)
      clear hps
      obtain ⟨M, hM⟩ : ∃ M, N = M + 1 := ⟨N - 1, by omega⟩
      have hxM : xs'.length = M := by simp only [List.length_append, List.length_singleton] at hN; omega
      subst hM
      rw [allEq_snoc] at hr
      rw [szP_snoc] at hsz
      have hpop := hid (own_pop hown hxM)
      obtain ⟨ao1, na, c1, rfl⟩ := hA.slice
      obtain ⟨ao2, nb, c2, rfl⟩ := hBn.slice
      have hna := hA.count
      have hnb := hBn.count
      obtain ⟨aow, capw, hvw, hrw, hbw⟩ := hown.row
      injection hvw with e1 e2 e3
      subst e1; subst e3
      obtain ⟨bb, bo, rfl, hc⟩ := hrw.at (by rw [flat_length _ 2 pairC_len]; omega)
      have hxg : (xs' ++ [(Value.slice ao1 na c1, Value.slice ao2 nb c2)])[M]? = some (Value.slice ao1 na c1, Value.slice ao2 nb c2) := by
        rw [← hxM]; simp
      have g0 := hc _ _ ((flat_get pairC 2 pairC_len _ M 0 _ hxg (by omega)).trans rfl)
      have g1 := hc _ _ ((flat_get pairC 2 pairC_len _ M 1 _ hxg (by omega)).trans rfl)
      have hbb := hown.block bb (hbw bb bo rfl)
      have hcap : M + 1 ≤ capr := by
        rcases hown.2 with ⟨h2, -⟩ | ⟨g, cap', cur, h2, -, -, h5, -⟩
        · injection h2 with h2 _ _; cases h2
        · injection h2 with _ _ h2; subst h2; omega
      have hcapi : (M : Int) ≤ (capr : Int) := by omega
      have hcap0 : capr ≠ 0 := by omega
      simp only [Nat.add_zero, ← Nat.add_assoc] at g0 g1
      clear hc hxg hrw hbw e2
      replace hown := hid hown
      replace hps' := hid hps'
      replace hm := hid hm
      replace hN := hid hN
      replace hxM := hid hxM
      replace hA := hid hA
      replace hBn := hid hBn
      have hi1 : (0 : Int) ≤ ((M + 1 : Nat) : Int) - 1 := by omega
      have hi2 : ((M + 1 : Nat) : Int) - 1 < ((M + 1 : Nat) : Int) := by omega
      have hsb : Hid (szL b ≤ 1000000000) := hid (hbs.out (a, b) (by simp))
      have hbs' : Hid (∀ p ∈ ps', szL p.2 ≤ 1000000000) := hid (fun p hp => hbs.out p (by simp [hp]))
      have hla := szL_len a
      clear hbs
      by_cases hab : na = nb
      rotate_left
      · have hq : ((na : Int) != (nb : Int)) = true := by rw [bne_iff_ne]; omega
        have hrf : Hid (r = false) := hid (by rw [hr.out, eqL_len (by omega), Bool.and_false])
        replace hab := hid hab
        replace hna := hid hna
        replace hnb := hid hnb
        go_wp2_with fail
        go_ret
        exact ⟨by rw [hrf.out]; rfl, hfin.out _ (hm.out.alloc _)⟩
      · have hq : ((na : Int) != (nb : Int)) = false := by rw [bne_eq_false_iff_eq]; omega
        have hna6 : na ≤ 1000000001 := by omega
        replace hab := hid hab
        replace hna := hid hna
        replace hnb := hid hnb
        go_wp2_with fail
        have hxq := Mod.alloc (Mod.refl (fun _ => False) wr) (.cells #[.slice ao1 na c1, .slice ao2 nb c2] 71)
        have hQ0 := heap_alloc_new wr (.cells #[.slice ao1 na c1, .slice ao2 nb c2] 71)
        have hst : St w B wr.heap.size (.slice ao1 na c1) (.slice ao2 nb c2) (.slice (some ⟨bb, bo, none⟩) M capr) xs' (wr.alloc (.cells #[.slice ao1 na c1, .slice ao2 nb c2] 71)) := ⟨hpop.out.ext hxq, fun k hk => by
          have e : bb = k := by simpa [Value.ownBlock] using hk
          omega, hQ0, hm.out.then hxq (fun _ _ h => h.elim), by omega⟩
        generalize hQe : wr.heap.size = Q at hst ⊢
        generalize (wr.alloc (.cells #[.slice ao1 na c1, .slice ao2 nb c2] 71)) = wq at hst ⊢
        replace hst := hid hst
        clear hxq hQ0 hQe hown hm hbb hcap hcapi hcap0 hd hdi hi1 hi2 hq
        obtain ⟨G, rfl⟩ : ∃ G, G = gk := ⟨_, rfl⟩
        have hGsz : szP ps' + szL a + 1 ≤ G := by omega
        clear hsz
        go_loopg [5, 38] na (fun g e i wi => ∃ j xs ps, j + g = na ∧ i = .int .i64 j ∧ (∃ ao cap, e = .slice ao xs.length cap) ∧ St w B Q (.slice ao1 na c1) (.slice ao2 nb c2) e xs wi ∧ PairsAt F w xs ps ∧ szP ps + szL (a.drop j) + 1 ≤ G ∧ Hid (∀ p ∈ ps, szL p.2 ≤ 1000000000) ∧ Hid (r = (allEq ps && eqL (a.drop j) (b.drop j))))
        case atStart => exact ⟨0, xs', ps', by omega, rfl, ⟨_, _, by rw [hxM.out]⟩, hst.out, hps'.out, hGsz, hbs', hr⟩
        case round =>
          clear hst hps' hGsz hbs' hr
          obtain ⟨wi, rfl⟩ : ∃ wi : World, wi = wr := ⟨_, rfl⟩
          obtain ⟨j, xs, ps, hj, rfl, ⟨aoe, cape, rfl⟩, hst, hps, hsz, hbs, hr⟩ := hrel
          replace hj := hid hj
          have hjn : j ≤ na := by have := hj.out; omega
          have hxl2 := hid hps.len
          have hpl2 := szP_len ps
          obtain ⟨L, hL⟩ : ∃ L, L = xs.length := ⟨_, rfl⟩
          rw [← hL] at hst ⊢
          have hL6 : L ≤ 1000000001 := by have := hxl2.out; omega
          clear hpl2
          replace hL := hid hL
          replace hps := hid hps
          by_cases hlt : j < na
          rotate_left
          · have hdl : decide ((j : Int) < (na : Int)) = false := decide_eq_false (by omega)
            have hdi : ¬ (j : Int) < (na : Int) := by omega
            have hrt : Hid (r = allEq ps) := hid (by
              rw [hr.out, List.drop_eq_nil_of_le (by have := hna.out; omega), List.drop_eq_nil_of_le (by have := hnb.out; have := hab.out; omega), eqL, Bool.and_true])
            replace hst := hid hst
            go_wp2_with fail
            go_roundg (G - 1)
            case measure => omega
            case rel => exact ⟨xs, ps, ⟨_, _, by rw [hL.out]⟩, hst.out.own, hps.out, by omega, by omega, hbs, hrt, hst.out.mod⟩
          · have hdl : decide ((j : Int) < (na : Int)) = true := decide_eq_true (by omega)
            have hdi : (j : Int) < (na : Int) := by omega
            have hja : j < a.length := by have := hna.out; omega
            have hjb : j < b.length := by have := hnb.out; have := hab.out; omega
            have hdi2 : (j : Int) < (nb : Int) := by have := hnb.out; omega
            obtain ⟨b1, o1, kd, tx, nm, ar, ct, a1, m1, x1, a2, m2, x2, a3, m3, x3, fl, ks, es, hao1, hFb1, hx, hF1, hK1, hE1, g0, g1, g2, g3, g4, g5, g6, g7⟩ := hA.out.node hja
            obtain ⟨b2, o2, kd', tx', nm', ar', ct', a1', m1', x1', a2', m2', x2', a3', m3', x3', fl', ks', es', hao2, hFb2, hy, hF2, hK2, hE2, h0, h1, h2, h3, h4, h5, h6, h7⟩ := hBn.out.node hjb
            have up1 : ∀ {o : Nat} {v : Value}, w.cell? ⟨b1, o, none⟩ = some v → wi.cell? ⟨b1, o, none⟩ = some v := fun h => hst.mod.cell h (fun e => by have := hF.out _ hFb1; simp only at e; omega)
            have up2 : ∀ {o : Nat} {v : Value}, w.cell? ⟨b2, o, none⟩ = some v → ∀ ob, (wi.alloc ob).cell? ⟨b2, o, none⟩ = some v := fun h ob => (Mod.alloc (Mod.refl (fun _ => False) wi) ob).cell (hst.mod.cell h (fun e => by have := hF.out _ hFb2; simp only at e; omega)) (fun h => h)
            replace g0 := up1 g0
            replace g1 := up1 g1
            replace g2 := up1 g2
            replace g3 := up1 g3
            replace g4 := up1 g4
            replace g5 := up1 g5
            replace g6 := up1 g6
            replace g7 := up1 g7
            replace h0 := up2 h0
            replace h1 := up2 h1
            replace h2 := up2 h2
            replace h3 := up2 h3
            replace h4 := up2 h4
            replace h5 := up2 h5
            replace h6 := up2 h6
            replace h7 := up2 h7
            clear up1 up2
            have q1 : ∀ ob, (wi.alloc ob).cell? ⟨Q, 1, none⟩ = some (.slice ao2 nb c2) := fun ob => cell_of' ((Mod.alloc (Mod.refl (fun _ => False) wi) ob).at hst.q (fun h => h)) 1
            subst hao1
            subst hao2
            have hxy : ∀ (ox oy : Obj), Ext wi ((wi.alloc ox).alloc oy) := fun ox oy => ((Mod.refl (fun _ => False) wi).alloc ox).alloc oy
            have hstv : Hid (St w B Q (.slice (some ⟨b1, o1, none⟩) na c1) (.slice (some ⟨b2, o2, none⟩) nb c2) (.slice aoe L cape) xs wi) := hid hst
            clear hst
            rw [eqL_drop hja hjb, hx, hy] at hr
            rw [szL_drop hja, hx] at hsz
            have hsy : szN b[j] ≤ 1000000000 := by
              have h8 := hsb.out
              have h9 : szL b = szL (b.take j) + szL (b.drop j) := by conv => lhs; rw [← List.take_append_drop j b, szL_app]
              rw [szL_drop hjb] at h9
              omega
            rw [hy] at hsy
            simp only [szN] at hsz hsy
            have heq : Hid (eqN (.mk kd tx nm ar ct fl ks es) (.mk kd' tx' nm' ar' ct' fl' ks' es') = (decide (kd = kd') && decide (tx = tx') && decide (nm = nm') && decide (ar = ar') && decide (ct = ct') && decide (fl = fl') && eqL ks ks' && eqL es es')) := hid (by rw [eqN])
            rw [heq.out] at hr
            clear heq hx hy
            have d1 : ((kd : Int) != (kd' : Int)) = !decide (kd = kd') := by rw [Bool.eq_iff_iff, bne_iff_ne, Bool.not_eq_true', decide_eq_false_iff_not]; omega
            have d2 : (tx == tx') = decide (tx = tx') := by rw [Bool.eq_iff_iff, decide_eq_true_eq, beq_iff_eq]
            have d2n : (tx != tx') = !decide (tx = tx') := by rw [Bool.eq_iff_iff, bne_iff_ne]; simp
            have d3 : (nm == nm') = decide (nm = nm') := by rw [Bool.eq_iff_iff, decide_eq_true_eq, beq_iff_eq]
            have d3n : (nm != nm') = !decide (nm = nm') := by rw [Bool.eq_iff_iff, bne_iff_ne]; simp
            have d4 : (ar == ar') = decide (ar = ar') := by rw [Bool.eq_iff_iff, decide_eq_true_eq, beq_iff_eq]
            have d4n : (ar != ar') = !decide (ar = ar') := by rw [Bool.eq_iff_iff, bne_iff_ne]; simp
            have d5 : (ct != ct') = !decide (ct = ct') := by rw [Bool.eq_iff_iff, bne_iff_ne]; simp
            generalize decide (kd = kd') = t1 at hr d1
            generalize decide (tx = tx') = t2 at hr d2 d2n
            generalize decide (nm = nm') = t3 at hr d3 d3n
            generalize decide (ar = ar') = t4 at hr d4 d4n
            generalize decide (ct = ct') = t5 at hr d5
            have hk1 := hid hK1.count
            have hk2 := hid hK2.count
            have he1 := hid hE1.count
            have he2 := hid hE2.count
            have hl1 := szL_len ks
            have hl2 := szL_len ks'
            have hl3 := szL_len es
            have hl4 := szL_len es'
            have hm2b : m2 ≤ 1000000000 := by have := hk1.out; omega
            have hm2b' : m2' ≤ 1000000000 := by have := hk2.out; omega
            have hm3b : m3 ≤ 1000000000 := by have := he1.out; omega
            have hm3b' : m3' ≤ 1000000000 := by have := he2.out; omega
            have hflb : fl.length ≤ 1000000000 := by omega
            have hflb' : fl'.length ≤ 1000000000 := by omega
            clear hl1 hl2 hl3 hl4
            replace hF1 := hid hF1
            replace hF2 := hid hF2
            replace hK1 := hid hK1
            replace hK2 := hid hK2
            replace hE1 := hid hE1
            replace hE2 := hid hE2
            replace hxy := hid hxy
            cases t1 with
            | false =>
              go_wp2_with fail
              go_ret
              exact ⟨by rw [hr.out]; simp, hfin.out _ (hstv.out.mod.then (hxy.out _ _) (fun _ _ h => h.elim))⟩
            | true =>
              cases t2 with
              | false =>
                go_wp2_with fail
                go_ret
                exact ⟨by rw [hr.out]; simp, hfin.out _ (hstv.out.mod.then (hxy.out _ _) (fun _ _ h => h.elim))⟩
              | true =>
                cases t3 with
                | false =>
                  go_wp2_with fail
                  go_ret
                  exact ⟨by rw [hr.out]; simp, hfin.out _ (hstv.out.mod.then (hxy.out _ _) (fun _ _ h => h.elim))⟩
                | true =>
                  cases t4 with
                  | false =>
                    go_wp2_with fail
                    go_ret
                    exact ⟨by rw [hr.out]; simp, hfin.out _ (hstv.out.mod.then (hxy.out _ _) (fun _ _ h => h.elim))⟩
                  | true =>
                    cases t5 with
                    | false =>
                      go_wp2_with fail
                      go_ret
                      exact ⟨by rw [hr.out]; simp, hfin.out _ (hstv.out.mod.then (hxy.out _ _) (fun _ _ h => h.elim))⟩
                    | true =>
                      go_wp2_with fail
                      have hX := (((Mod.refl (fun _ => False) _).alloc (.cells #[.int .i64 kd', .string ⟨tx'.toArray⟩, .string ⟨nm'.toArray⟩, .string ⟨ar'.toArray⟩, .int .i64 ct', .slice a1' m1' x1', .slice a2' m2' x2', .slice a3' m3' x3'] 36)).at (heap_alloc_new wi (.cells #[.int .i64 kd, .string ⟨tx.toArray⟩, .string ⟨nm.toArray⟩, .string ⟨ar.toArray⟩, .int .i64 ct, .slice a1 m1 x1, .slice a2 m2 x2, .slice a3 m3 x3] 36)) (fun h => h))
                      have hY := heap_alloc_new (wi.alloc (.cells #[.int .i64 kd, .string ⟨tx.toArray⟩, .string ⟨nm.toArray⟩, .string ⟨ar.toArray⟩, .int .i64 ct, .slice a1 m1 x1, .slice a2 m2 x2, .slice a3 m3 x3] 36)) (.cells #[.int .i64 kd', .string ⟨tx'.toArray⟩, .string ⟨nm'.toArray⟩, .string ⟨ar'.toArray⟩, .int .i64 ct', .slice a1' m1' x1', .slice a2' m2' x2', .slice a3' m3' x3'] 36)
                      rw [World.size_alloc] at hY
                      have hx9 := hxy.out (.cells #[.int .i64 kd, .string ⟨tx.toArray⟩, .string ⟨nm.toArray⟩, .string ⟨ar.toArray⟩, .int .i64 ct, .slice a1 m1 x1, .slice a2 m2 x2, .slice a3 m3 x3] 36) (.cells #[.int .i64 kd', .string ⟨tx'.toArray⟩, .string ⟨nm'.toArray⟩, .string ⟨ar'.toArray⟩, .int .i64 ct', .slice a1' m1' x1', .slice a2' m2' x2', .slice a3' m3' x3'] 36)
                      have hsz9 : ((wi.alloc (.cells #[.int .i64 kd, .string ⟨tx.toArray⟩, .string ⟨nm.toArray⟩, .string ⟨ar.toArray⟩, .int .i64 ct, .slice a1 m1 x1, .slice a2 m2 x2, .slice a3 m3 x3] 36)).alloc (.cells #[.int .i64 kd', .string ⟨tx'.toArray⟩, .string ⟨nm'.toArray⟩, .string ⟨ar'.toArray⟩, .int .i64 ct', .slice a1' m1' x1', .slice a2' m2' x2', .slice a3' m3' x3'] 36)).heap.size = wi.heap.size + 2 := by simp only [World.size_alloc]
                      have hQlt := lt_of_at hstv.out.q
                      have hownlt : ∀ k, (Value.slice aoe L cape).ownBlock = some k → k < wi.heap.size := fun k hk => (hstv.out.own.block k hk).2
                      generalize hXe : wi.heap.size = X at hX hY hsz9 hQlt hownlt ⊢
                      generalize ((wi.alloc (.cells #[.int .i64 kd, .string ⟨tx.toArray⟩, .string ⟨nm.toArray⟩, .string ⟨ar.toArray⟩, .int .i64 ct, .slice a1 m1 x1, .slice a2 m2 x2, .slice a3 m3 x3] 36)).alloc (.cells #[.int .i64 kd', .string ⟨tx'.toArray⟩, .string ⟨nm'.toArray⟩, .string ⟨ar'.toArray⟩, .int .i64 ct', .slice a1' m1' x1', .slice a2' m2' x2', .slice a3' m3' x3'] 36)) = wy at hx9 hX hY hsz9 ⊢
                      replace hXe := hid hXe
                      have hstw := hstv.out.ext hx9
                      have hwF : ∀ {v : Value} {l : List Bs}, StrsAt F w v l → StrsAt F wy v l := fun h => h.mod hstw.mod (fun k hk e => by have := hF.out k hk; omega)
                      have hEq := hid (Equal_any (.slice a1 m1 x1) (.slice a1' m1' x1') fl fl' wy (hwF hF1.out) (hwF hF2.out) hflb hflb')
                      clear hwF hstv hx9 hxy g0 g1 g2 g3 g4 g5 g6 g7 h0 h1 h2 h3 h4 h5 h6 h7 q1
                      generalize decide (fl = fl') = t6 at hEq hr
                      refine hEq.out.mono ?_
                      clear hEq
                      rintro e w3 ⟨rfl, hx3⟩
                      have hst3 := hstw.ext hx3
                      have hX3 := hx3.at hX (fun h => h)
                      have hY3 := hx3.at hY (fun h => h)
                      have hsz3 : X + 2 ≤ w3.heap.size := by have := hx3.size; omega
                      clear hstw hX hY hsz9 hx3
                      obtain ⟨c0, c1', c2', c3, c4, c5, c6, c7⟩ := cells8 hX3
                      obtain ⟨e0, e1, e2, e3, e4, e5, e6, e7⟩ := cells8 hY3
                      have hB3 := hst3.size
                      replace hst3 := hid hst3
                      replace hX3 := hid hX3
                      replace hY3 := hid hY3
                      cases t6 with
                      | false =>
                        go_wp2_with fail
                        go_ret
                        exact ⟨by rw [hr.out]; simp, hfin.out _ hst3.out.mod⟩
                      | true =>
                        clear c0 c1' c2' c3 c4 c5 e0 e1 e2 e3 e4 e5 d1 d2 d2n d3 d3n d4 d4n d5 hm2b hm2b' hm3b hm3b' hflb hflb' hdl hdi hdi2

                        have hpush : Hid (∀ (g cap : Nat) (w' : World), Hid (Cdk.Own w' B 71 2 pairC (.slice (some ⟨g, 0, none⟩) (L + 1) cap) (xs ++ [(.slice a2 m2 x2, .slice a2' m2' x2')]) ∧ Mod (fun k => (Value.slice aoe L cape).ownBlock = some k) w3 w' ∧ ((Value.slice aoe L cape).ownBlock = some g ∨ w3.heap.size < g)) →
                            Hid (St w B Q (.slice (some ⟨b1, o1, none⟩) na c1) (.slice (some ⟨b2, o2, none⟩) nb c2) (.slice (some ⟨g, 0, none⟩) (L + 1) cap) (xs ++ [(.slice a2 m2 x2, .slice a2' m2' x2')]) w') ∧ w'.cell? ⟨X, 7, none⟩ = some (.slice a3 m3 x3) ∧ w'.cell? ⟨X + 1, 7, none⟩ = some (.slice a3' m3' x3')) := hid (fun g cap w' H =>
                          ⟨hid (hst3.out.push H.out), cell_of' (H.out.2.1.at hX3.out (fun e => by have := hownlt _ e; omega)) 7, cell_of' (H.out.2.1.at hY3.out (fun e => by have := hownlt _ e; omega)) 7⟩)
                        clear hownlt
                        by_cases pm2 : 0 < m2
                        · have im2 : (0 : Int) < (m2 : Int) := by omega
                          have jm2 : decide ((0 : Int) < (m2 : Int)) = true := decide_eq_true im2
                          by_cases pm3 : 0 < m3
                          · have im3 : (0 : Int) < (m3 : Int) := by omega
                            have jm3 : decide ((0 : Int) < (m3 : Int)) = true := decide_eq_true im3
                            go_wp2_with (at_builtin; first | (refine wpList_pair rfl _ _ rfl _ _ rfl rfl rfl hst3.out.own hL.out.symm (by omega) hst3.out.size rfl (fun g6 cap6 w6 H6 => ?_); obtain ⟨hst6, k7, l7⟩ := hpush.out g6 cap6 w6 H6; go_frame) | (refine wpList_pair rfl _ _ rfl _ _ rfl rfl rfl hst6.out.own (by simp only [List.length_append, List.length_singleton, ← hL.out]) (by omega) hst6.out.size rfl (fun g7 cap7 w7 H7 => ?_); go_frame))

                            go_roundg (gk - 1)
                            case measure => have := hj.out; omega
                            case rel =>
                              have z1 : j + 1 + (gk - 1) = na := by have := hj.out; omega
                              have z2 := hst6.out.push H7.out
                              have z3 := PairsAt.snoc _ _ _ _ _ _ (PairsAt.snoc _ _ _ _ _ _ hps.out hK1.out hK2.out) hE1.out hE2.out
                              have z4 : szP ((ps ++ [(ks, ks')]) ++ [(es, es')]) + szL (List.drop (j + 1) a) + 1 ≤ G := by rw [szP_snoc]; have := szP_snoc ps ks ks'; omega
                              have z5 : Hid (∀ p ∈ ((ps ++ [(ks, ks')]) ++ [(es, es')]), szL p.2 ≤ 1000000000) := hid (by intro p hp; simp only [List.mem_append, List.mem_singleton] at hp; rcases hp with (hp | rfl) | rfl; exact hbs.out p hp; simp only; omega; simp only; omega)
                              have z6 : Hid (r = (allEq ((ps ++ [(ks, ks')]) ++ [(es, es')]) && eqL (List.drop (j + 1) a) (List.drop (j + 1) b))) := hid (by
                                rw [hr.out, allEq_snoc, allEq_snoc]
                                cases allEq ps <;> cases eqL ks ks' <;> cases eqL es es' <;> simp)
                              exact ⟨j + 1, ((xs ++ [(.slice a2 m2 x2, .slice a2' m2' x2')]) ++ [(.slice a3 m3 x3, .slice a3' m3' x3')]), ((ps ++ [(ks, ks')]) ++ [(es, es')]), z1, by go_num, ⟨some ⟨g7, 0, none⟩, cap7, by simp only [List.length_append, List.length_singleton, ← hL.out]⟩, z2, z3, z4, z5, z6⟩
                          · have im3 : ¬ (0 : Int) < (m3 : Int) := by omega
                            have jm3 : decide ((0 : Int) < (m3 : Int)) = false := decide_eq_false im3
                            by_cases pm3p : 0 < m3'
                            · have im3p : (0 : Int) < (m3' : Int) := by omega
                              have jm3p : decide ((0 : Int) < (m3' : Int)) = true := decide_eq_true im3p
                              go_wp2_with (at_builtin; first | (refine wpList_pair rfl _ _ rfl _ _ rfl rfl rfl hst3.out.own hL.out.symm (by omega) hst3.out.size rfl (fun g6 cap6 w6 H6 => ?_); obtain ⟨hst6, k7, l7⟩ := hpush.out g6 cap6 w6 H6; go_frame) | (refine wpList_pair rfl _ _ rfl _ _ rfl rfl rfl hst6.out.own (by simp only [List.length_append, List.length_singleton, ← hL.out]) (by omega) hst6.out.size rfl (fun g7 cap7 w7 H7 => ?_); go_frame))

                              go_roundg (gk - 1)
                              case measure => have := hj.out; omega
                              case rel =>
                                have z1 : j + 1 + (gk - 1) = na := by have := hj.out; omega
                                have z2 := hst6.out.push H7.out
                                have z3 := PairsAt.snoc _ _ _ _ _ _ (PairsAt.snoc _ _ _ _ _ _ hps.out hK1.out hK2.out) hE1.out hE2.out
                                have z4 : szP ((ps ++ [(ks, ks')]) ++ [(es, es')]) + szL (List.drop (j + 1) a) + 1 ≤ G := by rw [szP_snoc]; have := szP_snoc ps ks ks'; omega
                                have z5 : Hid (∀ p ∈ ((ps ++ [(ks, ks')]) ++ [(es, es')]), szL p.2 ≤ 1000000000) := hid (by intro p hp; simp only [List.mem_append, List.mem_singleton] at hp; rcases hp with (hp | rfl) | rfl; exact hbs.out p hp; simp only; omega; simp only; omega)
                                have z6 : Hid (r = (allEq ((ps ++ [(ks, ks')]) ++ [(es, es')]) && eqL (List.drop (j + 1) a) (List.drop (j + 1) b))) := hid (by
                                  rw [hr.out, allEq_snoc, allEq_snoc]
                                  cases allEq ps <;> cases eqL ks ks' <;> cases eqL es es' <;> simp)
                                exact ⟨j + 1, ((xs ++ [(.slice a2 m2 x2, .slice a2' m2' x2')]) ++ [(.slice a3 m3 x3, .slice a3' m3' x3')]), ((ps ++ [(ks, ks')]) ++ [(es, es')]), z1, by go_num, ⟨some ⟨g7, 0, none⟩, cap7, by simp only [List.length_append, List.length_singleton, ← hL.out]⟩, z2, z3, z4, z5, z6⟩
                            · have im3p : ¬ (0 : Int) < (m3' : Int) := by omega
                              have jm3p : decide ((0 : Int) < (m3' : Int)) = false := decide_eq_false im3p
                              have hen : Hid (eqL es es' = true) := hid (by
                                have q1 : es = [] := List.eq_nil_of_length_eq_zero (by have := he1.out; omega)
                                have q2 : es' = [] := List.eq_nil_of_length_eq_zero (by have := he2.out; omega)
                                rw [q1, q2, eqL])

                              go_wp2_with (at_builtin; (refine wpList_pair rfl _ _ rfl _ _ rfl rfl rfl hst3.out.own hL.out.symm (by omega) hst3.out.size rfl (fun g6 cap6 w6 H6 => ?_); obtain ⟨hst6, k7, l7⟩ := hpush.out g6 cap6 w6 H6; go_frame))

                              go_roundg (gk - 1)
                              case measure => have := hj.out; omega
                              case rel =>
                                have z1 : j + 1 + (gk - 1) = na := by have := hj.out; omega
                                have z2 := hst6.out
                                have z3 := (PairsAt.snoc _ _ _ _ _ _ hps.out hK1.out hK2.out)
                                have z4 : szP (ps ++ [(ks, ks')]) + szL (List.drop (j + 1) a) + 1 ≤ G := by rw [szP_snoc]; omega
                                have z5 : Hid (∀ p ∈ (ps ++ [(ks, ks')]), szL p.2 ≤ 1000000000) := hid (by intro p hp; simp only [List.mem_append, List.mem_singleton] at hp; rcases hp with hp | rfl; exact hbs.out p hp; simp only; omega)
                                have z6 : Hid (r = (allEq (ps ++ [(ks, ks')]) && eqL (List.drop (j + 1) a) (List.drop (j + 1) b))) := hid (by
                                  rw [hr.out, hen.out, allEq_snoc]
                                  cases allEq ps <;> cases eqL ks ks' <;> cases eqL es es' <;> simp)
                                exact ⟨j + 1, (xs ++ [(.slice a2 m2 x2, .slice a2' m2' x2')]), (ps ++ [(ks, ks')]), z1, by go_num, ⟨some ⟨g6, 0, none⟩, cap6, by simp only [List.length_append, List.length_singleton, ← hL.out]⟩, z2, z3, z4, z5, z6⟩
                        · have im2 : ¬ (0 : Int) < (m2 : Int) := by omega
                          have jm2 : decide ((0 : Int) < (m2 : Int)) = false := decide_eq_false im2
                          by_cases pm2p : 0 < m2'
                          · have im2p : (0 : Int) < (m2' : Int) := by omega
                            have jm2p : decide ((0 : Int) < (m2' : Int)) = true := decide_eq_true im2p
                            by_cases pm3 : 0 < m3
                            · have im3 : (0 : Int) < (m3 : Int) := by omega
                              have jm3 : decide ((0 : Int) < (m3 : Int)) = true := decide_eq_true im3
                              go_wp2_with (at_builtin; first | (refine wpList_pair rfl _ _ rfl _ _ rfl rfl rfl hst3.out.own hL.out.symm (by omega) hst3.out.size rfl (fun g6 cap6 w6 H6 => ?_); obtain ⟨hst6, k7, l7⟩ := hpush.out g6 cap6 w6 H6; go_frame) | (refine wpList_pair rfl _ _ rfl _ _ rfl rfl rfl hst6.out.own (by simp only [List.length_append, List.length_singleton, ← hL.out]) (by omega) hst6.out.size rfl (fun g7 cap7 w7 H7 => ?_); go_frame))

                              go_roundg (gk - 1)
                              case measure => have := hj.out; omega
                              case rel =>
                                have z1 : j + 1 + (gk - 1) = na := by have := hj.out; omega
                                have z2 := hst6.out.push H7.out
                                have z3 := PairsAt.snoc _ _ _ _ _ _ (PairsAt.snoc _ _ _ _ _ _ hps.out hK1.out hK2.out) hE1.out hE2.out
                                have z4 : szP ((ps ++ [(ks, ks')]) ++ [(es, es')]) + szL (List.drop (j + 1) a) + 1 ≤ G := by rw [szP_snoc]; have := szP_snoc ps ks ks'; omega
                                have z5 : Hid (∀ p ∈ ((ps ++ [(ks, ks')]) ++ [(es, es')]), szL p.2 ≤ 1000000000) := hid (by intro p hp; simp only [List.mem_append, List.mem_singleton] at hp; rcases hp with (hp | rfl) | rfl; exact hbs.out p hp; simp only; omega; simp only; omega)
                                have z6 : Hid (r = (allEq ((ps ++ [(ks, ks')]) ++ [(es, es')]) && eqL (List.drop (j + 1) a) (List.drop (j + 1) b))) := hid (by
                                  rw [hr.out, allEq_snoc, allEq_snoc]
                                  cases allEq ps <;> cases eqL ks ks' <;> cases eqL es es' <;> simp)
                                exact ⟨j + 1, ((xs ++ [(.slice a2 m2 x2, .slice a2' m2' x2')]) ++ [(.slice a3 m3 x3, .slice a3' m3' x3')]), ((ps ++ [(ks, ks')]) ++ [(es, es')]), z1, by go_num, ⟨some ⟨g7, 0, none⟩, cap7, by simp only [List.length_append, List.length_singleton, ← hL.out]⟩, z2, z3, z4, z5, z6⟩
                            · have im3 : ¬ (0 : Int) < (m3 : Int) := by omega
                              have jm3 : decide ((0 : Int) < (m3 : Int)) = false := decide_eq_false im3
                              by_cases pm3p : 0 < m3'
                              · have im3p : (0 : Int) < (m3' : Int) := by omega
                                have jm3p : decide ((0 : Int) < (m3' : Int)) = true := decide_eq_true im3p
                                go_wp2_with (at_builtin; first | (refine wpList_pair rfl _ _ rfl _ _ rfl rfl rfl hst3.out.own hL.out.symm (by omega) hst3.out.size rfl (fun g6 cap6 w6 H6 => ?_); obtain ⟨hst6, k7, l7⟩ := hpush.out g6 cap6 w6 H6; go_frame) | (refine wpList_pair rfl _ _ rfl _ _ rfl rfl rfl hst6.out.own (by simp only [List.length_append, List.length_singleton, ← hL.out]) (by omega) hst6.out.size rfl (fun g7 cap7 w7 H7 => ?_); go_frame))

                                go_roundg (gk - 1)
                                case measure => have := hj.out; omega
                                case rel =>
                                  have z1 : j + 1 + (gk - 1) = na := by have := hj.out; omega
                                  have z2 := hst6.out.push H7.out
                                  have z3 := PairsAt.snoc _ _ _ _ _ _ (PairsAt.snoc _ _ _ _ _ _ hps.out hK1.out hK2.out) hE1.out hE2.out
                                  have z4 : szP ((ps ++ [(ks, ks')]) ++ [(es, es')]) + szL (List.drop (j + 1) a) + 1 ≤ G := by rw [szP_snoc]; have := szP_snoc ps ks ks'; omega
                                  have z5 : Hid (∀ p ∈ ((ps ++ [(ks, ks')]) ++ [(es, es')]), szL p.2 ≤ 1000000000) := hid (by intro p hp; simp only [List.mem_append, List.mem_singleton] at hp; rcases hp with (hp | rfl) | rfl; exact hbs.out p hp; simp only; omega; simp only; omega)
                                  have z6 : Hid (r = (allEq ((ps ++ [(ks, ks')]) ++ [(es, es')]) && eqL (List.drop (j + 1) a) (List.drop (j + 1) b))) := hid (by
                                    rw [hr.out, allEq_snoc, allEq_snoc]
                                    cases allEq ps <;> cases eqL ks ks' <;> cases eqL es es' <;> simp)
                                  exact ⟨j + 1, ((xs ++ [(.slice a2 m2 x2, .slice a2' m2' x2')]) ++ [(.slice a3 m3 x3, .slice a3' m3' x3')]), ((ps ++ [(ks, ks')]) ++ [(es, es')]), z1, by go_num, ⟨some ⟨g7, 0, none⟩, cap7, by simp only [List.length_append, List.length_singleton, ← hL.out]⟩, z2, z3, z4, z5, z6⟩
                              · have im3p : ¬ (0 : Int) < (m3' : Int) := by omega
                                have jm3p : decide ((0 : Int) < (m3' : Int)) = false := decide_eq_false im3p
                                have hen : Hid (eqL es es' = true) := hid (by
                                  have q1 : es = [] := List.eq_nil_of_length_eq_zero (by have := he1.out; omega)
                                  have q2 : es' = [] := List.eq_nil_of_length_eq_zero (by have := he2.out; omega)
                                  rw [q1, q2, eqL])

                                go_wp2_with (at_builtin; (refine wpList_pair rfl _ _ rfl _ _ rfl rfl rfl hst3.out.own hL.out.symm (by omega) hst3.out.size rfl (fun g6 cap6 w6 H6 => ?_); obtain ⟨hst6, k7, l7⟩ := hpush.out g6 cap6 w6 H6; go_frame))

                                go_roundg (gk - 1)
                                case measure => have := hj.out; omega
                                case rel =>
                                  have z1 : j + 1 + (gk - 1) = na := by have := hj.out; omega
                                  have z2 := hst6.out
                                  have z3 := (PairsAt.snoc _ _ _ _ _ _ hps.out hK1.out hK2.out)
                                  have z4 : szP (ps ++ [(ks, ks')]) + szL (List.drop (j + 1) a) + 1 ≤ G := by rw [szP_snoc]; omega
                                  have z5 : Hid (∀ p ∈ (ps ++ [(ks, ks')]), szL p.2 ≤ 1000000000) := hid (by intro p hp; simp only [List.mem_append, List.mem_singleton] at hp; rcases hp with hp | rfl; exact hbs.out p hp; simp only; omega)
                                  have z6 : Hid (r = (allEq (ps ++ [(ks, ks')]) && eqL (List.drop (j + 1) a) (List.drop (j + 1) b))) := hid (by
                                    rw [hr.out, hen.out, allEq_snoc]
                                    cases allEq ps <;> cases eqL ks ks' <;> cases eqL es es' <;> simp)
                                  exact ⟨j + 1, (xs ++ [(.slice a2 m2 x2, .slice a2' m2' x2')]), (ps ++ [(ks, ks')]), z1, by go_num, ⟨some ⟨g6, 0, none⟩, cap6, by simp only [List.length_append, List.length_singleton, ← hL.out]⟩, z2, z3, z4, z5, z6⟩
                          · have im2p : ¬ (0 : Int) < (m2' : Int) := by omega
                            have jm2p : decide ((0 : Int) < (m2' : Int)) = false := decide_eq_false im2p
                            have hkn : Hid (eqL ks ks' = true) := hid (by
                              have q1 : ks = [] := List.eq_nil_of_length_eq_zero (by have := hk1.out; omega)
                              have q2 : ks' = [] := List.eq_nil_of_length_eq_zero (by have := hk2.out; omega)
                              rw [q1, q2, eqL])
                            by_cases pm3 : 0 < m3
                            · have im3 : (0 : Int) < (m3 : Int) := by omega
                              have jm3 : decide ((0 : Int) < (m3 : Int)) = true := decide_eq_true im3
                              go_wp2_with (at_builtin; (refine wpList_pair rfl _ _ rfl _ _ rfl rfl rfl hst3.out.own (by simp only [← hL.out]) (by omega) hst3.out.size rfl (fun g7 cap7 w7 H7 => ?_); go_frame))

                              go_roundg (gk - 1)
                              case measure => have := hj.out; omega
                              case rel =>
                                have z1 : j + 1 + (gk - 1) = na := by have := hj.out; omega
                                have z2 := hst3.out.push H7.out
                                have z3 := PairsAt.snoc _ _ _ _ _ _ hps.out hE1.out hE2.out
                                have z4 : szP (ps ++ [(es, es')]) + szL (List.drop (j + 1) a) + 1 ≤ G := by rw [szP_snoc]; have := szP_snoc ps ks ks'; omega
                                have z5 : Hid (∀ p ∈ (ps ++ [(es, es')]), szL p.2 ≤ 1000000000) := hid (by intro p hp; simp only [List.mem_append, List.mem_singleton] at hp; rcases hp with hp | rfl; exact hbs.out p hp; simp only; omega)
                                have z6 : Hid (r = (allEq (ps ++ [(es, es')]) && eqL (List.drop (j + 1) a) (List.drop (j + 1) b))) := hid (by
                                  rw [hr.out, allEq_snoc, hkn.out]
                                  cases allEq ps <;> cases eqL ks ks' <;> cases eqL es es' <;> simp)
                                exact ⟨j + 1, (xs ++ [(.slice a3 m3 x3, .slice a3' m3' x3')]), (ps ++ [(es, es')]), z1, by go_num, ⟨some ⟨g7, 0, none⟩, cap7, by simp only [List.length_append, List.length_singleton, ← hL.out]⟩, z2, z3, z4, z5, z6⟩
                            · have im3 : ¬ (0 : Int) < (m3 : Int) := by omega
                              have jm3 : decide ((0 : Int) < (m3 : Int)) = false := decide_eq_false im3
                              by_cases pm3p : 0 < m3'
                              · have im3p : (0 : Int) < (m3' : Int) := by omega
                                have jm3p : decide ((0 : Int) < (m3' : Int)) = true := decide_eq_true im3p
                                go_wp2_with (at_builtin; (refine wpList_pair rfl _ _ rfl _ _ rfl rfl rfl hst3.out.own (by simp only [← hL.out]) (by omega) hst3.out.size rfl (fun g7 cap7 w7 H7 => ?_); go_frame))

                                go_roundg (gk - 1)
                                case measure => have := hj.out; omega
                                case rel =>
                                  have z1 : j + 1 + (gk - 1) = na := by have := hj.out; omega
                                  have z2 := hst3.out.push H7.out
                                  have z3 := PairsAt.snoc _ _ _ _ _ _ hps.out hE1.out hE2.out
                                  have z4 : szP (ps ++ [(es, es')]) + szL (List.drop (j + 1) a) + 1 ≤ G := by rw [szP_snoc]; have := szP_snoc ps ks ks'; omega
                                  have z5 : Hid (∀ p ∈ (ps ++ [(es, es')]), szL p.2 ≤ 1000000000) := hid (by intro p hp; simp only [List.mem_append, List.mem_singleton] at hp; rcases hp with hp | rfl; exact hbs.out p hp; simp only; omega)
                                  have z6 : Hid (r = (allEq (ps ++ [(es, es')]) && eqL (List.drop (j + 1) a) (List.drop (j + 1) b))) := hid (by
                                    rw [hr.out, allEq_snoc, hkn.out]
                                    cases allEq ps <;> cases eqL ks ks' <;> cases eqL es es' <;> simp)
                                  exact ⟨j + 1, (xs ++ [(.slice a3 m3 x3, .slice a3' m3' x3')]), (ps ++ [(es, es')]), z1, by go_num, ⟨some ⟨g7, 0, none⟩, cap7, by simp only [List.length_append, List.length_singleton, ← hL.out]⟩, z2, z3, z4, z5, z6⟩
                              · have im3p : ¬ (0 : Int) < (m3' : Int) := by omega
                                have jm3p : decide ((0 : Int) < (m3' : Int)) = false := decide_eq_false im3p
                                have hen : Hid (eqL es es' = true) := hid (by
                                  have q1 : es = [] := List.eq_nil_of_length_eq_zero (by have := he1.out; omega)
                                  have q2 : es' = [] := List.eq_nil_of_length_eq_zero (by have := he2.out; omega)
                                  rw [q1, q2, eqL])

                                go_wp2_with fail

                                go_roundg (gk - 1)
                                case measure => have := hj.out; omega
                                case rel =>
                                  have z1 : j + 1 + (gk - 1) = na := by have := hj.out; omega
                                  have z2 := hst3.out
                                  have z3 := hps.out
                                  have z4 : szP ps + szL (List.drop (j + 1) a) + 1 ≤ G := by omega
                                  have z5 : Hid (∀ p ∈ ps, szL p.2 ≤ 1000000000) := hid (by exact hbs.out)
                                  have z6 : Hid (r = (allEq ps && eqL (List.drop (j + 1) a) (List.drop (j + 1) b))) := hid (by
                                    rw [hr.out, hen.out, hkn.out]
                                    cases allEq ps <;> cases eqL ks ks' <;> cases eqL es es' <;> simp)
                                  exact ⟨j + 1, xs, ps, z1, by go_num, ⟨aoe, cape, by simp only [← hL.out]⟩, z2, z3, z4, z5, z6⟩
end Go.Proofs.YtpgniljgaknlpaaGreatDoor
