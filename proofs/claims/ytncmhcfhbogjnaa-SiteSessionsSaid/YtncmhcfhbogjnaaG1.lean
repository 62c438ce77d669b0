import Derived.Test.YtncmhcfhbogjnaaG0
namespace Go.Proofs.Ytncmhcfhbogjnaa
open Go.RowKit Cdk

set_option maxRecDepth 100000 in
set_option maxHeartbeats 16000000 in
theorem sessions_any (w : World) (ao : Option Addr) (cap : Nat) (l : List OpI) (hl : l.length ≤ cap) (hc : cap ≤ 9223372036854775807) (hr : RowIs w ao (l.flatMap opC)) (hok : ∀ o ∈ l, o.ok) :
    Calls Try.prog 4 #[.slice ao l.length cap] w fun e w' => e = .returned (.bool true) ∧ Ext w w' := by
  have hr' := hid (ops_take hr 40)
  have hok' := hid (fun o (h : o ∈ l.take 40) => hok o (List.mem_of_mem_take h))
  have hlen : Hid ((l.take 40).length = min l.length 40) := hid (by rw [List.length_take, Nat.min_comm])
  have hfew := hid (fun w => few_any ao l.length cap w hl hc)
  obtain ⟨m, hm⟩ : ∃ m, m = min l.length 40 := ⟨_, rfl⟩
  have hm40 : m ≤ 40 := by omega
  have hmc : m ≤ cap := by omega
  rw [← hm] at hlen hfew
  clear hr hok hm
  generalize l.take 40 = lt at hr' hok' hlen
  generalize l.length = n0 at *
  go_enter Try.func4, Try.ntmps4
  go_wp2_with fail
  refine (sane_any w).mono ?_; rintro e w1 ⟨rfl, hE1⟩
  replace hE1 := hid hE1
  go_wp2_with fail
  refine (New_any w1).mono ?_; rintro e w2 ⟨rfl, hE2, hS2⟩
  have hI := hid (inv0 hE1.out hE2 hS2)
  clear hE2 hS2
  go_wp2_with fail
  refine (hfew.out _).mono ?_; rintro e w' ⟨rfl, rfl⟩
  go_wp2_with fail
  refine (addresses_any _).mono ?_; rintro e w8 ⟨rfl, rfl⟩; unfold addrV
  have hx8 : Ext w2 (w2.alloc (.cells (addrs.flatMap strC).toArray 9)) := (Mod.refl _ _).alloc _
  have hadr := hid (heap_alloc_new w2 (.cells (addrs.flatMap strC).toArray 9))
  have hI0 := hid (hI.out.mod hx8)
  have haF : ¬ (newSt w1.heap.size).foot (w1.heap.size + 1) w2.heap.size := fun h => by have := hI.out.site.tight.lt _ h; omega
  generalize (w2.alloc (.cells (addrs.flatMap strC).toArray 9)) = w8 at hadr hI0 ⊢
  clear hx8
  have h0 : (newSt w1.heap.size).last = 0 := rfl
  have hof0 := hid (newSt_of w1.heap.size)
  have hcl0 := hid (newSt_cls w1.heap.size)
  have hW2 : w.heap.size ≤ w2.heap.size := hI.out.ext.size
  clear hI
  generalize w2.heap.size = ba at hadr haF hW2 ⊢
  generalize newSt w1.heap.size = st0 at hI0 h0 hof0 hcl0 haF
  generalize (fun k => w1.heap.size ≤ k ∧ k < w1.heap.size + 10) = F0 at hI0
  generalize w1.heap.size + 1 = s at hI0 haF ⊢
  go_wp2_with fail
  go_loopg [6, 7, 9] m (fun g op x i wr => ∃ (k n : Nat) (st : SiteSt) (of : List Int), k + g = m ∧ i = .int .i64 k ∧ op = .int .i64 n ∧ st.last = n ∧ Inv w wr (st.foot s) s st k ∧ OfOk st of ∧ st.cls ∧ Own wr w.heap.size 3 1 intC x of ∧ ¬ st.foot s ba ∧ wr.heap[ba]? = some (.cells (addrs.flatMap strC).toArray 9 (0, 0)))
  case atStart => exact ⟨0, 0, st0, [], by omega, rfl, rfl, h0, hI0.out.tight, hof0.out, hcl0.out, Own.nil _ _ _ _ _, haF, hadr.out⟩
  case round =>
    obtain ⟨k, n, st, of, hk, rfl, rfl, hn, hi, hof, hcl, hox, hba, hadr⟩ := hrel
    have hkm : k ≤ m := by omega
    have hn40 : n ≤ k := by have := hi.last; omega
    have hsl := hi.ok.len
    have hofl : of.length = n := by have := hof.len; omega
    have hxF := hid (hi.site.clear hox)
    replace hk := hid hk
    replace hn := hid hn
    replace hI := hid hi
    replace hof := hid hof
    replace hcl := hid hcl
    replace hox := hid hox
    replace hofl := hid hofl
    replace hadr := hid hadr
    replace hba := hid hba
    clear hi h0 hof0 hcl0
    by_cases hlt : k < m
    · obtain ⟨b, off, rfl, c0, c1, c2⟩ := op_at hr'.out (show k < lt.length by rw [hlen.out]; exact hlt)
      obtain ⟨o, ho⟩ : ∃ o, o = lt[k]'(by rw [hlen.out]; exact hlt) := ⟨_, rfl⟩
      rw [← ho] at c0 c1 c2
      have hoo : o.ok := by rw [ho]; exact hok'.out _ (List.getElem_mem _)
      have hb : b < w.heap.size := World.block_lt_of_cell? w ⟨b, off + k * 3, none⟩ c0
      have hoo := hid hoo
      replace ho := hid ho
      have d0 := hI.out.ext.cell c0 (fun h => h)
      have d1 := hI.out.ext.cell c1 (fun h => h)
      have d2 := hI.out.ext.cell c2 (fun h => h)
      clear c0 c1 c2
      obtain ⟨wo, rfl⟩ : ∃ wo : World, wo = wr := ⟨_, rfl⟩
      obtain ⟨G, rfl⟩ : ∃ G, G = gk := ⟨_, rfl⟩
      go_wp2_with fail
      refine (view_any hI.out.site hI.out.txt n (by omega)).mono ?_
      rintro e w4 ⟨x1, rfl, hown, hx4⟩
      have e0 := hx4.cell d0 (fun h => h)
      have e1 := hx4.cell d1 (fun h => h)
      have e2 := hx4.cell d2 (fun h => h)
      have hI4 := hid (hI.out.mod hx4)
      have hox4 := hid (hox.out.ext hx4)
      have hadr4 := hid (hx4.at hadr.out (fun h => h))
      replace hown := hid hown
      replace hx4 := hid hx4
      clear d0 d1 d2
      go_wp2_with fail
      refine (perform_any hI4.out.site hI4.out.ok o hoo.out (k : Int) (n : Int) (by omega) (by omega) (by omega) (by omega)).mono ?_
      rintro e w5 ⟨n', er, st', F', rfl, hm5, hF5, hS5, hd⟩
      have hnb : ¬ st.foot s b := fun h => by have := hI4.out.new b h; omega
      have f0 := hm5.cell e0 hnb
      have f1 := hm5.cell e1 hnb
      have f2 := hm5.cell e2 hnb
      have hI5 := hid (hI4.out.step (by omega) hm5 hF5 hS5 hd).tight
      have hox5 := hid (hox4.out.mod hm5 hxF.out)
      have hown5 := hid (hown.out.mod hm5 (fun k' h h' => by have := hown.out.block k' h; have := hI.out.site.lt k' h'; omega))
      have hadr5 := hid (hm5.at hadr4.out hba.out)
      have hlta := lt_of_at hadr4.out
      have hba5 : Hid (¬ st'.foot s ba) := hid (fun h => by
        rcases hF5 _ (hS5.foot h) with h' | h'
        · exact hba.out h'
        · omega)
      have hcl5 := hid (hd.keeps_cls hcl.out (fun N hN => hI4.out.site.fresh hN))
      have hfr := hid (fun N (hN : w4.heap.size ≤ N) => hI4.out.site.fresh hN)
      have hdo := hid (hd.of hof.out)
      replace hm5 := hid hm5
      replace hF5 := hid hF5
      replace hS5 := hid hS5
      replace hd := hid hd
      clear e0 e1 e2 hnb hlta
      go_wp2_with fail
      refine (view_any hI5.out.site hI5.out.txt n (by omega)).mono ?_
      rintro e w6 ⟨x2, rfl, hown2, hx6⟩
      have hI6 := hid (hI5.out.mod hx6)
      have hox6 := hid (hox5.out.ext hx6)
      have hown6 := hid (hown5.out.ext hx6)
      have hadr6 := hid (hx6.at hadr5.out (fun h => h))
      have f0 := hx6.cell f0 (fun h => h)
      have f1 := hx6.cell f1 (fun h => h)
      have f2 := hx6.cell f2 (fun h => h)
      replace hown2 := hid hown2
      replace hx6 := hid hx6
      go_wp2_with fail
      refine (pick_any _ _ _ hoo.out.kind.1 hoo.out.kind.2 (by omega) (by omega)).mono ?_
      rintro e w' ⟨rfl, rfl⟩
      rcases hdo.out with ⟨hkk, rfl, rfl, rfl, hic, hof'⟩ | ⟨hkk, hof', hlast⟩
      · have hkb : (pickI o.kind 4 == 2) = true := by rw [hkk]; rfl
        replace hkk := hid hkk
        replace hof' := hid hof'
        have hn' : Hid (st.last + 1 = ((n + 1 : Nat) : Int)) := hid (by have := hn.out; omega)
        have hrd := hid (fun a => Read_opened hI.out.ok hic a)
        rw [hn'.out] at hrd ⊢
        clear hdo
        replace hic := hid hic
        have hbase : w.heap.size ≤ w6.heap.size := by have := hI6.out.ext.size; omega
        go_wp2_with fail
        refine (class_any _ _ hoo.out.cls.1 hoo.out.cls.2).mono ?_
        rintro e w' ⟨rfl, rfl⟩
        have hofl' : of.length ≤ 40 := by have := hofl.out; omega
        go_wp2_with (at_builtin; refine wpList_app rfl _ _ _ rfl Try.underlying51 el3 rfl (hox6.out.ext ((Mod.refl _ _).alloc _)) _ 1 1 rfl [classI o.cls] rfl (by exact RowIs.new _ _ _) intC_len (fun y _ => intC_one y) (by simp only [List.length_cons, List.length_nil]; omega) (by rw [World.size_alloc]; omega) (by simp) (fun v7 w7 H7 => ?_); go_frame)
        have hxa := Mod.alloc (Mod.refl (fun _ => False) w6) (.cells (intC (classI o.cls)).toArray 3)
        have hoxa := hox6.out.ext hxa
        have hclr := (hI6.out.mod hxa).site.clear hoxa
        have hI7 := hid ((hI6.out.mod hxa).other H7.out.2 hclr (fun k' h => (hoxa.block k' h).1))
        have hox7 := hid H7.out.1
        have hadr7 := hid (H7.out.2.at (hxa.at hadr6.out (fun h => h)) (fun h => by
          obtain ⟨c, hc⟩ := hoxa.cells h
          rw [hxa.at hadr6.out (fun h => h)] at hc
          injection hc with hc; injection hc with _ hc; cases hc))
        have g1 := H7.out.2.cell (hxa.cell f1 (fun h => h)) (fun h => by have := (hoxa.block b h).1; omega)
        clear H7 hclr hoxa hxa f0 f1 f2 hbase
        go_loopg [15] 5 (fun g j wq => ∃ i : Nat, i + g = 5 ∧ j = .int .i64 i ∧ Ext w7 wq)
        case atStart => exact ⟨0, by omega, rfl, Mod.refl _ _⟩
        case round =>
          obtain ⟨i, hi, rfl, hxr⟩ := hrel
          replace hi := hid hi
          by_cases hlt3 : i < 5
          · have hcell := hxr.cell (addr_at hadr7.out hlt3) (fun h => h)
            have g1' := hxr.cell g1 (fun h => h)
            have hI8 := hid (hI7.out.mod hxr)
            obtain ⟨ad, had⟩ : ∃ ad, ad = addrs.getD i .empty := ⟨_, rfl⟩
            rw [← had] at hcell
            clear had
            have hR := Read_any hI8.out.site ((n + 1 : Nat) : Int) ad
            rw [hrd.out ad] at hR
            have hG := hid (fun w' (hx : Ext wr w') => Get_any (hI8.out.mod hx).site (classI o.cls) ad)
            obtain ⟨u, hu⟩ : ∃ u, u = GetR (openSt st (classI o.cls)) (classI o.cls) ad := ⟨_, rfl⟩
            rw [← hu] at hR hG
            clear hu
            obtain ⟨u, f⟩ := u
            unfold resV at hR hG
            replace hR := hid hR
            replace hxr := hid hxr
            go_wp2_with fail
            refine hR.out.mono ?_; rintro e w9 ⟨rfl, hx9⟩
            have hcell2 := hx9.cell hcell (fun h => h)
            have g12 := hx9.cell g1' (fun h => h)
            clear hcell g1'
            go_wp2_with fail
            have hG9 := hid (hG.out w9.drew hx9.drew)
            replace hx9 := hid hx9
            refine wp_region_sched (fun w' => w'.cell? ⟨b, off + k * 3 + 1, none⟩ = some (.int .i64 o.cls) ∧ w'.cell? ⟨ba, i, none⟩ = some (.string ad)) [(0, true), (1, true), (2, true), (3, true), (4, true), (5, true), (7, true), (8, true), (9, true), (10, true), (6, false), (11, false), (12, true), (13, true), (14, true), (15, true), (16, true)] (by kernel_rfl) (by kernel_rfl) (by kernel_rfl) (by decide) ⟨g12, hcell2⟩ ?_
            simp only [schedOps, List.map_cons, List.map_nil, List.getD_cons_zero, List.getD_cons_succ]
            repeat (refine wpS_q (by rfl) ?_ (fun w' hC => ?_) ?_; rotate_left; (go_simp; try with_reducible rfl); try simp only [Act.put, List.setIfInBounds_toArray, List.set_cons_zero, List.set_cons_succ])
            refine wpS_c (by rfl) (fun K hK => ?_)
            go_simp
            refine (class_any _ _ hoo.out.cls.1 hoo.out.cls.2).mono ?_; rintro e w' ⟨rfl, rfl⟩
            try dsimp only
            refine hK.out _ _ ⟨g12, hcell2⟩ ?_
            clear hK K
            try simp only [Act.put, List.setIfInBounds_toArray, List.set_cons_zero, List.set_cons_succ]
            refine wpS_c (by rfl) (fun K hK => ?_)
            go_simp
            refine hG9.out.mono ?_; rintro e w' ⟨rfl, rfl⟩
            try dsimp only
            refine hK.out _ _ ⟨g12, hcell2⟩ ?_
            clear hK K
            try simp only [Act.put, List.setIfInBounds_toArray, List.set_cons_zero, List.set_cons_succ]
            repeat (refine wpS_q (by rfl) ?_ (fun w' hC => ?_) ?_; rotate_left; (go_simp; try with_reducible rfl); try simp only [Act.put, List.setIfInBounds_toArray, List.set_cons_zero, List.set_cons_succ])
            refine wpS_nil ?_
            go_wp2_with fail
            go_roundg (gk - 1)
            case measure => have := hi.out; omega
            case rel => exact ⟨i + 1, by have := hi.out; omega, by go_num, (hxr.out.trans hx9.out).drew⟩
          · obtain rfl : i = 5 := by have := hi.out; omega
            go_wp2_with fail
            go_roundg (G - 1)
            case measure => have := hk.out; omega
            case rel => exact ⟨k + 1, n + 1, _, of ++ [classI o.cls], by have := hk.out; omega, by go_num, rfl, hn'.out, hI7.out.mod hxr, hof'.out, hcl5.out, hox7.out.ext hxr, hba5.out, hxr.at hadr7.out (fun h => h)⟩
      · have hkb : (pickI o.kind 4 == 2) = false ∨ ((pickI o.kind 4 == 2) = true ∧ er = 250) := by
          cases hq : (pickI o.kind 4 == 2) with
          | false => exact .inl rfl
          | true =>
            rcases hkk with h | h
            · exact absurd (by simpa using hq) h
            · exact .inr ⟨rfl, h⟩
        have hrd := hid (fun x a => hd.out.reads hcl.out hfr.out hof.out hkk x a)
        clear hdo hkk
        replace hof' := hid hof'
        replace hlast := hid hlast
        obtain ⟨ao1, cap1, rfl, hrow1, _⟩ := hown6.out.row
        obtain ⟨ao2, cap2, rfl, hrow2, _⟩ := hown2.out.row
        obtain ⟨ao3, cap3, rfl, hrow3, _⟩ := hox6.out.row
        have hl1 := viewL_len st n
        have hl2 := viewL_len st' n
        have hv1 := hid (fun t => viewL_read st n t)
        have hv2 := hid (fun t => viewL_read st' n t)
        generalize viewL st n = L1 at hrow1 hown6 hl1 hv1 ⊢
        generalize viewL st' n = L2 at hrow2 hown2 hl2 hv2 ⊢
        obtain ⟨N, hN⟩ : ∃ N, N = 30 + (n + 2) * 5 := ⟨_, rfl⟩
        rw [← hN] at hl1 hl2
        simp only [hl1, hl2]
        have hN30 : 30 ≤ N := by omega
        have hN300 : N ≤ 300 := by omega
        replace hN := hid hN
        replace hl1 := hid hl1
        replace hl2 := hid hl2
        replace hrow1 := hid hrow1
        replace hrow2 := hid hrow2
        replace hrow3 := hid hrow3
        clear hown2 hown6
        rcases hkb with hkb | ⟨hkb, rfl⟩
        · as_aux_lemma =>
          go_wp2_with fail
          go_loopg [21] (N - 30) (fun g i wq => ∃ j : Nat, 30 ≤ j ∧ j + g = N ∧ i = .int .i64 (j : Int) ∧ Ext w6 wq)
          case atStart => exact ⟨30, by omega, by omega, rfl, Mod.refl _ _⟩
          case round =>
            obtain ⟨j, hj30, ht, rfl, hxr⟩ := hrel
            obtain ⟨t, htj⟩ : ∃ t, t = j - 30 := ⟨_, rfl⟩
            have htN : j ≤ N := by omega
            replace ht := hid ht
            by_cases hlt3 : j < N
            · have hl1' := hl1.out
              have hl2' := hl2.out
              obtain ⟨b1, o1, rfl, g1⟩ := str_at hrow1.out (show j < L1.length by omega)
              obtain ⟨b2, o2, rfl, g2⟩ := str_at hrow2.out (show j < L2.length by omega)
              have g1 := hxr.cell g1 (fun h => h)
              have g2 := hxr.cell g2 (fun h => h)
              have r1 := hxr.cell f1 (fun h => h)
              have r2 := hxr.cell f2 (fun h => h)
              obtain ⟨y1, hy1⟩ : ∃ y, y = L1[j]'(by omega) := ⟨_, rfl⟩
              obtain ⟨y2, hy2⟩ : ∃ y, y = L2[j]'(by omega) := ⟨_, rfl⟩
              rw [← hy1] at g1
              rw [← hy2] at g2
              have hyy : y2 = y1 ∨ (pickI o.kind 4 = 3 ∧ ((t / 5 : Nat) : Int) = sessionI o.num n) ∨ (pickI o.kind 4 = 1 ∧ 1 ≤ ((t / 5 : Nat) : Int) ∧ of[((t / 5 : Nat) - 1 : Int).toNat]? = some (classI o.cls)) := by
                have q1 := hv1.out (j) (by omega) (by have := hN.out; omega)
                have q2 := hv2.out (j) (by omega) (by have := hN.out; omega)
                rw [List.getElem?_eq_getElem (by omega), ← hy1] at q1
                rw [List.getElem?_eq_getElem (by omega), ← hy2] at q2
                rw [← htj] at q1 q2
                rcases hrd.out ((t / 5 : Nat) : Int) (addrs.getD (t % 5) .empty) with h | h
                · left
                  rw [h] at q2
                  exact Option.some.inj (q2.trans q1.symm)
                · exact .inr h
              replace hyy := hid hyy
              replace hxr := hid hxr
              replace hl1' := hid hl1'
              replace hl2' := hid hl2'
              clear hy1 hy2
              obtain ⟨q, hq⟩ : ∃ q, q = t / 5 := ⟨_, rfl⟩
              have hqt : q ≤ 60 := by omega
              have hwr : IntKind.i64.wrap ((j : Int) - 30) = (t : Int) := by rw [Go.IntWalk.i64_in _ (by omega)]; omega
              have hwq : IntKind.i64.wrap ((t : Int) / 5) = (q : Int) := by rw [Go.IntWalk.i64_in _ (by omega)]; omega
              rw [← hq] at hyy
              replace hq := hid hq
              replace htj := hid htj
              cases hk3 : (pickI o.kind 4 == 3) with
              | true =>
                have hk1 : (pickI o.kind 4 == 1) = false := by rw [show pickI o.kind 4 = 3 by simpa using hk3]; rfl
                go_wp2_with fail
                refine (session_any _ _ _ hoo.out.num.1 hoo.out.num.2 (by omega) (by omega)).mono ?_; rintro e w' ⟨rfl, rfl⟩
                cases hx : ((q : Int) == sessionI o.num n) with
                | false =>
                  obtain rfl : y2 = y1 := by
                    rcases hyy.out with h | ⟨-, h⟩ | ⟨h, -⟩
                    · exact h
                    · rw [h] at hx; simp at hx
                    · rw [h] at hk1; simp at hk1
                  go_wp2_with fail
                  refine wp_region_sched (fun _ => True) [(0, true), (1, true), (2, true), (3, true), (4, true), (5, true), (6, true), (7, true), (8, true), (9, true), (10, true), (11, true), (12, true), (13, true), (14, true), (15, true), (16, true), (17, true), (18, true), (19, true), (20, true), (21, true), (22, true), (23, false), (24, true), (25, true), (26, true)] (by as_aux_lemma => kernel_rfl) (by as_aux_lemma => kernel_rfl) (by as_aux_lemma => kernel_rfl) (by decide) trivial ?_
                  simp only [schedOps, List.map_cons, List.map_nil, List.getD_cons_zero, List.getD_cons_succ]
                  repeat (first | (refine wpS_q (by rfl) ?_ (fun w' hC => ?_) ?_; rotate_left; (go_simp; try with_reducible rfl); try simp only [Act.put, List.setIfInBounds_toArray, List.set_cons_zero, List.set_cons_succ]) | (refine wpS_no (by rfl) ?_; try simp only [Act.put, List.setIfInBounds_toArray, List.set_cons_zero, List.set_cons_succ]))
                  refine wpS_nil ?_
                  go_wp2_with fail
                  refine wp_region_sched (fun w' => w'.cell? ⟨b1, o1 + j, none⟩ = some (.string y2) ∧ w'.cell? ⟨b2, o2 + j, none⟩ = some (.string y2)) [(0, true), (1, true), (2, true), (3, true), (4, true), (5, true), (6, true), (7, true), (8, true), (9, true), (10, true), (11, true), (12, true), (13, true), (14, true), (15, true), (16, true)] (by as_aux_lemma => kernel_rfl) (by as_aux_lemma => kernel_rfl) (by as_aux_lemma => kernel_rfl) (by decide) ⟨g1, g2⟩ ?_
                  simp only [schedOps, List.map_cons, List.map_nil, List.getD_cons_zero, List.getD_cons_succ]
                  repeat (first | (refine wpS_q (by rfl) ?_ (fun w' hC => ?_) ?_; rotate_left; (go_simp; try with_reducible rfl); try simp only [Act.put, List.setIfInBounds_toArray, List.set_cons_zero, List.set_cons_succ]) | (refine wpS_no (by rfl) ?_; try simp only [Act.put, List.setIfInBounds_toArray, List.set_cons_zero, List.set_cons_succ]))
                  refine wpS_nil ?_
                  go_wp2
                  go_roundg (gk - 1)
                  case measure => have := ht.out; omega
                  case rel => exact ⟨j + 1, by omega, by have := ht.out; omega, by go_num, hxr.out.drew.drew⟩
                | true =>
                  go_wp2_with fail
                  refine wp_region_sched (fun _ => True) [(0, true), (1, true), (2, true), (3, true), (4, true), (5, true), (6, true), (7, true), (8, true), (9, true), (10, true), (11, true), (12, true), (13, true), (14, true), (15, true), (16, true), (17, true), (18, true), (19, true), (20, true), (21, true), (22, true), (23, false), (24, true), (25, true), (26, true)] (by as_aux_lemma => kernel_rfl) (by as_aux_lemma => kernel_rfl) (by as_aux_lemma => kernel_rfl) (by decide) trivial ?_
                  simp only [schedOps, List.map_cons, List.map_nil, List.getD_cons_zero, List.getD_cons_succ]
                  repeat (first | (refine wpS_q (by rfl) ?_ (fun w' hC => ?_) ?_; rotate_left; (go_simp; try with_reducible rfl); try simp only [Act.put, List.setIfInBounds_toArray, List.set_cons_zero, List.set_cons_succ]) | (refine wpS_no (by rfl) ?_; try simp only [Act.put, List.setIfInBounds_toArray, List.set_cons_zero, List.set_cons_succ]))
                  refine wpS_nil ?_
                  go_wp2_with fail
                  by_cases he : y2 = y1
                  · subst he
                    refine wp_region_sched (fun w' => w'.cell? ⟨b1, o1 + j, none⟩ = some (.string y2) ∧ w'.cell? ⟨b2, o2 + j, none⟩ = some (.string y2)) [(0, true), (1, true), (2, true), (3, true), (4, true), (5, true), (6, true), (7, true), (8, true), (9, true), (10, true), (11, true), (12, true), (13, true), (14, true), (15, true), (16, true)] (by as_aux_lemma => kernel_rfl) (by as_aux_lemma => kernel_rfl) (by as_aux_lemma => kernel_rfl) (by decide) ⟨g1, g2⟩ ?_
                    simp only [schedOps, List.map_cons, List.map_nil, List.getD_cons_zero, List.getD_cons_succ]
                    repeat (first | (refine wpS_q (by rfl) ?_ (fun w' hC => ?_) ?_; rotate_left; (go_simp; try with_reducible rfl); try simp only [Act.put, List.setIfInBounds_toArray, List.set_cons_zero, List.set_cons_succ]) | (refine wpS_no (by rfl) ?_; try simp only [Act.put, List.setIfInBounds_toArray, List.set_cons_zero, List.set_cons_succ]))
                    refine wpS_nil ?_
                    go_wp2
                    go_roundg (gk - 1)
                    case measure => have := ht.out; omega
                    case rel => exact ⟨j + 1, by omega, by have := ht.out; omega, by go_num, hxr.out.drew.drew⟩
                  · have hb := sEq_false (fun e => he e.symm)
                    replace he := hid he
                    refine wp_region_sched (fun w' => w'.cell? ⟨b1, o1 + j, none⟩ = some (.string y1) ∧ w'.cell? ⟨b2, o2 + j, none⟩ = some (.string y2)) [(0, true), (1, true), (2, true), (3, true), (4, true), (5, true), (6, true), (7, true), (8, true), (9, true), (10, true), (11, true), (12, true), (13, true), (14, true), (15, true), (16, true)] (by as_aux_lemma => kernel_rfl) (by as_aux_lemma => kernel_rfl) (by as_aux_lemma => kernel_rfl) (by decide) ⟨g1, g2⟩ ?_
                    simp only [schedOps, List.map_cons, List.map_nil, List.getD_cons_zero, List.getD_cons_succ]
                    repeat (first | (refine wpS_q (by rfl) ?_ (fun w' hC => ?_) ?_; rotate_left; (go_simp; try with_reducible rfl); try simp only [Act.put, List.setIfInBounds_toArray, List.set_cons_zero, List.set_cons_succ]) | (refine wpS_no (by rfl) ?_; try simp only [Act.put, List.setIfInBounds_toArray, List.set_cons_zero, List.set_cons_succ]))
                    refine wpS_nil ?_
                    go_wp2
                    go_roundg (gk - 1)
                    case measure => have := ht.out; omega
                    case rel => exact ⟨j + 1, by omega, by have := ht.out; omega, by go_num, hxr.out.drew.drew⟩
              | false =>
                cases hk1 : (pickI o.kind 4 == 1) with
                | false =>
                  obtain rfl : y2 = y1 := by
                    rcases hyy.out with h | ⟨h, -⟩ | ⟨h, -⟩
                    · exact h
                    · rw [h] at hk3; simp at hk3
                    · rw [h] at hk1; simp at hk1
                  go_wp2_with fail
                  refine wp_region_sched (fun _ => True) [(0, true), (1, true), (2, true), (3, true), (4, true), (5, true), (6, true), (7, true), (8, true), (9, true), (10, true), (11, true), (12, true), (13, true), (14, true), (15, true), (16, true), (17, true), (18, true), (19, true), (20, true), (21, true), (22, true), (23, false), (24, true), (25, true), (26, true)] (by as_aux_lemma => kernel_rfl) (by as_aux_lemma => kernel_rfl) (by as_aux_lemma => kernel_rfl) (by decide) trivial ?_
                  simp only [schedOps, List.map_cons, List.map_nil, List.getD_cons_zero, List.getD_cons_succ]
                  repeat (first | (refine wpS_q (by rfl) ?_ (fun w' hC => ?_) ?_; rotate_left; (go_simp; try with_reducible rfl); try simp only [Act.put, List.setIfInBounds_toArray, List.set_cons_zero, List.set_cons_succ]) | (refine wpS_no (by rfl) ?_; try simp only [Act.put, List.setIfInBounds_toArray, List.set_cons_zero, List.set_cons_succ]))
                  refine wpS_nil ?_
                  go_wp2_with fail
                  refine wp_region_sched (fun w' => w'.cell? ⟨b1, o1 + j, none⟩ = some (.string y2) ∧ w'.cell? ⟨b2, o2 + j, none⟩ = some (.string y2)) [(0, true), (1, true), (2, true), (3, true), (4, true), (5, true), (6, true), (7, true), (8, true), (9, true), (10, true), (11, true), (12, true), (13, true), (14, true), (15, true), (16, true)] (by as_aux_lemma => kernel_rfl) (by as_aux_lemma => kernel_rfl) (by as_aux_lemma => kernel_rfl) (by decide) ⟨g1, g2⟩ ?_
                  simp only [schedOps, List.map_cons, List.map_nil, List.getD_cons_zero, List.getD_cons_succ]
                  repeat (first | (refine wpS_q (by rfl) ?_ (fun w' hC => ?_) ?_; rotate_left; (go_simp; try with_reducible rfl); try simp only [Act.put, List.setIfInBounds_toArray, List.set_cons_zero, List.set_cons_succ]) | (refine wpS_no (by rfl) ?_; try simp only [Act.put, List.setIfInBounds_toArray, List.set_cons_zero, List.set_cons_succ]))
                  refine wpS_nil ?_
                  go_wp2
                  go_roundg (gk - 1)
                  case measure => have := ht.out; omega
                  case rel => exact ⟨j + 1, by omega, by have := ht.out; omega, by go_num, hxr.out.drew.drew⟩
                | true =>
                  rcases Nat.eq_zero_or_pos q with hq0 | hq1
                  · obtain rfl : y2 = y1 := by
                      rcases hyy.out with h | ⟨h, -⟩ | ⟨-, h, -⟩
                      · exact h
                      · rw [h] at hk3; simp at hk3
                      · omega
                    have hge : decide ((1 : Int) ≤ (q : Int)) = false := by simp; omega
                    replace hq0 := hid hq0
                    go_wp2_with fail
                    refine wp_region_sched (fun _ => True) [(0, true), (1, true), (2, true), (3, true), (4, true), (5, true), (6, true), (7, true), (8, true), (9, true), (10, true), (11, true), (12, true), (13, true), (14, true), (15, true), (16, true), (17, true), (18, true), (19, true), (20, true), (21, true), (22, true), (23, false), (24, true), (25, true), (26, true)] (by as_aux_lemma => kernel_rfl) (by as_aux_lemma => kernel_rfl) (by as_aux_lemma => kernel_rfl) (by decide) trivial ?_
                    simp only [schedOps, List.map_cons, List.map_nil, List.getD_cons_zero, List.getD_cons_succ]
                    repeat (first | (refine wpS_q (by rfl) ?_ (fun w' hC => ?_) ?_; rotate_left; (go_simp; try with_reducible rfl); try simp only [Act.put, List.setIfInBounds_toArray, List.set_cons_zero, List.set_cons_succ]) | (refine wpS_no (by rfl) ?_; try simp only [Act.put, List.setIfInBounds_toArray, List.set_cons_zero, List.set_cons_succ]))
                    refine wpS_nil ?_
                    go_wp2_with fail
                    refine wp_region_sched (fun w' => w'.cell? ⟨b1, o1 + j, none⟩ = some (.string y2) ∧ w'.cell? ⟨b2, o2 + j, none⟩ = some (.string y2)) [(0, true), (1, true), (2, true), (3, true), (4, true), (5, true), (6, true), (7, true), (8, true), (9, true), (10, true), (11, true), (12, true), (13, true), (14, true), (15, true), (16, true)] (by as_aux_lemma => kernel_rfl) (by as_aux_lemma => kernel_rfl) (by as_aux_lemma => kernel_rfl) (by decide) ⟨g1, g2⟩ ?_
                    simp only [schedOps, List.map_cons, List.map_nil, List.getD_cons_zero, List.getD_cons_succ]
                    repeat (first | (refine wpS_q (by rfl) ?_ (fun w' hC => ?_) ?_; rotate_left; (go_simp; try with_reducible rfl); try simp only [Act.put, List.setIfInBounds_toArray, List.set_cons_zero, List.set_cons_succ]) | (refine wpS_no (by rfl) ?_; try simp only [Act.put, List.setIfInBounds_toArray, List.set_cons_zero, List.set_cons_succ]))
                    refine wpS_nil ?_
                    go_wp2
                    go_roundg (gk - 1)
                    case measure => have := ht.out; omega
                    case rel => exact ⟨j + 1, by omega, by have := ht.out; omega, by go_num, hxr.out.drew.drew⟩
                  · have hge : decide ((1 : Int) ≤ (q : Int)) = true := by simp; omega
                    rcases Nat.lt_or_ge of.length q with hlo | hlo
                    · obtain rfl : y2 = y1 := by
                        rcases hyy.out with h | ⟨h, -⟩ | ⟨-, -, h⟩
                        · exact h
                        · rw [h] at hk3; simp at hk3
                        · rw [List.getElem?_eq_none (by omega)] at h; cases h
                      have hle : decide ((q : Int) ≤ (of.length : Int)) = false := by simp; omega
                      have hle2 : decide (q ≤ of.length) = false := by simp; omega
                      replace hlo := hid hlo
                      go_wp2_with fail
                      refine wp_region_sched (fun _ => True) [(0, true), (1, true), (2, true), (3, true), (4, true), (5, true), (6, true), (7, true), (8, true), (9, true), (10, true), (11, true), (12, true), (13, true), (14, true), (15, true), (16, true), (17, true), (18, true), (19, true), (20, true), (21, true), (22, true), (23, false), (24, true), (25, true), (26, true)] (by as_aux_lemma => kernel_rfl) (by as_aux_lemma => kernel_rfl) (by as_aux_lemma => kernel_rfl) (by decide) trivial ?_
                      simp only [schedOps, List.map_cons, List.map_nil, List.getD_cons_zero, List.getD_cons_succ]
                      repeat (first | (refine wpS_q (by rfl) ?_ (fun w' hC => ?_) ?_; rotate_left; (go_simp; try with_reducible rfl); try simp only [Act.put, List.setIfInBounds_toArray, List.set_cons_zero, List.set_cons_succ]) | (refine wpS_no (by rfl) ?_; try simp only [Act.put, List.setIfInBounds_toArray, List.set_cons_zero, List.set_cons_succ]))
                      refine wpS_nil ?_
                      go_wp2_with fail
                      refine wp_region_sched (fun w' => w'.cell? ⟨b1, o1 + j, none⟩ = some (.string y2) ∧ w'.cell? ⟨b2, o2 + j, none⟩ = some (.string y2)) [(0, true), (1, true), (2, true), (3, true), (4, true), (5, true), (6, true), (7, true), (8, true), (9, true), (10, true), (11, true), (12, true), (13, true), (14, true), (15, true), (16, true)] (by as_aux_lemma => kernel_rfl) (by as_aux_lemma => kernel_rfl) (by as_aux_lemma => kernel_rfl) (by decide) ⟨g1, g2⟩ ?_
                      simp only [schedOps, List.map_cons, List.map_nil, List.getD_cons_zero, List.getD_cons_succ]
                      repeat (first | (refine wpS_q (by rfl) ?_ (fun w' hC => ?_) ?_; rotate_left; (go_simp; try with_reducible rfl); try simp only [Act.put, List.setIfInBounds_toArray, List.set_cons_zero, List.set_cons_succ]) | (refine wpS_no (by rfl) ?_; try simp only [Act.put, List.setIfInBounds_toArray, List.set_cons_zero, List.set_cons_succ]))
                      refine wpS_nil ?_
                      go_wp2
                      go_roundg (gk - 1)
                      case measure => have := ht.out; omega
                      case rel => exact ⟨j + 1, by omega, by have := ht.out; omega, by go_num, hxr.out.drew.drew⟩
                    · have hle : decide ((q : Int) ≤ (of.length : Int)) = true := by simp; omega
                      have hle2 : decide (q ≤ of.length) = true := by simp; omega
                      obtain ⟨p, hp⟩ : ∃ p, p = q - 1 := ⟨_, rfl⟩
                      have hpl : p < of.length := by omega
                      obtain ⟨b3, o3, rfl, g3⟩ := int_at hrow3.out hpl
                      have g3 := hxr.out.cell g3 (fun h => h)
                      have hwp : IntKind.i64.wrap ((q : Int) - 1) = (p : Int) := by rw [Go.IntWalk.i64_in _ (by omega)]; omega
                      obtain ⟨z, hz⟩ : ∃ z, z = of[p] := ⟨_, rfl⟩
                      rw [← hz] at g3
                      have hyz : y2 = y1 ∨ z = classI o.cls := by
                        rcases hyy.out with h | ⟨h, -⟩ | ⟨-, -, h⟩
                        · exact .inl h
                        · rw [h] at hk3; simp at hk3
                        · right
                          rw [show ((q : Int) - 1).toNat = p by omega, List.getElem?_eq_getElem hpl] at h
                          rw [hz]
                          exact Option.some.inj h
                      replace hz := hid hz
                      replace hp := hid hp
                      replace hlo := hid hlo
                      replace hyz := hid hyz
                      go_wp2_with fail
                      refine wp_region_sched (fun w' => w'.cell? ⟨b, off + k * 3 + 1, none⟩ = some (.int .i64 o.cls) ∧ w'.cell? ⟨b3, o3 + p, none⟩ = some (.int .i64 z)) [(0, true), (1, true), (2, true), (3, true), (4, true), (5, true), (6, true), (7, true), (8, true), (9, true), (10, true), (11, true), (12, true), (13, true), (14, true), (15, true), (16, true), (17, true), (18, true), (19, true), (20, true), (21, true), (22, true), (23, false), (24, true), (25, true), (26, true)] (by as_aux_lemma => kernel_rfl) (by as_aux_lemma => kernel_rfl) (by as_aux_lemma => kernel_rfl) (by decide) ⟨r1, g3⟩ ?_
                      simp only [schedOps, List.map_cons, List.map_nil, List.getD_cons_zero, List.getD_cons_succ]
                      repeat (first | (refine wpS_q (by rfl) ?_ (fun w' hC => ?_) ?_; rotate_left; (go_simp; try with_reducible rfl); try simp only [Act.put, List.setIfInBounds_toArray, List.set_cons_zero, List.set_cons_succ]) | (refine wpS_no (by rfl) ?_; try simp only [Act.put, List.setIfInBounds_toArray, List.set_cons_zero, List.set_cons_succ]))
                      refine wpS_c (by rfl) (fun K hK => ?_)
                      go_simp
                      refine (class_any _ _ hoo.out.cls.1 hoo.out.cls.2).mono ?_; rintro e w' ⟨rfl, rfl⟩
                      try dsimp only
                      refine hK.out _ _ ⟨r1, g3⟩ ?_
                      clear hK K
                      try simp only [Act.put, List.setIfInBounds_toArray, List.set_cons_zero, List.set_cons_succ]
                      cases hzc : (z == classI o.cls) with
                      | false =>
                        obtain rfl : y2 = y1 := by
                          rcases hyz.out with h | h
                          · exact h
                          · rw [h] at hzc; simp at hzc
                        repeat (first | (refine wpS_q (by rfl) ?_ (fun w' hC => ?_) ?_; rotate_left; (go_simp; try with_reducible rfl); try simp only [Act.put, List.setIfInBounds_toArray, List.set_cons_zero, List.set_cons_succ]) | (refine wpS_no (by rfl) ?_; try simp only [Act.put, List.setIfInBounds_toArray, List.set_cons_zero, List.set_cons_succ]))
                        refine wpS_nil ?_
                        go_wp2_with fail
                        refine wp_region_sched (fun w' => w'.cell? ⟨b1, o1 + j, none⟩ = some (.string y2) ∧ w'.cell? ⟨b2, o2 + j, none⟩ = some (.string y2)) [(0, true), (1, true), (2, true), (3, true), (4, true), (5, true), (6, true), (7, true), (8, true), (9, true), (10, true), (11, true), (12, true), (13, true), (14, true), (15, true), (16, true)] (by as_aux_lemma => kernel_rfl) (by as_aux_lemma => kernel_rfl) (by as_aux_lemma => kernel_rfl) (by decide) ⟨g1, g2⟩ ?_
                        simp only [schedOps, List.map_cons, List.map_nil, List.getD_cons_zero, List.getD_cons_succ]
                        repeat (first | (refine wpS_q (by rfl) ?_ (fun w' hC => ?_) ?_; rotate_left; (go_simp; try with_reducible rfl); try simp only [Act.put, List.setIfInBounds_toArray, List.set_cons_zero, List.set_cons_succ]) | (refine wpS_no (by rfl) ?_; try simp only [Act.put, List.setIfInBounds_toArray, List.set_cons_zero, List.set_cons_succ]))
                        refine wpS_nil ?_
                        go_wp2
                        go_roundg (gk - 1)
                        case measure => have := ht.out; omega
                        case rel => exact ⟨j + 1, by omega, by have := ht.out; omega, by go_num, hxr.out.drew.drew⟩
                      | true =>
                        repeat (first | (refine wpS_q (by rfl) ?_ (fun w' hC => ?_) ?_; rotate_left; (go_simp; try with_reducible rfl); try simp only [Act.put, List.setIfInBounds_toArray, List.set_cons_zero, List.set_cons_succ]) | (refine wpS_no (by rfl) ?_; try simp only [Act.put, List.setIfInBounds_toArray, List.set_cons_zero, List.set_cons_succ]))
                        refine wpS_nil ?_
                        go_wp2_with fail
                        by_cases he : y2 = y1
                        · subst he
                          refine wp_region_sched (fun w' => w'.cell? ⟨b1, o1 + j, none⟩ = some (.string y2) ∧ w'.cell? ⟨b2, o2 + j, none⟩ = some (.string y2)) [(0, true), (1, true), (2, true), (3, true), (4, true), (5, true), (6, true), (7, true), (8, true), (9, true), (10, true), (11, true), (12, true), (13, true), (14, true), (15, true), (16, true)] (by as_aux_lemma => kernel_rfl) (by as_aux_lemma => kernel_rfl) (by as_aux_lemma => kernel_rfl) (by decide) ⟨g1, g2⟩ ?_
                          simp only [schedOps, List.map_cons, List.map_nil, List.getD_cons_zero, List.getD_cons_succ]
                          repeat (first | (refine wpS_q (by rfl) ?_ (fun w' hC => ?_) ?_; rotate_left; (go_simp; try with_reducible rfl); try simp only [Act.put, List.setIfInBounds_toArray, List.set_cons_zero, List.set_cons_succ]) | (refine wpS_no (by rfl) ?_; try simp only [Act.put, List.setIfInBounds_toArray, List.set_cons_zero, List.set_cons_succ]))
                          refine wpS_nil ?_
                          go_wp2
                          go_roundg (gk - 1)
                          case measure => have := ht.out; omega
                          case rel => exact ⟨j + 1, by omega, by have := ht.out; omega, by go_num, hxr.out.drew.drew⟩
                        · have hb := sEq_false (fun e => he e.symm)
                          replace he := hid he
                          refine wp_region_sched (fun w' => w'.cell? ⟨b1, o1 + j, none⟩ = some (.string y1) ∧ w'.cell? ⟨b2, o2 + j, none⟩ = some (.string y2)) [(0, true), (1, true), (2, true), (3, true), (4, true), (5, true), (6, true), (7, true), (8, true), (9, true), (10, true), (11, true), (12, true), (13, true), (14, true), (15, true), (16, true)] (by as_aux_lemma => kernel_rfl) (by as_aux_lemma => kernel_rfl) (by as_aux_lemma => kernel_rfl) (by decide) ⟨g1, g2⟩ ?_
                          simp only [schedOps, List.map_cons, List.map_nil, List.getD_cons_zero, List.getD_cons_succ]
                          repeat (first | (refine wpS_q (by rfl) ?_ (fun w' hC => ?_) ?_; rotate_left; (go_simp; try with_reducible rfl); try simp only [Act.put, List.setIfInBounds_toArray, List.set_cons_zero, List.set_cons_succ]) | (refine wpS_no (by rfl) ?_; try simp only [Act.put, List.setIfInBounds_toArray, List.set_cons_zero, List.set_cons_succ]))
                          refine wpS_nil ?_
                          go_wp2
                          go_roundg (gk - 1)
                          case measure => have := ht.out; omega
                          case rel => exact ⟨j + 1, by omega, by have := ht.out; omega, by go_num, hxr.out.drew.drew⟩
            · obtain hte : j = N := by have := ht.out; omega
              replace hte := hid hte
              go_wp2_with fail
              go_roundg (G - 1)
              case measure => have := hk.out; omega
              case rel => exact ⟨k + 1, n, st', of, by have := hk.out; omega, by go_num, rfl, by rw [hlast.out]; exact hn.out, hI6.out.mod hxr, hof'.out, hcl5.out, hox6.out.ext hxr, hba5.out, hxr.at hadr6.out (fun h => h)⟩
        · as_aux_lemma =>
          go_wp2_with fail
          go_loopg [21] (N - 30) (fun g i wq => ∃ j : Nat, 30 ≤ j ∧ j + g = N ∧ i = .int .i64 (j : Int) ∧ Ext w6 wq)
          case atStart => exact ⟨30, by omega, by omega, rfl, Mod.refl _ _⟩
          case round =>
            obtain ⟨j, hj30, ht, rfl, hxr⟩ := hrel
            obtain ⟨t, htj⟩ : ∃ t, t = j - 30 := ⟨_, rfl⟩
            have htN : j ≤ N := by omega
            replace ht := hid ht
            by_cases hlt3 : j < N
            · have hl1' := hl1.out
              have hl2' := hl2.out
              obtain ⟨b1, o1, rfl, g1⟩ := str_at hrow1.out (show j < L1.length by omega)
              obtain ⟨b2, o2, rfl, g2⟩ := str_at hrow2.out (show j < L2.length by omega)
              have g1 := hxr.cell g1 (fun h => h)
              have g2 := hxr.cell g2 (fun h => h)
              have r1 := hxr.cell f1 (fun h => h)
              have r2 := hxr.cell f2 (fun h => h)
              obtain ⟨y1, hy1⟩ : ∃ y, y = L1[j]'(by omega) := ⟨_, rfl⟩
              obtain ⟨y2, hy2⟩ : ∃ y, y = L2[j]'(by omega) := ⟨_, rfl⟩
              rw [← hy1] at g1
              rw [← hy2] at g2
              have hyy : y2 = y1 ∨ (pickI o.kind 4 = 3 ∧ ((t / 5 : Nat) : Int) = sessionI o.num n) ∨ (pickI o.kind 4 = 1 ∧ 1 ≤ ((t / 5 : Nat) : Int) ∧ of[((t / 5 : Nat) - 1 : Int).toNat]? = some (classI o.cls)) := by
                have q1 := hv1.out (j) (by omega) (by have := hN.out; omega)
                have q2 := hv2.out (j) (by omega) (by have := hN.out; omega)
                rw [List.getElem?_eq_getElem (by omega), ← hy1] at q1
                rw [List.getElem?_eq_getElem (by omega), ← hy2] at q2
                rw [← htj] at q1 q2
                rcases hrd.out ((t / 5 : Nat) : Int) (addrs.getD (t % 5) .empty) with h | h
                · left
                  rw [h] at q2
                  exact Option.some.inj (q2.trans q1.symm)
                · exact .inr h
              replace hyy := hid hyy
              replace hxr := hid hxr
              replace hl1' := hid hl1'
              replace hl2' := hid hl2'
              clear hy1 hy2
              obtain ⟨q, hq⟩ : ∃ q, q = t / 5 := ⟨_, rfl⟩
              have hqt : q ≤ 60 := by omega
              have hwr : IntKind.i64.wrap ((j : Int) - 30) = (t : Int) := by rw [Go.IntWalk.i64_in _ (by omega)]; omega
              have hwq : IntKind.i64.wrap ((t : Int) / 5) = (q : Int) := by rw [Go.IntWalk.i64_in _ (by omega)]; omega
              rw [← hq] at hyy
              replace hq := hid hq
              replace htj := hid htj
              have hk2 : pickI o.kind 4 = 2 := by simpa using hkb
              have hk3 : (pickI o.kind 4 == 3) = false := by rw [hk2]; rfl
              have hk1 : (pickI o.kind 4 == 1) = false := by rw [hk2]; rfl
              clear hk2
              obtain rfl : y2 = y1 := by
                rcases hyy.out with h | ⟨h, -⟩ | ⟨h, -⟩
                · exact h
                · rw [h] at hk3; simp at hk3
                · rw [h] at hk1; simp at hk1
              go_wp2_with fail
              refine wp_region_sched (fun _ => True) [(0, true), (1, true), (2, true), (3, true), (4, true), (5, true), (6, true), (7, true), (8, true), (9, true), (10, true), (11, true), (12, true), (13, true), (14, true), (15, true), (16, true), (17, true), (18, true), (19, true), (20, true), (21, true), (22, true), (23, false), (24, true), (25, true), (26, true)] (by as_aux_lemma => kernel_rfl) (by as_aux_lemma => kernel_rfl) (by as_aux_lemma => kernel_rfl) (by decide) trivial ?_
              simp only [schedOps, List.map_cons, List.map_nil, List.getD_cons_zero, List.getD_cons_succ]
              repeat (first | (refine wpS_q (by rfl) ?_ (fun w' hC => ?_) ?_; rotate_left; (go_simp; try with_reducible rfl); try simp only [Act.put, List.setIfInBounds_toArray, List.set_cons_zero, List.set_cons_succ]) | (refine wpS_no (by rfl) ?_; try simp only [Act.put, List.setIfInBounds_toArray, List.set_cons_zero, List.set_cons_succ]))
              refine wpS_nil ?_
              go_wp2_with fail
              refine wp_region_sched (fun w' => w'.cell? ⟨b1, o1 + j, none⟩ = some (.string y2) ∧ w'.cell? ⟨b2, o2 + j, none⟩ = some (.string y2)) [(0, true), (1, true), (2, true), (3, true), (4, true), (5, true), (6, true), (7, true), (8, true), (9, true), (10, true), (11, true), (12, true), (13, true), (14, true), (15, true), (16, true)] (by as_aux_lemma => kernel_rfl) (by as_aux_lemma => kernel_rfl) (by as_aux_lemma => kernel_rfl) (by decide) ⟨g1, g2⟩ ?_
              simp only [schedOps, List.map_cons, List.map_nil, List.getD_cons_zero, List.getD_cons_succ]
              repeat (first | (refine wpS_q (by rfl) ?_ (fun w' hC => ?_) ?_; rotate_left; (go_simp; try with_reducible rfl); try simp only [Act.put, List.setIfInBounds_toArray, List.set_cons_zero, List.set_cons_succ]) | (refine wpS_no (by rfl) ?_; try simp only [Act.put, List.setIfInBounds_toArray, List.set_cons_zero, List.set_cons_succ]))
              refine wpS_nil ?_
              go_wp2
              go_roundg (gk - 1)
              case measure => have := ht.out; omega
              case rel => exact ⟨j + 1, by omega, by have := ht.out; omega, by go_num, hxr.out.drew.drew⟩
            · obtain hte : j = N := by have := ht.out; omega
              replace hte := hid hte
              go_wp2_with fail
              go_roundg (G - 1)
              case measure => have := hk.out; omega
              case rel => exact ⟨k + 1, n, st', of, by have := hk.out; omega, by go_num, rfl, by rw [hlast.out]; exact hn.out, hI6.out.mod hxr, hof'.out, hcl5.out, hox6.out.ext hxr, hba5.out, hxr.at hadr6.out (fun h => h)⟩
    · go_wp2_with fail
      go_ret
      exact ⟨rfl, hI.out.ext⟩
end Go.Proofs.Ytncmhcfhbogjnaa
