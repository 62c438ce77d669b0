import Derived.Test.YtncmhcfhbogjnaaD0
namespace Go.Proofs.Ytncmhcfhbogjnaa
open Go.RowKit Cdk

theorem empty_of {a : ByteArray} (h : a.toList.isEmpty = true) : a = .empty := by
  refine Classical.byContradiction fun hn => ?_
  have h1 := sEq_false hn
  rw [List.isEmpty_iff.1 h] at h1
  have h2 : ByteArray.empty.toList = [] := by kernel_rfl
  rw [h2] at h1
  cases h1

set_option maxRecDepth 100000 in
set_option maxHeartbeats 8000000 in
theorem purges_any (w : World) (ao : Option Addr) (cap : Nat) (l : List OpI) (c num : Int) (hl : l.length ≤ cap) (hc : cap ≤ 9223372036854775807) (hr : RowIs w ao (l.flatMap opC)) (hok : ∀ o ∈ l, o.ok) (hcc : In64 c) (hnn : In64 num) :
    Calls Try.prog 6 #[.slice ao l.length cap, .int .i64 c, .int .i64 num] w fun e w' => e = .returned (.bool true) ∧ Ext w w' := by
  have hr' := hid (ops_take hr 40)
  have hok' := hid (fun o (h : o ∈ l.take 40) => hok o (List.mem_of_mem_take h))
  have hlen : Hid ((l.take 40).length = min l.length 40) := hid (by rw [List.length_take, Nat.min_comm])
  have hfew := hid (fun w => few_any ao l.length cap w hl hc)
  obtain ⟨m, hm⟩ : ∃ m, m = min l.length 40 := ⟨_, rfl⟩
  have hm40 : m ≤ 40 := by omega
  have hmc : m ≤ cap := by omega
  rw [← hm] at hlen hfew
  clear hr hok hm
  replace hcc := hid hcc
  replace hnn := hid hnn
  generalize l.take 40 = lt at hr' hok' hlen
  generalize l.length = n0 at *
  go_enter Try.func6, Try.ntmps6
  go_wp2_with fail
  refine (sane_any w).mono ?_; rintro e w1 ⟨rfl, hE1⟩
  replace hE1 := hid hE1
  go_wp2_with fail
  refine (New_any w1).mono ?_; rintro e w2 ⟨rfl, hE2, hS2⟩
  have hI := hid (inv0 hE1.out hE2 hS2)
  clear hE2 hS2
  go_wp2_with fail
  refine (hfew.out _).mono ?_; rintro e w' ⟨rfl, rfl⟩
  go_wp2_with fail
  have h0 : (newSt w1.heap.size).last = 0 := rfl
  have hof0 := hid (newSt_of w1.heap.size)
  generalize newSt w1.heap.size = st0 at hI h0 hof0
  generalize (fun k => w1.heap.size ≤ k ∧ k < w1.heap.size + 10) = F0 at hI
  generalize w1.heap.size + 1 = s at hI ⊢
  go_loopg [10, 11, 12] m (fun g op x i wr => ∃ (k n : Nat) (st : SiteSt) (of : List Int), k + g = m ∧ i = .int .i64 k ∧ op = .int .i64 n ∧ st.last = n ∧ Inv w wr (st.foot s) s st k ∧ OfOk st of ∧ Own wr w.heap.size 3 1 intC x of)
  case atStart => exact ⟨0, 0, st0, [], by omega, rfl, rfl, h0, hI.out.tight, hof0.out, Own.nil _ _ _ _ _⟩
  case round =>
    obtain ⟨k, n, st, of, hk, rfl, rfl, hn, hi, hof, hox⟩ := hrel
    have hxF := hi.site.clear hox
    have hkm : k ≤ m := by omega
    have hn40 : n ≤ k := by have := hi.last; omega
    have hsl := hi.ok.len
    have hofl : of.length = n := by have := hof.len; omega
    replace hk := hid hk
    replace hn := hid hn
    replace hI := hid hi
    replace hof := hid hof
    replace hox := hid hox
    replace hxF := hid hxF
    replace hofl := hid hofl
    clear hi h0 hof0
    by_cases hlt : k < m
    · obtain ⟨b, off, rfl, c0, c1, c2⟩ := op_at hr'.out (show k < lt.length by rw [hlen.out]; exact hlt)
      obtain ⟨o, ho⟩ : ∃ o, o = lt[k]'(by rw [hlen.out]; exact hlt) := ⟨_, rfl⟩
      rw [← ho] at c0 c1 c2
      have hoo : o.ok := by rw [ho]; exact hok'.out _ (List.getElem_mem _)
      have hb : b < w.heap.size := World.block_lt_of_cell? w ⟨b, off + k * 3, none⟩ c0
      have hoo := hid hoo
      replace ho := hid ho
      have d0 := hI.out.ext.cell c0 (fun h => h)
      have d1 := hI.out.ext.cell c1 (fun h => h)
      have d2 := hI.out.ext.cell c2 (fun h => h)
      clear c0 c1 c2
      go_wp2_with fail
      refine (perform_any hI.out.site hI.out.ok o hoo.out (k : Int) (n : Int) (by omega) (by omega) (by omega) (by omega)).mono ?_
      rintro e w5 ⟨n', er, st', F', rfl, hm5, hF5, hS5, hd⟩
      have hnb : ¬ st.foot s b := fun h => by have := hI.out.new b h; omega
      have f0 := hm5.cell d0 hnb
      have f1 := hm5.cell d1 hnb
      have hI5 := hid (hI.out.step (by omega) hm5 hF5 hS5 hd)
      have hox5 := hid (hox.out.mod hm5 hxF.out)
      replace hm5 := hid hm5
      replace hF5 := hid hF5
      replace hS5 := hid hS5
      have hdo := hid (hd.of hof.out)
      replace hd := hid hd
      clear d0 d1 d2 hnb
      go_wp2_with fail
      refine (pick_any _ _ _ hoo.out.kind.1 hoo.out.kind.2 (by omega) (by omega)).mono ?_
      rintro e w' ⟨rfl, rfl⟩
      rcases hdo.out with ⟨hkk, rfl, rfl, rfl, hic, hof'⟩ | ⟨hkk, hof', hlast⟩
      · have hkb : (pickI o.kind 4 == 2) = true := by rw [hkk]; rfl
        replace hkk := hid hkk
        replace hof' := hid hof'
        have hn' : Hid (st.last + 1 = ((n + 1 : Nat) : Int)) := hid (by have := hn.out; omega)
        rw [hn'.out]
        clear hdo
        replace hic := hid hic
        have hbase : w.heap.size ≤ w5.heap.size := by have := hI5.out.ext.size; omega
        go_wp2_with fail
        refine (class_any _ _ hoo.out.cls.1 hoo.out.cls.2).mono ?_
        rintro e w' ⟨rfl, rfl⟩
        have hofl' := hofl.out
        go_wp2_with (at_builtin; refine wpList_app rfl _ _ _ rfl Try.underlying51 el3 rfl (hox5.out.ext ((Mod.refl _ _).alloc _)) _ 1 1 rfl [classI o.cls] rfl (by exact RowIs.new _ _ _) intC_len (fun y _ => intC_one y) (by simp only [List.length_cons, List.length_nil]; omega) (by rw [World.size_alloc]; omega) (by simp) (fun v6 w6 H6 => ?_); go_frame)
        go_roundg (gk - 1)
        case measure => have := hk.out; omega
        case rel =>
          have hx5 := Mod.alloc (Mod.refl (fun _ => False) w5) (.cells (intC (classI o.cls)).toArray 3)
          have hIa := (hI5.out.mod hx5).tight
          have hcl := hIa.site.clear (hox5.out.ext hx5)
          exact ⟨k + 1, n + 1, openSt st (classI o.cls), of ++ [classI o.cls], by have := hk.out; omega, by go_num, rfl, hn'.out, hIa.other H6.out.2 hcl (fun k' h => (hox5.out.block k' h).1), hof'.out, H6.out.1⟩
      · have hkb : (pickI o.kind 4 == 2) = false ∨ ((pickI o.kind 4 == 2) = true ∧ er = 250) := by
          cases hq : (pickI o.kind 4 == 2) with
          | false => exact .inl rfl
          | true =>
            rcases hkk with h | h
            · exact absurd (by simpa using hq) h
            · exact .inr ⟨rfl, h⟩
        clear hdo hkk
        replace hof' := hid hof'
        replace hlast := hid hlast
        rcases hkb with hkb | ⟨hkb, rfl⟩
        · go_wp2_with fail
          go_roundg (gk - 1)
          case measure => have := hk.out; omega
          case rel => exact ⟨k + 1, n, st', of, by have := hk.out; omega, by go_num, rfl, by rw [hlast.out]; exact hn.out, hI5.out.tight, hof'.out, hox5.out⟩
        · go_wp2_with fail
          go_roundg (gk - 1)
          case measure => have := hk.out; omega
          case rel => exact ⟨k + 1, n, st', of, by have := hk.out; omega, by go_num, rfl, by rw [hlast.out]; exact hn.out, hI5.out.tight, hof'.out, hox5.out⟩
    · have hp := pickI_bd c 4 (by omega)
      obtain ⟨kk, hkk⟩ : ∃ kk, kk = pickI c 4 := ⟨_, rfl⟩
      rw [← hkk] at hp
      have hpick := hid (fun w => pick_any c 4 w hcc.out.1 hcc.out.2 (by omega) (by omega))
      rw [← hkk] at hpick
      clear hkk
      go_wp2_with fail
      refine (hpick.out _).mono ?_; rintro e w' ⟨rfl, rfl⟩
      go_wp2_with fail
      refine (pages_any _ _ _ hnn.out.1 hnn.out.2 (by omega) (by omega)).mono ?_
      rintro e w5 ⟨y, rfl, hpg, hx5⟩
      have hI5 := hid (hI.out.mod hx5)
      have hpl := pagesL_len num 700
      obtain ⟨aop, capp, rfl, hrow, hob⟩ := hpg.row
      go_wp2_with fail
      refine (Publish_law hI5.out.site kk hp.1 hp.2 num aop capp true hrow).mono ?_
      rintro e w6 ⟨rfl, hm6, F', N, tb, hF, hN, hS6, hd⟩
      have hI6 := hid (hI5.out.step (by omega) hm6 hF hS6 hd)
      have hox6 := (hox.out.ext hx5).mod hm6 hxF.out
      have hpg6 := hpg.mod hm6 (fun k' h h' => by have := hpg.block k' h; have := hI.out.site.lt k' h'; omega)
      obtain ⟨ao1, cap1, hv1, hrow1, _⟩ := hpg6.row
      obtain ⟨ao2, cap2, rfl, hrow2, _⟩ := hox6.row
      obtain ⟨rfl, -, rfl⟩ := (Value.slice.injEq _ _ _ _ _ _).mp hv1
      have hget := hid (fun a => Get_purged (st := st) (N := N) (tb := tb) (L := pagesL num 700) hp.1 hp.2 a)
      have hread := hid (fun (j : Nat) (a u : ByteArray) (hj : of[j]? = some kk) => Read_purged (L := pagesL num 700) (tb := tb) hof.out (hI5.out.site.fresh hN) (a := a) (u := u) hj)
      have hlk := hid (fun a t => look_pages (n := num) (v := 700) (a := a) (t := t))
      have hwant := hid (fun a => wantF_look (pagesL num 700) a (pagesL_nodup num 700))
      generalize pubAll st kk true N tb (pagesL num 700) = st' at hI6 hget hread
      generalize pagesL num 700 = L at *
      clear hm6 hF hS6 hd hN hpg hrow hx5 hpg6 hox6 hob
      replace hrow1 := hid hrow1
      replace hrow2 := hid hrow2
      go_wp2_with fail
      refine (addresses_any _).mono ?_; rintro e w8 ⟨rfl, rfl⟩; unfold addrV
      have hx8 : Ext w6 (w6.alloc (.cells (addrs.flatMap strC).toArray 9)) := (Mod.refl _ _).alloc _
      have hI8 := hid (hI6.out.mod hx8)
      have hadr := hid (heap_alloc_new w6 (.cells (addrs.flatMap strC).toArray 9))
      generalize (w6.alloc (.cells (addrs.flatMap strC).toArray 9)) = w8 at hx8 hI8 hadr ⊢
      replace hx8 := hid hx8
      go_wp2_with fail
      go_loopg [18] 5 (fun g i wq => ∃ t : Nat, t + g = 5 ∧ i = .int .i64 t ∧ Ext w8 wq)
      case atStart => exact ⟨0, by omega, rfl, Mod.refl _ _⟩
      case round =>
        obtain ⟨t, ht, rfl, hxq⟩ := hrel
        replace ht := hid ht
        by_cases hlt2 : t < 5
        · have hcell := hxq.cell (addr_at hadr.out hlt2) (fun h => h)
          obtain ⟨ad, had⟩ : ∃ ad, ad = addrs.getD t .empty := ⟨_, rfl⟩
          rw [← had] at hcell
          clear had
          have hcell0 := hid hcell
          replace hxq := hid hxq
          obtain ⟨wo, rfl⟩ : ∃ wo : World, wo = wr := ⟨_, rfl⟩
          obtain ⟨G, rfl⟩ : ∃ G, G = gk := ⟨_, rfl⟩
          go_wp2_with fail
          go_loopg [19, 20] L.length (fun g s j wq => ∃ t : Nat, t + g = L.length ∧ j = .int .i64 t ∧ s = .string (wantF (L.take t) ad) ∧ Ext wo wq)
          case atStart => exact ⟨0, by omega, rfl, rfl, Mod.refl _ _⟩
          case round =>
            obtain ⟨j, hj, rfl, rfl, hxr⟩ := hrel
            have hjl : j ≤ L.length := by omega
            replace hj := hid hj
            by_cases hlt3 : j < L.length
            · obtain ⟨b1, o1, rfl, g0, g1, g2⟩ := pg_at hrow1.out hlt3
              have g0 := (hx8.out.trans (hxq.out.trans hxr)).cell g0 (fun h => h)
              have g1 := (hx8.out.trans (hxq.out.trans hxr)).cell g1 (fun h => h)
              have hc1 := hxr.cell hcell0.out (fun h => h)
              have hws := hid (wantF_succ L ad hlt3)
              replace hxr := hid hxr
              obtain ⟨pa, hpa⟩ : ∃ pa, pa = L[j].1 := ⟨_, rfl⟩
              obtain ⟨pt, hpt⟩ : ∃ pt, pt = L[j].2.1 := ⟨_, rfl⟩
              rw [← hpa, ← hpt] at hws
              rw [← hpa] at g0
              rw [← hpt] at g1
              clear hpa hpt g2
              have hjl : (j : Int) < L.length := by omega
              go_wp2_with fail
              refine wp_region_sched (fun w' => w'.cell? ⟨b1, o1 + j * 3, none⟩ = some (.string pa) ∧ w'.cell? ⟨b1, o1 + j * 3 + 1, none⟩ = some (.string pt) ∧ w'.cell? ⟨w6.heap.size, t, none⟩ = some (.string ad)) [(0, true), (1, true), (2, true), (3, true), (4, true), (5, true), (6, true), (7, true), (8, true), (9, true)] (by kernel_rfl) (by kernel_rfl) (by kernel_rfl) (by decide) ⟨g0, g1, hc1⟩ ?_
              simp only [schedOps, List.map_cons, List.map_nil, List.getD_cons_zero, List.getD_cons_succ]
              repeat (refine wpS_q (by rfl) ?_ (fun w' hC => ?_) ?_; rotate_left; (go_simp; try with_reducible rfl); try simp only [Act.put, List.setIfInBounds_toArray, List.set_cons_zero, List.set_cons_succ])
              refine wpS_nil ?_
              by_cases he : pa = ad
              · have hb := sEq_true he
                have hws : Hid (wantF (L.take (j + 1)) ad = pt) := hid (by rw [hws.out, if_pos he])
                replace he := hid he
                rw [hb]
                clear hb
                go_wp2
                go_roundg (gk - 1)
                case measure => have := hj.out; omega
                case rel => exact ⟨j + 1, by have := hj.out; omega, by go_num, by rw [hws.out], hxr.out.drew⟩
              · have hb := sEq_false he
                have hws : Hid (wantF (L.take (j + 1)) ad = wantF (L.take j) ad) := hid (by rw [hws.out, if_neg he])
                replace he := hid he
                rw [hb]
                clear hb
                go_wp2
                go_roundg (gk - 1)
                case measure => have := hj.out; omega
                case rel => exact ⟨j + 1, by have := hj.out; omega, by go_num, by rw [hws.out], hxr.out.drew⟩
            · obtain rfl : j = L.length := by have := hj.out; omega
              have hI9 := hid (hI8.out.mod (hxq.out.trans hxr))
              have hc1 := hxr.cell hcell0.out (fun h => h)
              rw [List.take_length, hwant.out]
              have hG := hid (Get_any hI9.out.site kk ad)
              rw [hget.out, getR_look] at hG
              have hrd := hid (fun (j : Nat) (u : ByteArray) (hj : of[j]? = some kk) (h : ReadR st' (j + 1) ad = (u, 0)) => hread.out j ad u hj h)
              have hlka := hid (fun t => hlk.out ad t)
              generalize look (pubT L) ad = lk at hG hrd hlka ⊢
              replace hxr := hid hxr
              clear hrow1
              go_wp2_with fail
              refine hG.out.mono ?_; rintro e w' ⟨rfl, rfl⟩
              cases lk with
              | none =>
                unfold resV
                dsimp only [Option.getD_none]
                go_wp2_with fail
                have hof40 : of.length ≤ 40 := by have := hofl.out; omega
                go_loopg [23] of.length (fun g j wq => ∃ t : Nat, t + g = of.length ∧ j = .int .i64 t ∧ Ext wr wq)
                case atStart => exact ⟨0, by omega, rfl, Mod.refl _ _⟩
                case round =>
                  obtain ⟨i, hi, rfl, hxs⟩ := hrel
                  replace hi := hid hi
                  by_cases hlt4 : i < of.length
                  · have hrow2' := hrow2.out
                    obtain ⟨b3, o3, hao, k0⟩ := int_at hrow2' hlt4
                    subst hao
                    have k0 := ((hx8.out.trans hxq.out).trans (hxr.out.trans hxs)).cell k0 (fun h => h)
                    have hc2 := (hxr.out.trans hxs).cell hcell0.out (fun h => h)
                    have hR := Read_any (hI9.out.site.mod hxs (fun _ _ h => h)) ((i : Int) + 1) ad
                    obtain ⟨oi, hoi⟩ : ∃ oi, oi = of[i] := ⟨_, rfl⟩
                    rw [← hoi] at k0
                    have hgi : of[i]? = some oi := by rw [List.getElem?_eq_getElem hlt4, hoi]
                    have hss := hrd.out i
                    obtain ⟨u, hu⟩ : ∃ u, u = ReadR st' ((i : Int) + 1) ad := ⟨_, rfl⟩
                    rw [← hu] at hR hss
                    obtain ⟨u, f⟩ := u
                    rw [hgi] at hss
                    unfold resV at hR
                    replace hR := hid hR
                    replace hss := hid hss
                    replace hxs := hid hxs
                    clear hu hoi hgi hrow2'
                    clear hrow2
                    have hi40 : (i : Int) < 1000 := by omega
                    go_wp2_with fail
                    refine hR.out.mono ?_; rintro e w' ⟨rfl, hx9⟩
                    have k1 := hx9.cell k0 (fun h => h)
                    clear k0 hc2
                    replace hx9 := hid hx9
                    cases hb1 : (oi == kk) with
                    | false =>
                      go_wp2_with fail
                      go_roundg (gk - 1)
                      case measure => have := hi.out; omega
                      case rel => exact ⟨i + 1, by have := hi.out; omega, by go_num, hxs.out.trans hx9.out⟩
                    | true =>
                      cases hb2 : (f == 0) with
                      | false =>
                        go_wp2_with fail
                        go_roundg (gk - 1)
                        case measure => have := hi.out; omega
                        case rel => exact ⟨i + 1, by have := hi.out; omega, by go_num, hxs.out.trans hx9.out⟩
                      | true =>
                        have e1 : oi = kk := by simpa using hb1
                        have e2 : f = 0 := by simpa using hb2
                        have := hss.out u (by rw [e1]) (by rw [e2])
                        cases this
                  · obtain rfl : i = of.length := by have := hi.out; omega
                    go_wp2_with fail
                    go_roundg (G - 1)
                    case measure => have := ht.out; omega
                    case rel => exact ⟨t + 1, by have := ht.out; omega, by go_num, hxq.out.trans (hxr.out.trans hxs)⟩
              | some tx =>
                have hne := hlka.out tx rfl
                replace hne := hid hne
                unfold resV
                dsimp only [Option.getD_some]
                go_wp2_with fail
                all_goals first | (exfalso; exact hne.out (empty_of ‹tx.toList.isEmpty = true›)) | skip
                have hof40 : of.length ≤ 40 := by have := hofl.out; omega
                go_loopg [23] of.length (fun g j wq => ∃ t : Nat, t + g = of.length ∧ j = .int .i64 t ∧ Ext wr wq)
                case atStart => exact ⟨0, by omega, rfl, Mod.refl _ _⟩
                case round =>
                  obtain ⟨i, hi, rfl, hxs⟩ := hrel
                  replace hi := hid hi
                  by_cases hlt4 : i < of.length
                  · have hrow2' := hrow2.out
                    obtain ⟨b3, o3, hao, k0⟩ := int_at hrow2' hlt4
                    subst hao
                    have k0 := ((hx8.out.trans hxq.out).trans (hxr.out.trans hxs)).cell k0 (fun h => h)
                    have hc2 := (hxr.out.trans hxs).cell hcell0.out (fun h => h)
                    have hR := Read_any (hI9.out.site.mod hxs (fun _ _ h => h)) ((i : Int) + 1) ad
                    obtain ⟨oi, hoi⟩ : ∃ oi, oi = of[i] := ⟨_, rfl⟩
                    rw [← hoi] at k0
                    have hgi : of[i]? = some oi := by rw [List.getElem?_eq_getElem hlt4, hoi]
                    have hss := hrd.out i
                    obtain ⟨u, hu⟩ : ∃ u, u = ReadR st' ((i : Int) + 1) ad := ⟨_, rfl⟩
                    rw [← hu] at hR hss
                    obtain ⟨u, f⟩ := u
                    rw [hgi] at hss
                    unfold resV at hR
                    replace hR := hid hR
                    replace hss := hid hss
                    replace hxs := hid hxs
                    clear hu hoi hgi hrow2'
                    clear hrow2
                    have hi40 : (i : Int) < 1000 := by omega
                    go_wp2_with fail
                    refine hR.out.mono ?_; rintro e w' ⟨rfl, hx9⟩
                    have k1 := hx9.cell k0 (fun h => h)
                    clear k0 hc2
                    replace hx9 := hid hx9
                    cases hb1 : (oi == kk) with
                    | false =>
                      go_wp2_with fail
                      go_roundg (gk - 1)
                      case measure => have := hi.out; omega
                      case rel => exact ⟨i + 1, by have := hi.out; omega, by go_num, hxs.out.trans hx9.out⟩
                    | true =>
                      cases hb2 : (f == 0) with
                      | false =>
                        go_wp2_with fail
                        go_roundg (gk - 1)
                        case measure => have := hi.out; omega
                        case rel => exact ⟨i + 1, by have := hi.out; omega, by go_num, hxs.out.trans hx9.out⟩
                      | true =>
                        have e1 : oi = kk := by simpa using hb1
                        have e2 : f = 0 := by simpa using hb2
                        obtain rfl : tx = u := Option.some.inj (hss.out u (by rw [e1]) (by rw [e2]))
                        clear e1 e2
                        go_wp2_with fail
                        go_roundg (gk - 1)
                        case measure => have := hi.out; omega
                        case rel => exact ⟨i + 1, by have := hi.out; omega, by go_num, hxs.out.trans hx9.out⟩
                  · obtain rfl : i = of.length := by have := hi.out; omega
                    go_wp2_with fail
                    go_roundg (G - 1)
                    case measure => have := ht.out; omega
                    case rel => exact ⟨t + 1, by have := ht.out; omega, by go_num, hxq.out.trans (hxr.out.trans hxs)⟩
        · go_wp2_with fail
          go_ret
          exact ⟨rfl, hI8.out.ext.trans hxq⟩
end Go.Proofs.Ytncmhcfhbogjnaa
