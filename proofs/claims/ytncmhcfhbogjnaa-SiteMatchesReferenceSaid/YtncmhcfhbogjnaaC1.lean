import Derived.Test.YtncmhcfhbogjnaaC0
namespace Go.Proofs.Ytncmhcfhbogjnaa
open Go.RowKit Cdk

theorem Did.n_bd {B : Nat} {st st' : SiteSt} {o : OpI} {v opened n e : Int} (h : Did B st o v opened n e st') (h0 : 0 ≤ st.last) : 0 ≤ n ∧ n ≤ st'.last ∧ (n = 0 ∧ st'.last = st.last ∨ n = st.last + 1 ∧ st'.last = n) := by
  cases h with
  | pub pg hk hc N tb hN => cases pg <;> exact ⟨by omega, by simp [pubAll, pubSt, purgedSt]; omega, .inl ⟨rfl, rfl⟩⟩
  | bad => exact ⟨by omega, by omega, .inl ⟨rfl, rfl⟩⟩
  | opn => exact ⟨by omega, by simp only [openSt]; omega, .inr ⟨rfl, rfl⟩⟩
  | full => exact ⟨by omega, by omega, .inl ⟨rfl, rfl⟩⟩
  | cls => exact ⟨by omega, by simp only [closeSt]; omega, .inl ⟨rfl, rfl⟩⟩

theorem classI_small {c : Int} (h0 : 0 ≤ c) (h1 : c < 4) : classI c = c := by
  have : pickI c 6 = c := by unfold pickI; rw [if_neg (by omega)]; exact Int.emod_eq_of_lt h0 (by omega)
  unfold classI
  rw [this, if_neg (by omega)]

/-- A publication of the law's own, for a class that there is. -/
theorem Publish_law {w : World} {F : Nat → Prop} {s : Nat} {st : SiteSt} (h : SiteAt w F s st) (c : Int) (hc0 : 0 ≤ c) (hc1 : c < 4) (num : Int) (ao : Option Addr) (cap : Nat) (pg : Bool) (hr : RowIs w ao ((pagesL num 700).flatMap pgCells)) :
    Calls Try.prog 30 #[snapV s, .int .i64 c, .slice ao (pagesL num 700).length cap, .bool pg] w fun e w' => e = .returned (.int .i64 0) ∧ Mod F w w' ∧ ∃ (F' : Nat → Prop) (N tb : Nat), (∀ k, F' k → F k ∨ w.heap.size ≤ k) ∧ w.heap.size ≤ N ∧
      SiteAt w' F' s (pubAll st c pg N tb (pagesL num 700)) ∧ Did w.heap.size st ⟨if pg then 1 else 0, c, num⟩ 700 0 0 0 (pubAll st c pg N tb (pagesL num 700)) := by
  have hic : isClassB c = true := isClassB_iff.2 ⟨hc0, hc1⟩
  refine (Publish_any h c (pagesL num 700) ao cap pg hr (pagesL_ok _ _) (by have := pagesL_len num 700; omega) hic (pagesL_nodup _ _)).mono ?_
  rintro e w' ⟨he, hm, F', N, tb, hF, hN, hS⟩
  refine ⟨he, hm, F', N, tb, hF, hN, hS, ?_⟩
  have := Did.pub (B := w.heap.size) (st := st) (o := ⟨if pg then 1 else 0, c, num⟩) (v := 700) (opened := 0) pg (by cases pg <;> rfl) (by rw [classI_small hc0 hc1]; exact hic) N tb hN
  rwa [classI_small hc0 hc1] at this

set_option maxRecDepth 100000 in
set_option maxHeartbeats 8000000 in
theorem classes_any (w : World) (ao : Option Addr) (cap : Nat) (l : List OpI) (c num : Int) (pg : Bool) (hl : l.length ≤ cap) (hc : cap ≤ 9223372036854775807) (hr : RowIs w ao (l.flatMap opC)) (hok : ∀ o ∈ l, o.ok) (hcc : In64 c) (hnn : In64 num) :
    Calls Try.prog 7 #[.slice ao l.length cap, .int .i64 c, .int .i64 num, .bool pg] w fun e w' => e = .returned (.bool true) ∧ Ext w w' := by
  have hr' := hid (ops_take hr 40)
  have hok' := hid (fun o (h : o ∈ l.take 40) => hok o (List.mem_of_mem_take h))
  have hlen : Hid ((l.take 40).length = min l.length 40) := hid (by rw [List.length_take, Nat.min_comm])
  have hfew := hid (fun w => few_any ao l.length cap w hl hc)
  obtain ⟨m, hm⟩ : ∃ m, m = min l.length 40 := ⟨_, rfl⟩
  have hm40 : m ≤ 40 := by omega
  have hmc : m ≤ cap := by omega
  rw [← hm] at hlen hfew
  clear hr hok hm
  replace hcc := hid hcc
  replace hnn := hid hnn
  generalize l.take 40 = lt at hr' hok' hlen
  generalize l.length = n0 at *
  go_enter Try.func7, Try.ntmps7
  go_wp2_with fail
  refine (sane_any w).mono ?_; rintro e w1 ⟨rfl, hE1⟩
  replace hE1 := hid hE1
  go_wp2_with fail
  refine (New_any w1).mono ?_; rintro e w2 ⟨rfl, hE2, hS2⟩
  have hI := hid (inv0 hE1.out hE2 hS2)
  clear hE2 hS2
  go_wp2_with fail
  refine (hfew.out _).mono ?_; rintro e w' ⟨rfl, rfl⟩
  go_wp2_with fail
  have h0 : (newSt w1.heap.size).last = 0 := rfl
  have hcl0 := hid (newSt_cls w1.heap.size)
  generalize newSt w1.heap.size = st0 at hI h0 hcl0
  generalize (fun k => w1.heap.size ≤ k ∧ k < w1.heap.size + 10) = F0 at hI
  generalize w1.heap.size + 1 = s at hI ⊢
  go_loopg [12, 13] m (fun g op i wr => ∃ (k n : Nat) (F : Nat → Prop) (st : SiteSt), k + g = m ∧ i = .int .i64 k ∧ op = .int .i64 n ∧ st.last = n ∧ Inv w wr F s st k ∧ st.cls)
  case atStart => exact ⟨0, 0, F0, st0, by omega, rfl, rfl, h0, hI.out, hcl0.out⟩
  case round =>
    obtain ⟨k, n, F, st, hk, rfl, rfl, hn, hi, hcl⟩ := hrel
    have hkm : k ≤ m := by omega
    have hn40 : n ≤ k := by have := hi.last; omega
    have hsl := hi.ok.len
    replace hk := hid hk
    replace hn := hid hn
    replace hI := hid hi
    replace hcl := hid hcl
    clear hi h0 hcl0
    by_cases hlt : k < m
    · obtain ⟨b, off, rfl, c0, c1, c2⟩ := op_at hr'.out (show k < lt.length by rw [hlen.out]; exact hlt)
      obtain ⟨o, ho⟩ : ∃ o, o = lt[k]'(by rw [hlen.out]; exact hlt) := ⟨_, rfl⟩
      rw [← ho] at c0 c1 c2
      have hoo : o.ok := by rw [ho]; exact hok'.out _ (List.getElem_mem _)
      have hb : b < w.heap.size := World.block_lt_of_cell? w ⟨b, off + k * 3, none⟩ c0
      have hoo := hid hoo
      replace ho := hid ho
      have d0 := hI.out.ext.cell c0 (fun h => h)
      have d1 := hI.out.ext.cell c1 (fun h => h)
      have d2 := hI.out.ext.cell c2 (fun h => h)
      clear c0 c1 c2
      go_wp2_with fail
      refine (perform_any hI.out.site hI.out.ok o hoo.out (k : Int) (n : Int) (by omega) (by omega) (by omega) (by omega)).mono ?_
      rintro e w5 ⟨n', er, st', F', rfl, hm5, hF5, hS5, hd⟩
      have hI5 := hid (hI.out.step (by omega) hm5 hF5 hS5 hd)
      have hcl5 := hid (hd.keeps_cls hcl.out (fun N hN => hI.out.site.fresh hN))
      obtain ⟨hn0, hn1, hn2⟩ := hd.n_bd hI.out.ok.lo
      have hlast := hid hn2
      have hn3 : n' ≤ 41 := by have := hI5.out.last; omega
      clear hn2 hn1
      replace hm5 := hid hm5
      replace hF5 := hid hF5
      replace hS5 := hid hS5
      replace hd := hid hd
      clear d0 d1 d2
      have hmin : Hid (min n' 50 = n') := hid (by omega)
      have hmax : max (n : Int) n' = st'.last := by have := hn.out; have := hlast.out; omega
      replace hmax := hid hmax
      go_wp2_with fail
      all_goals
        go_roundg (gk - 1)
        case measure => have := hk.out; omega
        case rel =>
          have hmx := hmax.out
          refine ⟨k + 1, st'.last.toNat, F', st', by have := hk.out; omega, by go_num, ?_, ?_, hI5.out, hcl5.out⟩
          · congr 1; have := hI5.out.ok.lo; omega
          · have := hI5.out.ok.lo; omega
    · have hp := pickI_bd c 4 (by omega)
      obtain ⟨kk, hkk⟩ : ∃ kk, kk = pickI c 4 := ⟨_, rfl⟩
      rw [← hkk] at hp
      have hpick := hid (fun w => pick_any c 4 w hcc.out.1 hcc.out.2 (by omega) (by omega))
      rw [← hkk] at hpick
      clear hkk
      go_wp2_with fail
      have hv := view_any hI.out.site hI.out.txt 0 (by omega)
      refine hv.mono ?_
      rintro e w4 ⟨x, rfl, hown, hx4⟩
      have hI4 := hid (hI.out.mod hx4)
      replace hown := hid hown
      replace hx4 := hid hx4
      clear hv
      go_wp2_with fail
      refine (hpick.out _).mono ?_; rintro e w' ⟨rfl, rfl⟩
      go_wp2_with fail
      refine (pages_any _ _ _ hnn.out.1 hnn.out.2 (by omega) (by omega)).mono ?_
      rintro e w5 ⟨y, rfl, hpg, hx5⟩
      have hI5 := hid (hI4.out.mod hx5)
      obtain ⟨aop, capp, rfl, hrow, _⟩ := hpg.row
      go_wp2_with fail
      refine (Publish_law hI5.out.site kk hp.1 hp.2 num aop capp pg hrow).mono ?_
      rintro e w6 ⟨rfl, hm6, F', N, tb, hF, hN, hS6, hd⟩
      have hI6 := hid (hI5.out.step (by omega) hm6 hF hS6 hd)
      have hown6 := (hown.out.ext hx5).mod hm6 (fun k hk h => by have := hown.out.block k hk; have := hI.out.site.lt k h; omega)
      have hown6 := hid hown6
      have hsame := hid (fun n t (ht : t < 30) (hne : ((t / 5 : Nat) : Int) - 1 ≠ kk) => view_same (st := st) hcl.out (c := kk) (pg := pg) (N := N) (tb := tb) (l := pagesL num 700) (isClassB_iff.2 hp) (hI5.out.site.fresh hN) (n := n) ht hne)
      generalize pubAll st kk pg N tb (pagesL num 700) = st' at hI6 hsame
      clear hm6 hF hS6 hd hN hpg hrow hx5 hown
      go_wp2_with fail
      refine (view_any hI6.out.site hI6.out.txt 0 (by omega)).mono ?_
      rintro e w7 ⟨x2, rfl, hown2, hx7⟩
      have hown7 := hown6.out.ext hx7
      have hI7 := hid (hI6.out.mod hx7)
      obtain ⟨ao1, cap1, rfl, hrow1, _⟩ := hown7.row
      obtain ⟨ao2, cap2, rfl, hrow2, _⟩ := hown2.row
      have hl1 := viewL_len st 0
      have hl2 := viewL_len st' 0
      have hsm := hid (hsame.out 0)
      generalize viewL st 0 = L1 at hrow1 hown7 hl1 hsm ⊢
      generalize viewL st' 0 = L2 at hrow2 hown2 hl2 hsm ⊢
      simp only [hl1, hl2]
      replace hl1 := hid hl1
      replace hl2 := hid hl2
      replace hrow1 := hid hrow1
      replace hrow2 := hid hrow2
      clear hown2 hown7 hown6 hsame hx7
      go_wp2_with fail
      refine (addresses_any _).mono ?_; rintro e w8 ⟨rfl, rfl⟩; unfold addrV
      have hx8 : Ext w7 (w7.alloc (.cells (addrs.flatMap strC).toArray 9)) := (Mod.refl _ _).alloc _
      have hI8 := hid (hI7.out.mod hx8)
      generalize (w7.alloc (.cells (addrs.flatMap strC).toArray 9)) = w8 at hx8 hI8 ⊢
      replace hx8 := hid hx8
      go_wp2_with fail
      go_loopg [20] 30 (fun g i wq => ∃ t : Nat, t + g = 30 ∧ i = .int .i64 t ∧ Ext w8 wq)
      case atStart => exact ⟨0, by omega, rfl, Mod.refl _ _⟩
      case round =>
        obtain ⟨t, ht, rfl, hxq⟩ := hrel
        replace ht := hid ht
        by_cases hlt2 : t < 30
        · have hl1' := hl1.out
          have hl2' := hl2.out
          obtain ⟨b1, o1, rfl, g1⟩ := str_at hrow1.out (show t < L1.length by omega)
          obtain ⟨b2, o2, rfl, g2⟩ := str_at hrow2.out (show t < L2.length by omega)
          have g1 := (hx8.out.trans hxq).cell g1 (fun h => h)
          have g2 := (hx8.out.trans hxq).cell g2 (fun h => h)
          obtain ⟨y1, hy1⟩ : ∃ y, y = L1[t]'(by omega) := ⟨_, rfl⟩
          obtain ⟨y2, hy2⟩ : ∃ y, y = L2[t]'(by omega) := ⟨_, rfl⟩
          rw [← hy1] at g1
          rw [← hy2] at g2
          have hyy : (IntKind.i64.wrap (IntKind.i64.wrap ((t : Int) / 5) - 1) != kk) = true → y2 = y1 := by
            intro hq
            have hq1 : ((t / 5 : Nat) : Int) - 1 ≠ kk := by
              rw [Go.IntWalk.i64_in ((t : Int) / 5) (by omega), Go.IntWalk.i64_in _ (by omega)] at hq
              intro e
              rw [← e] at hq
              simp at hq
            have hs := hsm.out t (by omega) hq1
            rw [List.getElem?_eq_getElem (by omega), List.getElem?_eq_getElem (by omega)] at hs
            rw [hy1, hy2]; exact Option.some.inj hs
          replace hyy := hid hyy
          replace hxq := hid hxq
          replace hl1' := hid hl1'
          replace hl2' := hid hl2'
          clear hy1 hy2
          have hb40 : (t : Int) < 40 := by omega
          go_wp2_with fail
          refine wp_region_sched (fun w' => w'.cell? ⟨b1, o1 + t, none⟩ = some (.string y1) ∧ w'.cell? ⟨b2, o2 + t, none⟩ = some (.string y2)) [(0, true), (1, true), (2, true), (3, true), (4, true), (5, true), (6, true), (7, true), (8, true), (9, true), (10, true), (11, true), (12, true), (13, true), (14, true), (15, true), (16, true), (17, true)] (by kernel_rfl) (by kernel_rfl) (by kernel_rfl) (by decide) ⟨g1, g2⟩ ?_
          simp only [schedOps, List.map_cons, List.map_nil, List.getD_cons_zero, List.getD_cons_succ]
          obtain ⟨bq, hq⟩ : ∃ bq, (IntKind.i64.wrap (IntKind.i64.wrap ((t : Int) / 5) - 1) != kk) = bq := ⟨_, rfl⟩
          cases bq
          · repeat (first | (refine wpS_q (by rfl) ?_ (fun w' hC => ?_) ?_; rotate_left; (go_simp; try with_reducible rfl); try simp only [Act.put, List.setIfInBounds_toArray, List.set_cons_zero, List.set_cons_succ]) | (refine wpS_no (by rfl) ?_; try simp only [Act.put, List.setIfInBounds_toArray, List.set_cons_zero, List.set_cons_succ]))
            refine wpS_nil ?_
            go_wp2
            go_roundg (gk - 1)
            case measure => have := ht.out; omega
            case rel => exact ⟨t + 1, by have := ht.out; omega, by go_num, hxq.out.drew⟩
          · obtain rfl := hyy.out hq
            repeat (refine wpS_q (by rfl) ?_ (fun w' hC => ?_) ?_; rotate_left; (go_simp; try with_reducible rfl); try simp only [Act.put, List.setIfInBounds_toArray, List.set_cons_zero, List.set_cons_succ])
            refine wpS_nil ?_
            go_wp2
            go_roundg (gk - 1)
            case measure => have := ht.out; omega
            case rel => exact ⟨t + 1, by have := ht.out; omega, by go_num, hxq.out.drew⟩
        · go_wp2_with fail
          go_ret
          exact ⟨rfl, hI8.out.ext.trans hxq⟩
end Go.Proofs.Ytncmhcfhbogjnaa
