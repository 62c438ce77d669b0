import Derived.Test.YtncmhcfhbogjnaaD0
namespace Go.Proofs.Ytncmhcfhbogjnaa
open Go.RowKit Cdk

/-- The texts of each snapshot bear one mark. -/
def SiteSt.marked (st : SiteSt) : Prop := ∀ p, ∃ v : Int, ∀ q ∈ st.txt p, q.2 = markB v ++ q.1

theorem pubT_marked (n v : Int) : ∀ q ∈ pubT (pagesL n v), q.2 = markB v ++ q.1 := by
  intro q hq
  unfold pubT at hq
  obtain ⟨p, hp, rfl⟩ := List.mem_map.1 hq
  unfold pagesL at hp
  obtain ⟨i, hi, he⟩ := List.mem_filterMap.1 hp
  unfold pageOf at he
  split at he
  · simp at he; subst he; rfl
  · simp at he

theorem Did.marked {B : Nat} {st st' : SiteSt} {o : OpI} {v opened n e : Int} (h : Did B st o v opened n e st') (hk : pickI o.kind 4 ≠ 1) (hm : st.marked) : st'.marked := by
  cases h with
  | pub pg hk' hc N tb hN =>
    cases pg with
    | true => exact absurd hk' hk
    | false =>
      intro p
      simp only [pubAll, pubSt, Bool.false_eq_true, if_false]
      by_cases e : p = N
      · exact ⟨v, fun q hq => by rw [if_pos e] at hq; exact pubT_marked _ _ q hq⟩
      · rw [if_neg e]; exact hm p
  | bad => exact hm
  | opn => exact hm
  | full => exact hm
  | cls => exact hm

theorem newSt_marked (B : Nat) : (newSt B).marked := fun p => ⟨0, fun q hq => by cases hq⟩

theorem Read_marked {st : SiteSt} (h : st.marked) (n : Int) : ∃ v : Int, ∀ a, (ReadR st n a).2 = 0 → (ReadR st n a).1 = markB v ++ a := by
  unfold ReadR
  cases hf : st.ses.find? (fun p => decide (p.1 = n)) with
  | none => exact ⟨0, fun a h => by simp at h⟩
  | some q =>
    obtain ⟨v, hv⟩ := h q.2.2
    refine ⟨v, fun a he => ?_⟩
    simp only at he ⊢
    unfold getR at he ⊢
    cases hg : (st.txt q.2.2).find? (fun p => decide (p.1 = a)) with
    | none => rw [hg] at he; simp at he
    | some p =>
      simp only
      have h1 := hv p (List.mem_of_find?_eq_some hg)
      have h2 : p.1 = a := by simpa using List.find?_some hg
      rw [h1, h2]

theorem markB_size (v : Int) : (markB v).size = 2 := by unfold markB; rw [strOfNums_size]; rfl

theorem addr_size {t : Nat} (ht : t < 5) : (addrs.getD t .empty).size ≤ 7 := by
  have : ∀ i, i < 5 → (addrs.getD i .empty).size ≤ 7 := by decide
  exact this t ht

theorem extract_right (a b : ByteArray) : (a ++ b).extract a.size (a.size + b.size) = b := by
  apply ByteArray.ext
  simp only [ByteArray.data_extract, ByteArray.data_append]
  rw [show a.size = a.data.size from rfl, show b.size = b.data.size from rfl, Array.extract_append, Nat.sub_self, Nat.add_sub_cancel_left, Array.extract_size, Array.extract_empty_of_size_le_start (Nat.le_refl _), Array.empty_append]
theorem extract_left (a b : ByteArray) : (a ++ b).extract 0 a.size = a := by
  apply ByteArray.ext
  simp [ByteArray.data_extract, ByteArray.data_append]

theorem not_empty {a : ByteArray} (h : a.size ≠ 0) : a.toList.isEmpty = false := by
  cases hq : a.toList.isEmpty with
  | false => rfl
  | true =>
    exfalso
    have hn : a ≠ .empty := fun e => h (by rw [e]; rfl)
    have h1 := sEq_false hn
    rw [List.isEmpty_iff.1 hq] at h1
    have h2 : ByteArray.empty.toList = [] := by kernel_rfl
    rw [h2] at h1
    cases h1

set_option maxRecDepth 100000 in
set_option maxHeartbeats 8000000 in
theorem whole_any (w : World) (ao : Option Addr) (cap : Nat) (l : List OpI) (hl : l.length ≤ cap) (hc : cap ≤ 9223372036854775807) (hr : RowIs w ao (l.flatMap opC)) (hok : ∀ o ∈ l, o.ok) :
    Calls Try.prog 5 #[.slice ao l.length cap] w fun e w' => e = .returned (.bool true) ∧ Ext w w' := by
  have hr' := hid (ops_take hr 40)
  have hok' := hid (fun o (h : o ∈ l.take 40) => hok o (List.mem_of_mem_take h))
  have hlen : Hid ((l.take 40).length = min l.length 40) := hid (by rw [List.length_take, Nat.min_comm])
  have hfew := hid (fun w => few_any ao l.length cap w hl hc)
  obtain ⟨m, hm⟩ : ∃ m, m = min l.length 40 := ⟨_, rfl⟩
  have hm40 : m ≤ 40 := by omega
  have hmc : m ≤ cap := by omega
  rw [← hm] at hlen hfew
  clear hr hok hm
  generalize l.take 40 = lt at hr' hok' hlen
  generalize l.length = n0 at *
  go_enter Try.func5, Try.ntmps5
  go_wp2_with fail
  refine (sane_any w).mono ?_; rintro e w1 ⟨rfl, hE1⟩
  replace hE1 := hid hE1
  go_wp2_with fail
  refine (New_any w1).mono ?_; rintro e w2 ⟨rfl, hE2, hS2⟩
  have hI := hid (inv0 hE1.out hE2 hS2)
  clear hE2 hS2
  go_wp2_with fail
  refine (hfew.out _).mono ?_; rintro e w' ⟨rfl, rfl⟩
  go_wp2_with fail
  refine (addresses_any _).mono ?_; rintro e w8 ⟨rfl, rfl⟩; unfold addrV
  have hx8 : Ext w2 (w2.alloc (.cells (addrs.flatMap strC).toArray 9)) := (Mod.refl _ _).alloc _
  have hadr := hid (heap_alloc_new w2 (.cells (addrs.flatMap strC).toArray 9))
  have hI0 := hid (hI.out.mod hx8)
  have hW2 : w.heap.size ≤ w2.heap.size := hI.out.ext.size
  have haF : ¬ (newSt w1.heap.size).foot (w1.heap.size + 1) w2.heap.size := fun h => by have := hI.out.site.tight.lt _ h; omega
  generalize (w2.alloc (.cells (addrs.flatMap strC).toArray 9)) = w8 at hadr hI0 ⊢
  clear hI hx8
  have h0 : (newSt w1.heap.size).last = 0 := rfl
  have hmk0 := hid (newSt_marked w1.heap.size)
  generalize w2.heap.size = ba at hadr haF hW2 ⊢
  generalize newSt w1.heap.size = st0 at hI0 h0 hmk0 haF
  generalize (fun k => w1.heap.size ≤ k ∧ k < w1.heap.size + 10) = F0 at hI0
  generalize w1.heap.size + 1 = s at hI0 haF ⊢
  go_wp2_with fail
  go_loopg [6, 8] m (fun g op i wr => ∃ (k n : Nat) (st : SiteSt), k + g = m ∧ i = .int .i64 k ∧ op = .int .i64 n ∧ st.last = n ∧ Inv w wr (st.foot s) s st k ∧ st.marked ∧ ¬ st.foot s ba ∧ wr.heap[ba]? = some (.cells (addrs.flatMap strC).toArray 9 (0, 0)))
  case atStart => exact ⟨0, 0, st0, by omega, rfl, rfl, h0, hI0.out.tight, hmk0.out, haF, hadr.out⟩
  case round =>
    obtain ⟨k, n, st, hk, rfl, rfl, hn, hi, hmk, hba, hadr⟩ := hrel
    have hkm : k ≤ m := by omega
    have hn40 : n ≤ k := by have := hi.last; omega
    have hsl := hi.ok.len
    replace hk := hid hk
    replace hn := hid hn
    replace hI := hid hi
    replace hmk := hid hmk
    replace hadr := hid hadr
    replace hba := hid hba
    clear hi h0 hmk0
    by_cases hlt : k < m
    · obtain ⟨b, off, rfl, c0, c1, c2⟩ := op_at hr'.out (show k < lt.length by rw [hlen.out]; exact hlt)
      obtain ⟨o, ho⟩ : ∃ o, o = lt[k]'(by rw [hlen.out]; exact hlt) := ⟨_, rfl⟩
      rw [← ho] at c0 c1 c2
      have hoo : o.ok := by rw [ho]; exact hok'.out _ (List.getElem_mem _)
      have hb : b < w.heap.size := World.block_lt_of_cell? w ⟨b, off + k * 3, none⟩ c0
      have hoo := hid hoo
      replace ho := hid ho
      have d0 := hI.out.ext.cell c0 (fun h => h)
      have d1 := hI.out.ext.cell c1 (fun h => h)
      have d2 := hI.out.ext.cell c2 (fun h => h)
      clear c0 c1 c2
      obtain ⟨wo, rfl⟩ : ∃ wo : World, wo = wr := ⟨_, rfl⟩
      obtain ⟨G, rfl⟩ : ∃ G, G = gk := ⟨_, rfl⟩
      have hx0 : Ext wo (wo.alloc (.cells #[.int .i64 o.kind, .int .i64 o.cls, .int .i64 o.num] 33)) := (Mod.refl _ wo).alloc _
      have hbox : (wo.alloc (.cells #[.int .i64 o.kind, .int .i64 o.cls, .int .i64 o.num] 33)).heap[wo.heap.size]? = some (.cells #[.int .i64 o.kind, .int .i64 o.cls, .int .i64 o.num] 33 (0, 0)) := heap_alloc_new wo _
      replace hbox := hid hbox
      replace hx0 := hid hx0
      go_wp2_with fail
      generalize (wo.alloc (.cells #[.int .i64 o.kind, .int .i64 o.cls, .int .i64 o.num] 33)) = wa at hbox hx0 ⊢
      refine (pick_any _ _ _ hoo.out.kind.1 hoo.out.kind.2 (by omega) (by omega)).mono ?_
      rintro e w' ⟨rfl, rfl⟩
      have hxs : wa.heap.size = wa.heap.size := rfl
      clear hxs
      cases hq : (pickI o.kind 4 == 1) with
      | true =>
        have hset := hid (setCell_heap (j := 0) hbox.out (.int .i64 0))
        have hf0 := free_of hbox.out 0
        have q0 : wa.cell? ⟨wo.heap.size, 0, none⟩ = some (.int .i64 o.kind) := by rw [cell_of hbox.out]; rfl
        have hx : Hid (Ext wo (wa.setCell ⟨wo.heap.size, 0, none⟩ (.int .i64 0))) := hid (hx0.out.setCell (fun h => by simp at h) _)
        have p0 : (wa.setCell ⟨wo.heap.size, 0, none⟩ (.int .i64 0)).cell? ⟨wo.heap.size, 0, none⟩ = some (.int .i64 0) := by rw [cell_of hset.out]; rfl
        have p1 : (wa.setCell ⟨wo.heap.size, 0, none⟩ (.int .i64 0)).cell? ⟨wo.heap.size, 1, none⟩ = some (.int .i64 o.cls) := by rw [cell_of hset.out]; rfl
        have p2 : (wa.setCell ⟨wo.heap.size, 0, none⟩ (.int .i64 0)).cell? ⟨wo.heap.size, 2, none⟩ = some (.int .i64 o.num) := by rw [cell_of hset.out]; rfl
        go_wp2_with fail
        generalize wa.setCell ⟨wo.heap.size, 0, none⟩ (.int .i64 0) = wb at hx p0 p1 p2 ⊢
        clear hset hf0 q0
        have hk1 : Hid (pickI (OpI.mk 0 o.cls o.num).kind 4 ≠ 1) := hid (by show pickI 0 4 ≠ 1; decide)
        have ho' : Hid (OpI.mk 0 o.cls o.num).ok := hid ⟨⟨by show (-9223372036854775808 : Int) ≤ 0; decide, by show (0 : Int) ≤ 9223372036854775807; decide⟩, hoo.out.cls, hoo.out.num⟩
        have hnb : ¬ st.foot s b := fun h => by have := hI.out.new b h; omega
        have hnx : ¬ st.foot s wo.heap.size := fun h => by have := hI.out.site.lt _ h; omega
        have d0' := hx.out.cell d0 (fun h => h)
        clear d0
        refine (perform_any (hI.out.mod hx.out).site hI.out.ok (OpI.mk 0 o.cls o.num) ho'.out (k : Int) (n : Int) (by omega) (by omega) (by omega) (by omega)).mono ?_
        rintro e w5 ⟨n', er, st', F', rfl, hm5, hF5, hS5, hd⟩
        have hI5 := hid ((hI.out.mod hx.out).step (by omega) hm5 hF5 hS5 hd).tight
        obtain ⟨hn0, hn1, hn2⟩ := hd.n_bd hI.out.ok.lo
        have hlast := hid hn2
        have hn3 : n' ≤ 41 := by have := hI5.out.last; omega
        clear hn2 hn1
        have hmk5 := hid (hd.marked hk1.out hmk.out)
        have hlt' := (lt_of_at hadr.out)
        have hadr5 := hid (hm5.at (hx.out.at hadr.out (fun h => h)) hba.out)
        have hba5 : Hid (¬ st'.foot s ba) := hid (fun h => by
          rcases hF5 _ (hS5.foot h) with h' | h'
          · exact hba.out h'
          · have := hx.out.size; omega)
        replace hm5 := hid hm5
        replace hF5 := hid hF5
        replace hS5 := hid hS5
        replace hd := hid hd
        have hmin : Hid (min n' 50 = n') := hid (by omega)
        have hmax : max (n : Int) n' = st'.last := by have := hn.out; have := hlast.out; omega
        have hlo := hI5.out.ok.lo
        have hlast41 : st'.last ≤ k + 1 := hI5.out.last
        replace hmax := hid hmax
        go_wp2_with fail
        · obtain ⟨N, rfl⟩ : ∃ N : Nat, n' = N := ⟨n'.toNat, by omega⟩
          have hNl : st'.last = (N : Int) := by have := hmax.out; omega
          have hmk6 := hmk5
          replace hn0 := hid hn0
          replace hlo := hid hlo
          clear hmin hmax hlast
          replace hNl := hid hNl
          obtain ⟨w6, rfl⟩ : ∃ w6 : World, w6 = w5 := ⟨_, rfl⟩
          go_loopg [12] N (fun g c wq => ∃ t : Nat, t + g = N ∧ c = .int .i64 ((t : Int) + 1) ∧ Ext w6 wq)
          case atStart => exact ⟨0, by omega, rfl, Mod.refl _ _⟩
          case round =>
            obtain ⟨t, ht, rfl, hxq⟩ := hrel
            have htN : t ≤ N := by omega
            replace ht := hid ht
            obtain ⟨wp, rfl⟩ : ∃ wp : World, wp = wr := ⟨_, rfl⟩
            obtain ⟨G2, rfl⟩ : ∃ G2, G2 = gk := ⟨_, rfl⟩
            obtain ⟨v, hv⟩ := Read_marked hmk6.out ((t : Int) + 1)
            replace hv := hid hv
            have hms := markB_size v
            generalize markB v = mb at hv hms
            replace hms := hid hms
            by_cases hlt2 : t < N
            · have hxq1 := hid hxq
              clear hxq
              have hdl : decide ((t : Int) + 1 ≤ (N : Nat)) = true := by simp; omega
              go_wp2_with fail
              go_loopg [13, 14] 5 (fun g mk j wq => ∃ i : Nat, i + g = 5 ∧ j = .int .i64 i ∧ (mk = .string .empty ∨ mk = .string mb) ∧ Ext wp wq)
              case atStart => exact ⟨0, by omega, rfl, .inl rfl, Mod.refl _ _⟩
              case round =>
                obtain ⟨i, hi, rfl, hmkv, hxr⟩ := hrel
                replace hi := hid hi
                replace hmkv := hid hmkv
                by_cases hlt3 : i < 5
                · have hcell := (hxq1.out.trans hxr).cell (addr_at hadr5.out hlt3) (fun h => h)
                  have has := addr_size hlt3
                  obtain ⟨ad, had⟩ : ∃ ad, ad = addrs.getD i .empty := ⟨_, rfl⟩
                  rw [← had] at hcell has
                  clear had
                  have hR := Read_any (hI5.out.site.mod (hxq1.out.trans hxr) (fun _ _ h => h)) ((t : Int) + 1) ad
                  have hva := hv.out ad
                  obtain ⟨u, hu⟩ : ∃ u, u = ReadR st' ((t : Int) + 1) ad := ⟨_, rfl⟩
                  rw [← hu] at hR hva
                  clear hu
                  obtain ⟨u, f⟩ := u
                  unfold resV at hR
                  replace hR := hid hR
                  replace hva := hid hva
                  replace hxr := hid hxr
                  go_wp2_with fail
                  refine hR.out.mono ?_; rintro e w' ⟨rfl, hx9⟩
                  have hcell2 := hx9.cell hcell (fun h => h)
                  replace hx9 := hid hx9
                  clear hcell
                  cases hb2 : (f == 0) with
                  | false =>
                    go_wp2_with fail
                    go_roundg (gk - 1)
                    case measure => have := hi.out; omega
                    case rel => exact ⟨i + 1, by have := hi.out; omega, by go_num, hmkv.out, hxr.out.trans hx9.out⟩
                  | true =>
                    have e2 : f = 0 := by simpa using hb2
                    have hu := hva.out e2
                    clear e2
                    have hsz : u.size = ad.size + 2 := by rw [hu, ByteArray.size_append, hms.out]; omega
                    have he1 : u.extract 2 (ad.size + 2) = ad := by
                      rw [hu, show ad.size + 2 = mb.size + ad.size by rw [hms.out]; omega, show 2 = mb.size from hms.out.symm]
                      exact extract_right mb ad
                    have he2 : u.extract 0 2 = mb := by
                      rw [hu, show 2 = mb.size from hms.out.symm]
                      exact extract_left mb ad
                    have hmne : mb.toList.isEmpty = false := not_empty (by rw [hms.out]; decide)
                    have h22 : (2 : Int) ≤ (ad.size : Int) + 2 := by omega
                    have h23 : (0 : Int) ≤ (ad.size : Int) + 2 := by omega
                    have hwr : IntKind.i64.wrap ((ad.size : Int) + 2) = (ad.size : Int) + 2 := Go.IntWalk.i64_in _ (by omega)
                    replace hu := hid hu
                    go_wp2_with fail
                    refine wp_region_sched (fun w' => w'.cell? ⟨ba, i, none⟩ = some (.string ad)) [(0, true), (1, true), (2, true), (3, true), (4, true), (5, true), (6, true), (7, true), (8, true), (9, true), (10, true), (11, true), (12, true), (13, true), (14, true), (15, true), (16, true), (17, true), (18, true), (19, true), (20, true), (21, true), (22, true), (23, true), (24, true), (25, true), (26, true), (27, true)] (by kernel_rfl) (by kernel_rfl) (by kernel_rfl) (by decide) hcell2 ?_
                    simp only [schedOps, List.map_cons, List.map_nil, List.getD_cons_zero, List.getD_cons_succ]
                    rcases hmkv.out with rfl | rfl
                    all_goals repeat (first | (refine wpS_q (by rfl) ?_ (fun w' hC => ?_) ?_; rotate_left; (go_simp; try with_reducible rfl); try simp only [Act.put, List.setIfInBounds_toArray, List.set_cons_zero, List.set_cons_succ]) | (refine wpS_no (by rfl) ?_; try simp only [Act.put, List.setIfInBounds_toArray, List.set_cons_zero, List.set_cons_succ]))
                    all_goals
                      refine wpS_nil ?_
                      go_wp2
                      go_roundg (gk - 1)
                      case measure => have := hi.out; omega
                      case rel => exact ⟨i + 1, by have := hi.out; omega, by go_num, .inr rfl, (hxr.out.trans hx9.out).drew⟩
                · obtain rfl : i = 5 := by have := hi.out; omega
                  go_wp2_with fail
                  go_roundg (G2 - 1)
                  case measure => have := ht.out; omega
                  case rel => exact ⟨t + 1, by have := ht.out; omega, by go_num, hxq1.out.trans hxr⟩
            · obtain rfl : t = N := by have := ht.out; omega
              go_wp2_with fail
              go_roundg (G - 1)
              case measure => have := hk.out; omega
              case rel => exact ⟨k + 1, t, st', by have := hk.out; omega, by go_num, rfl, hNl.out, hI5.out.mod hxq, hmk5.out, hba5.out, hxq.at hadr5.out (fun h => h)⟩
        · have hNl : st'.last = (n : Int) := by have := hmax.out; omega
          have hmk6 := hmk5
          replace hn0 := hid hn0
          replace hlo := hid hlo
          clear hmin hmax hlast
          replace hNl := hid hNl
          obtain ⟨w6, rfl⟩ : ∃ w6 : World, w6 = w5 := ⟨_, rfl⟩
          go_loopg [12] n (fun g c wq => ∃ t : Nat, t + g = n ∧ c = .int .i64 ((t : Int) + 1) ∧ Ext w6 wq)
          case atStart => exact ⟨0, by omega, rfl, Mod.refl _ _⟩
          case round =>
            obtain ⟨t, ht, rfl, hxq⟩ := hrel
            have htN : t ≤ n := by omega
            replace ht := hid ht
            obtain ⟨wp, rfl⟩ : ∃ wp : World, wp = wr := ⟨_, rfl⟩
            obtain ⟨G2, rfl⟩ : ∃ G2, G2 = gk := ⟨_, rfl⟩
            obtain ⟨v, hv⟩ := Read_marked hmk6.out ((t : Int) + 1)
            replace hv := hid hv
            have hms := markB_size v
            generalize markB v = mb at hv hms
            replace hms := hid hms
            by_cases hlt2 : t < n
            · have hxq1 := hid hxq
              clear hxq
              have hdl : decide ((t : Int) + 1 ≤ (n : Nat)) = true := by simp; omega
              go_wp2_with fail
              go_loopg [13, 14] 5 (fun g mk j wq => ∃ i : Nat, i + g = 5 ∧ j = .int .i64 i ∧ (mk = .string .empty ∨ mk = .string mb) ∧ Ext wp wq)
              case atStart => exact ⟨0, by omega, rfl, .inl rfl, Mod.refl _ _⟩
              case round =>
                obtain ⟨i, hi, rfl, hmkv, hxr⟩ := hrel
                replace hi := hid hi
                replace hmkv := hid hmkv
                by_cases hlt3 : i < 5
                · have hcell := (hxq1.out.trans hxr).cell (addr_at hadr5.out hlt3) (fun h => h)
                  have has := addr_size hlt3
                  obtain ⟨ad, had⟩ : ∃ ad, ad = addrs.getD i .empty := ⟨_, rfl⟩
                  rw [← had] at hcell has
                  clear had
                  have hR := Read_any (hI5.out.site.mod (hxq1.out.trans hxr) (fun _ _ h => h)) ((t : Int) + 1) ad
                  have hva := hv.out ad
                  obtain ⟨u, hu⟩ : ∃ u, u = ReadR st' ((t : Int) + 1) ad := ⟨_, rfl⟩
                  rw [← hu] at hR hva
                  clear hu
                  obtain ⟨u, f⟩ := u
                  unfold resV at hR
                  replace hR := hid hR
                  replace hva := hid hva
                  replace hxr := hid hxr
                  go_wp2_with fail
                  refine hR.out.mono ?_; rintro e w' ⟨rfl, hx9⟩
                  have hcell2 := hx9.cell hcell (fun h => h)
                  replace hx9 := hid hx9
                  clear hcell
                  cases hb2 : (f == 0) with
                  | false =>
                    go_wp2_with fail
                    go_roundg (gk - 1)
                    case measure => have := hi.out; omega
                    case rel => exact ⟨i + 1, by have := hi.out; omega, by go_num, hmkv.out, hxr.out.trans hx9.out⟩
                  | true =>
                    have e2 : f = 0 := by simpa using hb2
                    have hu := hva.out e2
                    clear e2
                    have hsz : u.size = ad.size + 2 := by rw [hu, ByteArray.size_append, hms.out]; omega
                    have he1 : u.extract 2 (ad.size + 2) = ad := by
                      rw [hu, show ad.size + 2 = mb.size + ad.size by rw [hms.out]; omega, show 2 = mb.size from hms.out.symm]
                      exact extract_right mb ad
                    have he2 : u.extract 0 2 = mb := by
                      rw [hu, show 2 = mb.size from hms.out.symm]
                      exact extract_left mb ad
                    have hmne : mb.toList.isEmpty = false := not_empty (by rw [hms.out]; decide)
                    have h22 : (2 : Int) ≤ (ad.size : Int) + 2 := by omega
                    have h23 : (0 : Int) ≤ (ad.size : Int) + 2 := by omega
                    have hwr : IntKind.i64.wrap ((ad.size : Int) + 2) = (ad.size : Int) + 2 := Go.IntWalk.i64_in _ (by omega)
                    replace hu := hid hu
                    go_wp2_with fail
                    refine wp_region_sched (fun w' => w'.cell? ⟨ba, i, none⟩ = some (.string ad)) [(0, true), (1, true), (2, true), (3, true), (4, true), (5, true), (6, true), (7, true), (8, true), (9, true), (10, true), (11, true), (12, true), (13, true), (14, true), (15, true), (16, true), (17, true), (18, true), (19, true), (20, true), (21, true), (22, true), (23, true), (24, true), (25, true), (26, true), (27, true)] (by kernel_rfl) (by kernel_rfl) (by kernel_rfl) (by decide) hcell2 ?_
                    simp only [schedOps, List.map_cons, List.map_nil, List.getD_cons_zero, List.getD_cons_succ]
                    rcases hmkv.out with rfl | rfl
                    all_goals repeat (first | (refine wpS_q (by rfl) ?_ (fun w' hC => ?_) ?_; rotate_left; (go_simp; try with_reducible rfl); try simp only [Act.put, List.setIfInBounds_toArray, List.set_cons_zero, List.set_cons_succ]) | (refine wpS_no (by rfl) ?_; try simp only [Act.put, List.setIfInBounds_toArray, List.set_cons_zero, List.set_cons_succ]))
                    all_goals
                      refine wpS_nil ?_
                      go_wp2
                      go_roundg (gk - 1)
                      case measure => have := hi.out; omega
                      case rel => exact ⟨i + 1, by have := hi.out; omega, by go_num, .inr rfl, (hxr.out.trans hx9.out).drew⟩
                · obtain rfl : i = 5 := by have := hi.out; omega
                  go_wp2_with fail
                  go_roundg (G2 - 1)
                  case measure => have := ht.out; omega
                  case rel => exact ⟨t + 1, by have := ht.out; omega, by go_num, hxq1.out.trans hxr⟩
            · obtain rfl : t = n := by have := ht.out; omega
              go_wp2_with fail
              go_roundg (G - 1)
              case measure => have := hk.out; omega
              case rel => exact ⟨k + 1, t, st', by have := hk.out; omega, by go_num, rfl, hNl.out, hI5.out.mod hxq, hmk5.out, hba5.out, hxq.at hadr5.out (fun h => h)⟩
      | false =>
        have q0 : wa.cell? ⟨wo.heap.size, 0, none⟩ = some (.int .i64 o.kind) := by rw [cell_of hbox.out]; rfl
        have q1 : wa.cell? ⟨wo.heap.size, 1, none⟩ = some (.int .i64 o.cls) := by rw [cell_of hbox.out]; rfl
        have q2 : wa.cell? ⟨wo.heap.size, 2, none⟩ = some (.int .i64 o.num) := by rw [cell_of hbox.out]; rfl
        have hk1 : Hid (pickI o.kind 4 ≠ 1) := hid (by simpa using hq)
        have hx := hx0
        have ho' := hoo
        have hnb : ¬ st.foot s b := fun h => by have := hI.out.new b h; omega
        have hnx : ¬ st.foot s wo.heap.size := fun h => by have := hI.out.site.lt _ h; omega
        have d0' := hx.out.cell d0 (fun h => h)
        clear d0
        go_wp2_with fail
        refine (perform_any (hI.out.mod hx.out).site hI.out.ok o ho'.out (k : Int) (n : Int) (by omega) (by omega) (by omega) (by omega)).mono ?_
        rintro e w5 ⟨n', er, st', F', rfl, hm5, hF5, hS5, hd⟩
        have hI5 := hid ((hI.out.mod hx.out).step (by omega) hm5 hF5 hS5 hd).tight
        obtain ⟨hn0, hn1, hn2⟩ := hd.n_bd hI.out.ok.lo
        have hlast := hid hn2
        have hn3 : n' ≤ 41 := by have := hI5.out.last; omega
        clear hn2 hn1
        have hmk5 := hid (hd.marked hk1.out hmk.out)
        have hlt' := (lt_of_at hadr.out)
        have hadr5 := hid (hm5.at (hx.out.at hadr.out (fun h => h)) hba.out)
        have hba5 : Hid (¬ st'.foot s ba) := hid (fun h => by
          rcases hF5 _ (hS5.foot h) with h' | h'
          · exact hba.out h'
          · have := hx.out.size; omega)
        replace hm5 := hid hm5
        replace hF5 := hid hF5
        replace hS5 := hid hS5
        replace hd := hid hd
        have hmin : Hid (min n' 50 = n') := hid (by omega)
        have hmax : max (n : Int) n' = st'.last := by have := hn.out; have := hlast.out; omega
        have hlo := hI5.out.ok.lo
        have hlast41 : st'.last ≤ k + 1 := hI5.out.last
        replace hmax := hid hmax
        go_wp2_with fail
        · obtain ⟨N, rfl⟩ : ∃ N : Nat, n' = N := ⟨n'.toNat, by omega⟩
          have hNl : st'.last = (N : Int) := by have := hmax.out; omega
          have hmk6 := hmk5
          replace hn0 := hid hn0
          replace hlo := hid hlo
          clear hmin hmax hlast
          replace hNl := hid hNl
          obtain ⟨w6, rfl⟩ : ∃ w6 : World, w6 = w5 := ⟨_, rfl⟩
          go_loopg [12] N (fun g c wq => ∃ t : Nat, t + g = N ∧ c = .int .i64 ((t : Int) + 1) ∧ Ext w6 wq)
          case atStart => exact ⟨0, by omega, rfl, Mod.refl _ _⟩
          case round =>
            obtain ⟨t, ht, rfl, hxq⟩ := hrel
            have htN : t ≤ N := by omega
            replace ht := hid ht
            obtain ⟨wp, rfl⟩ : ∃ wp : World, wp = wr := ⟨_, rfl⟩
            obtain ⟨G2, rfl⟩ : ∃ G2, G2 = gk := ⟨_, rfl⟩
            obtain ⟨v, hv⟩ := Read_marked hmk6.out ((t : Int) + 1)
            replace hv := hid hv
            have hms := markB_size v
            generalize markB v = mb at hv hms
            replace hms := hid hms
            by_cases hlt2 : t < N
            · have hxq1 := hid hxq
              clear hxq
              have hdl : decide ((t : Int) + 1 ≤ (N : Nat)) = true := by simp; omega
              go_wp2_with fail
              go_loopg [13, 14] 5 (fun g mk j wq => ∃ i : Nat, i + g = 5 ∧ j = .int .i64 i ∧ (mk = .string .empty ∨ mk = .string mb) ∧ Ext wp wq)
              case atStart => exact ⟨0, by omega, rfl, .inl rfl, Mod.refl _ _⟩
              case round =>
                obtain ⟨i, hi, rfl, hmkv, hxr⟩ := hrel
                replace hi := hid hi
                replace hmkv := hid hmkv
                by_cases hlt3 : i < 5
                · have hcell := (hxq1.out.trans hxr).cell (addr_at hadr5.out hlt3) (fun h => h)
                  have has := addr_size hlt3
                  obtain ⟨ad, had⟩ : ∃ ad, ad = addrs.getD i .empty := ⟨_, rfl⟩
                  rw [← had] at hcell has
                  clear had
                  have hR := Read_any (hI5.out.site.mod (hxq1.out.trans hxr) (fun _ _ h => h)) ((t : Int) + 1) ad
                  have hva := hv.out ad
                  obtain ⟨u, hu⟩ : ∃ u, u = ReadR st' ((t : Int) + 1) ad := ⟨_, rfl⟩
                  rw [← hu] at hR hva
                  clear hu
                  obtain ⟨u, f⟩ := u
                  unfold resV at hR
                  replace hR := hid hR
                  replace hva := hid hva
                  replace hxr := hid hxr
                  go_wp2_with fail
                  refine hR.out.mono ?_; rintro e w' ⟨rfl, hx9⟩
                  have hcell2 := hx9.cell hcell (fun h => h)
                  replace hx9 := hid hx9
                  clear hcell
                  cases hb2 : (f == 0) with
                  | false =>
                    go_wp2_with fail
                    go_roundg (gk - 1)
                    case measure => have := hi.out; omega
                    case rel => exact ⟨i + 1, by have := hi.out; omega, by go_num, hmkv.out, hxr.out.trans hx9.out⟩
                  | true =>
                    have e2 : f = 0 := by simpa using hb2
                    have hu := hva.out e2
                    clear e2
                    have hsz : u.size = ad.size + 2 := by rw [hu, ByteArray.size_append, hms.out]; omega
                    have he1 : u.extract 2 (ad.size + 2) = ad := by
                      rw [hu, show ad.size + 2 = mb.size + ad.size by rw [hms.out]; omega, show 2 = mb.size from hms.out.symm]
                      exact extract_right mb ad
                    have he2 : u.extract 0 2 = mb := by
                      rw [hu, show 2 = mb.size from hms.out.symm]
                      exact extract_left mb ad
                    have hmne : mb.toList.isEmpty = false := not_empty (by rw [hms.out]; decide)
                    have h22 : (2 : Int) ≤ (ad.size : Int) + 2 := by omega
                    have h23 : (0 : Int) ≤ (ad.size : Int) + 2 := by omega
                    have hwr : IntKind.i64.wrap ((ad.size : Int) + 2) = (ad.size : Int) + 2 := Go.IntWalk.i64_in _ (by omega)
                    replace hu := hid hu
                    go_wp2_with fail
                    refine wp_region_sched (fun w' => w'.cell? ⟨ba, i, none⟩ = some (.string ad)) [(0, true), (1, true), (2, true), (3, true), (4, true), (5, true), (6, true), (7, true), (8, true), (9, true), (10, true), (11, true), (12, true), (13, true), (14, true), (15, true), (16, true), (17, true), (18, true), (19, true), (20, true), (21, true), (22, true), (23, true), (24, true), (25, true), (26, true), (27, true)] (by kernel_rfl) (by kernel_rfl) (by kernel_rfl) (by decide) hcell2 ?_
                    simp only [schedOps, List.map_cons, List.map_nil, List.getD_cons_zero, List.getD_cons_succ]
                    rcases hmkv.out with rfl | rfl
                    all_goals repeat (first | (refine wpS_q (by rfl) ?_ (fun w' hC => ?_) ?_; rotate_left; (go_simp; try with_reducible rfl); try simp only [Act.put, List.setIfInBounds_toArray, List.set_cons_zero, List.set_cons_succ]) | (refine wpS_no (by rfl) ?_; try simp only [Act.put, List.setIfInBounds_toArray, List.set_cons_zero, List.set_cons_succ]))
                    all_goals
                      refine wpS_nil ?_
                      go_wp2
                      go_roundg (gk - 1)
                      case measure => have := hi.out; omega
                      case rel => exact ⟨i + 1, by have := hi.out; omega, by go_num, .inr rfl, (hxr.out.trans hx9.out).drew⟩
                · obtain rfl : i = 5 := by have := hi.out; omega
                  go_wp2_with fail
                  go_roundg (G2 - 1)
                  case measure => have := ht.out; omega
                  case rel => exact ⟨t + 1, by have := ht.out; omega, by go_num, hxq1.out.trans hxr⟩
            · obtain rfl : t = N := by have := ht.out; omega
              go_wp2_with fail
              go_roundg (G - 1)
              case measure => have := hk.out; omega
              case rel => exact ⟨k + 1, t, st', by have := hk.out; omega, by go_num, rfl, hNl.out, hI5.out.mod hxq, hmk5.out, hba5.out, hxq.at hadr5.out (fun h => h)⟩
        · have hNl : st'.last = (n : Int) := by have := hmax.out; omega
          have hmk6 := hmk5
          replace hn0 := hid hn0
          replace hlo := hid hlo
          clear hmin hmax hlast
          replace hNl := hid hNl
          obtain ⟨w6, rfl⟩ : ∃ w6 : World, w6 = w5 := ⟨_, rfl⟩
          go_loopg [12] n (fun g c wq => ∃ t : Nat, t + g = n ∧ c = .int .i64 ((t : Int) + 1) ∧ Ext w6 wq)
          case atStart => exact ⟨0, by omega, rfl, Mod.refl _ _⟩
          case round =>
            obtain ⟨t, ht, rfl, hxq⟩ := hrel
            have htN : t ≤ n := by omega
            replace ht := hid ht
            obtain ⟨wp, rfl⟩ : ∃ wp : World, wp = wr := ⟨_, rfl⟩
            obtain ⟨G2, rfl⟩ : ∃ G2, G2 = gk := ⟨_, rfl⟩
            obtain ⟨v, hv⟩ := Read_marked hmk6.out ((t : Int) + 1)
            replace hv := hid hv
            have hms := markB_size v
            generalize markB v = mb at hv hms
            replace hms := hid hms
            by_cases hlt2 : t < n
            · have hxq1 := hid hxq
              clear hxq
              have hdl : decide ((t : Int) + 1 ≤ (n : Nat)) = true := by simp; omega
              go_wp2_with fail
              go_loopg [13, 14] 5 (fun g mk j wq => ∃ i : Nat, i + g = 5 ∧ j = .int .i64 i ∧ (mk = .string .empty ∨ mk = .string mb) ∧ Ext wp wq)
              case atStart => exact ⟨0, by omega, rfl, .inl rfl, Mod.refl _ _⟩
              case round =>
                obtain ⟨i, hi, rfl, hmkv, hxr⟩ := hrel
                replace hi := hid hi
                replace hmkv := hid hmkv
                by_cases hlt3 : i < 5
                · have hcell := (hxq1.out.trans hxr).cell (addr_at hadr5.out hlt3) (fun h => h)
                  have has := addr_size hlt3
                  obtain ⟨ad, had⟩ : ∃ ad, ad = addrs.getD i .empty := ⟨_, rfl⟩
                  rw [← had] at hcell has
                  clear had
                  have hR := Read_any (hI5.out.site.mod (hxq1.out.trans hxr) (fun _ _ h => h)) ((t : Int) + 1) ad
                  have hva := hv.out ad
                  obtain ⟨u, hu⟩ : ∃ u, u = ReadR st' ((t : Int) + 1) ad := ⟨_, rfl⟩
                  rw [← hu] at hR hva
                  clear hu
                  obtain ⟨u, f⟩ := u
                  unfold resV at hR
                  replace hR := hid hR
                  replace hva := hid hva
                  replace hxr := hid hxr
                  go_wp2_with fail
                  refine hR.out.mono ?_; rintro e w' ⟨rfl, hx9⟩
                  have hcell2 := hx9.cell hcell (fun h => h)
                  replace hx9 := hid hx9
                  clear hcell
                  cases hb2 : (f == 0) with
                  | false =>
                    go_wp2_with fail
                    go_roundg (gk - 1)
                    case measure => have := hi.out; omega
                    case rel => exact ⟨i + 1, by have := hi.out; omega, by go_num, hmkv.out, hxr.out.trans hx9.out⟩
                  | true =>
                    have e2 : f = 0 := by simpa using hb2
                    have hu := hva.out e2
                    clear e2
                    have hsz : u.size = ad.size + 2 := by rw [hu, ByteArray.size_append, hms.out]; omega
                    have he1 : u.extract 2 (ad.size + 2) = ad := by
                      rw [hu, show ad.size + 2 = mb.size + ad.size by rw [hms.out]; omega, show 2 = mb.size from hms.out.symm]
                      exact extract_right mb ad
                    have he2 : u.extract 0 2 = mb := by
                      rw [hu, show 2 = mb.size from hms.out.symm]
                      exact extract_left mb ad
                    have hmne : mb.toList.isEmpty = false := not_empty (by rw [hms.out]; decide)
                    have h22 : (2 : Int) ≤ (ad.size : Int) + 2 := by omega
                    have h23 : (0 : Int) ≤ (ad.size : Int) + 2 := by omega
                    have hwr : IntKind.i64.wrap ((ad.size : Int) + 2) = (ad.size : Int) + 2 := Go.IntWalk.i64_in _ (by omega)
                    replace hu := hid hu
                    go_wp2_with fail
                    refine wp_region_sched (fun w' => w'.cell? ⟨ba, i, none⟩ = some (.string ad)) [(0, true), (1, true), (2, true), (3, true), (4, true), (5, true), (6, true), (7, true), (8, true), (9, true), (10, true), (11, true), (12, true), (13, true), (14, true), (15, true), (16, true), (17, true), (18, true), (19, true), (20, true), (21, true), (22, true), (23, true), (24, true), (25, true), (26, true), (27, true)] (by kernel_rfl) (by kernel_rfl) (by kernel_rfl) (by decide) hcell2 ?_
                    simp only [schedOps, List.map_cons, List.map_nil, List.getD_cons_zero, List.getD_cons_succ]
                    rcases hmkv.out with rfl | rfl
                    all_goals repeat (first | (refine wpS_q (by rfl) ?_ (fun w' hC => ?_) ?_; rotate_left; (go_simp; try with_reducible rfl); try simp only [Act.put, List.setIfInBounds_toArray, List.set_cons_zero, List.set_cons_succ]) | (refine wpS_no (by rfl) ?_; try simp only [Act.put, List.setIfInBounds_toArray, List.set_cons_zero, List.set_cons_succ]))
                    all_goals
                      refine wpS_nil ?_
                      go_wp2
                      go_roundg (gk - 1)
                      case measure => have := hi.out; omega
                      case rel => exact ⟨i + 1, by have := hi.out; omega, by go_num, .inr rfl, (hxr.out.trans hx9.out).drew⟩
                · obtain rfl : i = 5 := by have := hi.out; omega
                  go_wp2_with fail
                  go_roundg (G2 - 1)
                  case measure => have := ht.out; omega
                  case rel => exact ⟨t + 1, by have := ht.out; omega, by go_num, hxq1.out.trans hxr⟩
            · obtain rfl : t = n := by have := ht.out; omega
              go_wp2_with fail
              go_roundg (G - 1)
              case measure => have := hk.out; omega
              case rel => exact ⟨k + 1, t, st', by have := hk.out; omega, by go_num, rfl, hNl.out, hI5.out.mod hxq, hmk5.out, hba5.out, hxq.at hadr5.out (fun h => h)⟩
    · go_wp2_with fail
      go_ret
      exact ⟨rfl, hI.out.ext⟩
end Go.Proofs.Ytncmhcfhbogjnaa
