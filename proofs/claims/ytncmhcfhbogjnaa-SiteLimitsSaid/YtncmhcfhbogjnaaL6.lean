import Derived.Test.YtncmhcfhbogjnaaL5
namespace Go.Proofs.Ytncmhcfhbogjnaa
open Go.RowKit Cdk

set_option maxRecDepth 100000 in
set_option maxHeartbeats 8000000 in
theorem limits_any (w : World) (ao : Option Addr) (cap : Nat) (l : List OpI) (hl : l.length ≤ cap) (hc : cap ≤ 9223372036854775807) (hr : RowIs w ao (l.flatMap opC)) (hok : ∀ o ∈ l, o.ok) :
    Calls Try.prog 8 #[.slice ao l.length cap] w fun e w' => e = .returned (.bool true) ∧ Ext w w' := by
  have hr' := hid (ops_take hr 40)
  have hok' := hid (fun o (h : o ∈ l.take 40) => hok o (List.mem_of_mem_take h))
  have hlen : Hid ((l.take 40).length = min l.length 40) := hid (by rw [List.length_take, Nat.min_comm])
  have hfew := hid (fun w => few_any ao l.length cap w hl hc)
  obtain ⟨m, hm⟩ : ∃ m, m = min l.length 40 := ⟨_, rfl⟩
  have hm40 : m ≤ 40 := by omega
  have hmc : m ≤ cap := by omega
  rw [← hm] at hlen hfew
  clear hr hok hm
  generalize l.take 40 = lt at hr' hok' hlen
  generalize l.length = n0 at *
  go_enter Try.func8, Try.ntmps8
  go_wp2_with fail
  refine (sane_any w).mono ?_; rintro e w1 ⟨rfl, hE1⟩
  replace hE1 := hid hE1
  go_wp2_with fail
  refine (New_any w1).mono ?_; rintro e w2 ⟨rfl, hE2, hS2⟩
  have hI := hid (inv0 hE1.out hE2 hS2)
  clear hE2 hS2
  go_wp2_with fail
  refine (hfew.out _).mono ?_; rintro e w' ⟨rfl, rfl⟩
  go_wp2_with fail
  have h0 : (newSt w1.heap.size).last = 0 := rfl
  have h00 : (newSt w1.heap.size).ses.length = 0 := rfl
  generalize newSt w1.heap.size = st0 at hI h0 h00
  generalize (fun k => w1.heap.size ≤ k ∧ k < w1.heap.size + 10) = F0 at hI
  generalize w1.heap.size + 1 = s at hI ⊢
  go_loopg [6, 7, 8] m (fun g op se i wr => ∃ (k n : Nat) (F : Nat → Prop) (st : SiteSt), k + g = m ∧ i = .int .i64 k ∧ op = .int .i64 n ∧ st.last = n ∧ se = .int .i64 st.ses.length ∧ Inv w wr F s st k)
  case atStart => exact ⟨0, 0, F0, st0, by omega, rfl, rfl, h0, by rw [h00]; rfl, hI.out⟩
  case round =>
    obtain ⟨G, rfl⟩ : ∃ G, G = gk := ⟨_, rfl⟩
    obtain ⟨k, n, F, st, hk, rfl, rfl, hn, rfl, hi⟩ := hrel
    have hkm : k ≤ m := by omega
    have hn40 : n ≤ k := by have := hi.last; omega
    have hsl := hi.ok.len
    replace hk := hid hk
    replace hn := hid hn
    replace hI := hid hi
    clear hi h0 h00
    by_cases hlt : k < m
    · obtain ⟨b, off, rfl, c0, c1, c2⟩ := op_at hr'.out (show k < lt.length by rw [hlen.out]; exact hlt)
      obtain ⟨o, ho⟩ : ∃ o, o = lt[k]'(by rw [hlen.out]; exact hlt) := ⟨_, rfl⟩
      rw [← ho] at c0 c1 c2
      have hoo : o.ok := by rw [ho]; exact hok'.out _ (List.getElem_mem _)
      have hb : b < w.heap.size := World.block_lt_of_cell? w ⟨b, off + k * 3, none⟩ c0
      have hoo := hid hoo
      replace ho := hid ho
      have d0 := hI.out.ext.cell c0 (fun h => h)
      have d1 := hI.out.ext.cell c1 (fun h => h)
      have d2 := hI.out.ext.cell c2 (fun h => h)
      clear c0 c1 c2
      go_wp2_with fail
      refine (view_any hI.out.site hI.out.txt n (by omega)).mono ?_
      rintro e w4 ⟨x, rfl, hown, hx4⟩
      have e0 := hx4.cell d0 (fun h => h)
      have e1 := hx4.cell d1 (fun h => h)
      have e2 := hx4.cell d2 (fun h => h)
      have hI4 := hid (hI.out.mod hx4)
      replace hown := hid hown
      replace hx4 := hid hx4
      clear d0 d1 d2
      go_wp2_with fail
      refine (perform_any hI4.out.site hI4.out.ok o hoo.out (k : Int) (n : Int) (by omega) (by omega) (by omega) (by omega)).mono ?_
      rintro e w5 ⟨n', er, st', F', rfl, hm5, hF5, hS5, hd⟩
      have hnb : ¬ F b := fun h => by have := hI4.out.new b h; omega
      have f0 := hm5.cell e0 hnb
      have hI5 := hid (hI4.out.step (by omega) hm5 hF5 hS5 hd)
      replace hm5 := hid hm5
      replace hF5 := hid hF5
      replace hS5 := hid hS5
      replace hd := hid hd
      clear e0 e1 e2 hnb
      go_wp2_with fail
      refine (pick_any _ _ _ hoo.out.kind.1 hoo.out.kind.2 (by omega) (by omega)).mono ?_
      rintro e w' ⟨rfl, rfl⟩
      rcases hd.out.four hI4.out.site.nodup with ⟨rfl, rfl, rfl⟩ | ⟨rfl, rfl, hkk, hl1, hl2⟩ | ⟨rfl, rfl, hkk, hl1, hl2⟩ | ⟨rfl, rfl, hkk, hl1, hl2⟩
      · go_wp2_with fail
        refine (view_any hI5.out.site hI5.out.txt n (by omega)).mono ?_
        rintro e w6 ⟨x2, rfl, hown2, hx6⟩
        have hI6 := hid (hI5.out.mod hx6)
        have hown6 := (hown.out.mod hm5.out (fun k hk h => by have := hown.out.block k hk; have := hI.out.site.lt k h; omega)).ext hx6
        obtain ⟨ao1, cap1, rfl, hrow1, _⟩ := hown6.row
        obtain ⟨ao2, cap2, rfl, hrow2, _⟩ := hown2.row
        have hL : (viewL st' n).length ≤ 1000 := by
          unfold viewL viewGs viewRs
          rw [List.length_append, flat_len _ 5 (fun k => by simp [viewG, addrs_len]), flat_len _ 5 (fun k => by simp [viewR, addrs_len])]; omega
        generalize viewL st' n = L at hrow1 hrow2 hown hown2 hown6 hL ⊢
        replace hrow1 := hid hrow1
        replace hrow2 := hid hrow2
        clear hown2 hown6 hown
        go_wp2_with fail
        go_loopg [14] L.length (fun g i wq => ∃ t : Nat, t + g = L.length ∧ i = .int .i64 t ∧ Ext w6 wq)
        case atStart => exact ⟨0, by omega, rfl, Mod.refl _ _⟩
        case round =>
          obtain ⟨t, ht, rfl, hxq⟩ := hrel
          replace ht := hid ht
          by_cases hlt2 : t < L.length
          · obtain ⟨b1, o1, rfl, g1⟩ := str_at hrow1.out hlt2
            obtain ⟨b2, o2, rfl, g2⟩ := str_at hrow2.out hlt2
            have g1 := hxq.cell g1 (fun h => h)
            have g2 := hxq.cell g2 (fun h => h)
            have htl : t + 1 ≤ L.length := hlt2
            replace hxq := hid hxq
            go_wp2_with fail
            refine wp_region_sched (fun w' => w'.cell? ⟨b1, o1 + t, none⟩ = some (.string L[t]) ∧ w'.cell? ⟨b2, o2 + t, none⟩ = some (.string L[t])) [(0, true), (1, true), (2, true), (3, true), (4, true), (5, true), (6, true), (7, true), (8, true)] (by kernel_rfl) (by kernel_rfl) (by kernel_rfl) (by decide) ⟨g1, g2⟩ ?_
            simp only [schedOps, List.map_cons, List.map_nil, List.getD_cons_zero, List.getD_cons_succ]
            repeat (refine wpS_q (by rfl) ?_ (fun w' hC => ?_) ?_; rotate_left; (go_simp; try with_reducible rfl); try simp only [Act.put, List.setIfInBounds_toArray, List.set_cons_zero, List.set_cons_succ])
            refine wpS_nil ?_
            go_wp2
            go_roundg (gk - 1)
            case measure => have := ht.out; omega
            case rel => exact ⟨t + 1, by have := ht.out; omega, by go_num, hxq.out.drew⟩
          · obtain rfl : t = L.length := by have := ht.out; omega
            have hI7 := hid (hI6.out.mod hxq)
            go_wp2_with fail
            have hz : Hid ((st'.ses.length : Int) = st'.ses.length) := rfl
            have hxt := Mod.alloc (Mod.refl (fun _ => False) wr) (.cells ([(bs 97, ByteArray.empty, Value.slice none 0 0), (bs 97, ByteArray.empty, Value.slice none 0 0)].flatMap pgCells).toArray 55)
            refine (Publish_dup (hI7.out.site.mod hxt (fun _ _ h => h)) 0 [(bs 97, ByteArray.empty, Value.slice none 0 0), (bs 97, ByteArray.empty, Value.slice none 0 0)] _ 2 true (RowIs.new wr _ 55) (pgsOk_of (by simp)) (by simp) rfl (by decide)).mono ?_
            rintro e w8 ⟨rfl, hx8⟩
            have hI8 := hid (hI7.out.mod (hxt.trans hx8))
            have hSe := Sessions_any hI8.out.site
            rw [hz.out] at hSe
            replace hSe := hid hSe
            obtain ⟨hc4, hc5⟩ := snapsL_len st'
            have hz16 : (st'.ses.length : Int) ≤ 16 := by have := hI8.out.ok.len; omega
            rw [hz.out] at hz16
            have hc6 : ((snapsL st').length : Int) ≤ 4 + (st'.ses.length : Int) := by have := hz.out; omega
            have hSn := hid (fun (wx : World) (hx : Ext w8 wx) => Snapshots_any (hI8.out.site.mod hx (fun _ _ h => h)) (by have := hI8.out.ok.len; omega))
            generalize (snapsL st').length = c at hc4 hc5 hc6 hSn
            replace hxt := hid hxt
            replace hx8 := hid hx8
            clear hc5
            go_wp2_with fail
            refine hSe.out.mono ?_
            rintro e w' ⟨rfl, rfl⟩
            go_wp2_with fail
            refine (hSn.out _ (Mod.refl _ _)).mono ?_
            rintro e w9 ⟨rfl, hx9⟩
            replace hx9 := hid hx9
            go_wp2_with fail
            refine (hSn.out _ hx9.out).mono ?_
            rintro e w10 ⟨rfl, hx10⟩
            have hI10 := hid (hI8.out.mod (hx9.out.trans hx10))
            replace hx10 := hid hx10
            go_wp2_with fail
            go_roundg (G - 1)
            case measure => have := hk.out; omega
            case rel => exact ⟨k + 1, n, _, st', by have := hk.out; omega, by go_num, rfl, hn.out, rfl, hI10.out⟩
      · have hkb : (pickI o.kind 4 == 2) = false := by rcases hkk with h | h <;> rw [h] <;> rfl
        have hkc : (pickI o.kind 4 == 3) = false := by rcases hkk with h | h <;> rw [h] <;> rfl
        have hz : Hid ((st'.ses.length : Int) = st.ses.length) := hid (by rw [hl2])
        have hI7 := hI5
        replace hkk := hid hkk
        replace hl1 := hid hl1
        replace hl2 := hid hl2
        go_wp2_with fail
        have hxt := Mod.alloc (Mod.refl (fun _ => False) w5) (.cells ([(bs 97, ByteArray.empty, Value.slice none 0 0), (bs 97, ByteArray.empty, Value.slice none 0 0)].flatMap pgCells).toArray 55)
        refine (Publish_dup (hI7.out.site.mod hxt (fun _ _ h => h)) 0 [(bs 97, ByteArray.empty, Value.slice none 0 0), (bs 97, ByteArray.empty, Value.slice none 0 0)] _ 2 true (RowIs.new w5 _ 55) (pgsOk_of (by simp)) (by simp) rfl (by decide)).mono ?_
        rintro e w8 ⟨rfl, hx8⟩
        have hI8 := hid (hI7.out.mod (hxt.trans hx8))
        have hSe := Sessions_any hI8.out.site
        rw [hz.out] at hSe
        replace hSe := hid hSe
        obtain ⟨hc4, hc5⟩ := snapsL_len st'
        have hz16 : (st'.ses.length : Int) ≤ 16 := by have := hI8.out.ok.len; omega
        rw [hz.out] at hz16
        have hc6 : ((snapsL st').length : Int) ≤ 4 + (st.ses.length : Int) := by have := hz.out; omega
        have hSn := hid (fun (wx : World) (hx : Ext w8 wx) => Snapshots_any (hI8.out.site.mod hx (fun _ _ h => h)) (by have := hI8.out.ok.len; omega))
        generalize (snapsL st').length = c at hc4 hc5 hc6 hSn
        replace hxt := hid hxt
        replace hx8 := hid hx8
        clear hc5
        go_wp2_with fail
        refine hSe.out.mono ?_
        rintro e w' ⟨rfl, rfl⟩
        go_wp2_with fail
        refine (hSn.out _ (Mod.refl _ _)).mono ?_
        rintro e w9 ⟨rfl, hx9⟩
        replace hx9 := hid hx9
        go_wp2_with fail
        refine (hSn.out _ hx9.out).mono ?_
        rintro e w10 ⟨rfl, hx10⟩
        have hI10 := hid (hI8.out.mod (hx9.out.trans hx10))
        replace hx10 := hid hx10
        go_wp2_with fail
        go_roundg (G - 1)
        case measure => have := hk.out; omega
        case rel => exact ⟨k + 1, n, _, st', by have := hk.out; omega, by go_num, rfl, by rw [hl1.out]; exact hn.out, by rw [hz.out], hI10.out⟩
      · have hkb : (pickI o.kind 4 == 2) = true := by rw [hkk]; rfl
        have hz : Hid ((st'.ses.length : Int) = (st.ses.length : Int) + 1) := hid (by rw [hl1]; simp [openSt])
        have hnn : (st.last + 1 != (n : Int) + 1) = false := by rw [hn.out]; simp
        have hI7 := hI5
        replace hkk := hid hkk
        have hl1' := hid hl1
        clear hl1
        go_wp2_with fail
        have hxt := Mod.alloc (Mod.refl (fun _ => False) w5) (.cells ([(bs 97, ByteArray.empty, Value.slice none 0 0), (bs 97, ByteArray.empty, Value.slice none 0 0)].flatMap pgCells).toArray 55)
        refine (Publish_dup (hI7.out.site.mod hxt (fun _ _ h => h)) 0 [(bs 97, ByteArray.empty, Value.slice none 0 0), (bs 97, ByteArray.empty, Value.slice none 0 0)] _ 2 true (RowIs.new w5 _ 55) (pgsOk_of (by simp)) (by simp) rfl (by decide)).mono ?_
        rintro e w8 ⟨rfl, hx8⟩
        have hI8 := hid (hI7.out.mod (hxt.trans hx8))
        have hSe := Sessions_any hI8.out.site
        rw [hz.out] at hSe
        replace hSe := hid hSe
        obtain ⟨hc4, hc5⟩ := snapsL_len st'
        have hz16 : (st'.ses.length : Int) ≤ 16 := by have := hI8.out.ok.len; omega
        rw [hz.out] at hz16
        have hc6 : ((snapsL st').length : Int) ≤ 4 + ((st.ses.length : Int) + 1) := by have := hz.out; omega
        have hSn := hid (fun (wx : World) (hx : Ext w8 wx) => Snapshots_any (hI8.out.site.mod hx (fun _ _ h => h)) (by have := hI8.out.ok.len; omega))
        generalize (snapsL st').length = c at hc4 hc5 hc6 hSn
        replace hxt := hid hxt
        replace hx8 := hid hx8
        clear hc5
        go_wp2_with fail
        refine hSe.out.mono ?_
        rintro e w' ⟨rfl, rfl⟩
        go_wp2_with fail
        refine (hSn.out _ (Mod.refl _ _)).mono ?_
        rintro e w9 ⟨rfl, hx9⟩
        replace hx9 := hid hx9
        go_wp2_with fail
        refine (hSn.out _ hx9.out).mono ?_
        rintro e w10 ⟨rfl, hx10⟩
        have hI10 := hid (hI8.out.mod (hx9.out.trans hx10))
        replace hx10 := hid hx10
        go_wp2_with fail
        go_roundg (G - 1)
        case measure => have := hk.out; omega
        case rel => exact ⟨k + 1, n + 1, _, st', by have := hk.out; omega, by go_num, rfl, by rw [hl1'.out]; show st.last + 1 = _; rw [hn.out]; rfl, by rw [hz.out], hI10.out⟩
      · have hkb : (pickI o.kind 4 == 2) = false := by rw [hkk]; rfl
        have hkc : (pickI o.kind 4 == 3) = true := by rw [hkk]; rfl
        have hz : Hid ((st'.ses.length : Int) = (st.ses.length : Int) - 1) := hid (by omega)
        have hI7 := hI5
        replace hkk := hid hkk
        have hl1' := hid hl1
        clear hl1
        replace hl2 := hid hl2
        go_wp2_with fail
        have hxt := Mod.alloc (Mod.refl (fun _ => False) w5) (.cells ([(bs 97, ByteArray.empty, Value.slice none 0 0), (bs 97, ByteArray.empty, Value.slice none 0 0)].flatMap pgCells).toArray 55)
        refine (Publish_dup (hI7.out.site.mod hxt (fun _ _ h => h)) 0 [(bs 97, ByteArray.empty, Value.slice none 0 0), (bs 97, ByteArray.empty, Value.slice none 0 0)] _ 2 true (RowIs.new w5 _ 55) (pgsOk_of (by simp)) (by simp) rfl (by decide)).mono ?_
        rintro e w8 ⟨rfl, hx8⟩
        have hI8 := hid (hI7.out.mod (hxt.trans hx8))
        have hSe := Sessions_any hI8.out.site
        rw [hz.out] at hSe
        replace hSe := hid hSe
        obtain ⟨hc4, hc5⟩ := snapsL_len st'
        have hz16 : (st'.ses.length : Int) ≤ 16 := by have := hI8.out.ok.len; omega
        rw [hz.out] at hz16
        have hc6 : ((snapsL st').length : Int) ≤ 4 + ((st.ses.length : Int) - 1) := by have := hz.out; omega
        have hSn := hid (fun (wx : World) (hx : Ext w8 wx) => Snapshots_any (hI8.out.site.mod hx (fun _ _ h => h)) (by have := hI8.out.ok.len; omega))
        generalize (snapsL st').length = c at hc4 hc5 hc6 hSn
        replace hxt := hid hxt
        replace hx8 := hid hx8
        clear hc5
        go_wp2_with fail
        refine hSe.out.mono ?_
        rintro e w' ⟨rfl, rfl⟩
        go_wp2_with fail
        refine (hSn.out _ (Mod.refl _ _)).mono ?_
        rintro e w9 ⟨rfl, hx9⟩
        replace hx9 := hid hx9
        go_wp2_with fail
        refine (hSn.out _ hx9.out).mono ?_
        rintro e w10 ⟨rfl, hx10⟩
        have hI10 := hid (hI8.out.mod (hx9.out.trans hx10))
        replace hx10 := hid hx10
        go_wp2_with fail
        go_roundg (G - 1)
        case measure => have := hk.out; omega
        case rel => exact ⟨k + 1, n, _, st', by have := hk.out; omega, by go_num, rfl, by rw [hl1'.out]; exact hn.out, by rw [hz.out], hI10.out⟩
    · go_wp2_with fail
      go_ret
      exact ⟨rfl, hI.out.ext⟩
end Go.Proofs.Ytncmhcfhbogjnaa
