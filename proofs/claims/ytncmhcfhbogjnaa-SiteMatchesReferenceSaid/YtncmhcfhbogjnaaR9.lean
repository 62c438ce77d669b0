import Derived.Test.YtncmhcfhbogjnaaR8
import Derived.Deep.DeepCutAuto
import Derived.Deep.CutBlock
namespace Go.Proofs.Ytncmhcfhbogjnaa
open Go.RowKit Cdk

/-- Where a call of the law has been made on both. -/
def Both (w : World) (s r : Nat) (st : SiteSt) (k : Nat) (wx : World) : Prop :=
  ∃ R μ π, Inv w wx (st.foot s) s st k ∧ RefAt wx r r R ∧ Sim μ π st R ∧ R.made ≤ 4 + k

theorem Both.ext {w wx wy : World} {s r k : Nat} {st : SiteSt} (h : Both w s r st k wx) (hx : Ext wx wy) : Both w s r st k wy := by
  obtain ⟨R, μ, π, a, b, c, d⟩ := h
  exact ⟨R, μ, π, a.mod hx, b.ext hx, c, d⟩

theorem Both.site {w wx : World} {s r k : Nat} {st : SiteSt} (h : Both w s r st k wx) : SiteAt wx (st.foot s) s st := by
  obtain ⟨R, μ, π, a, b, c, d⟩ := h
  exact a.site

theorem Both.inv {w wx : World} {s r k : Nat} {st : SiteSt} (h : Both w s r st k wx) : Inv w wx (st.foot s) s st k := by
  obtain ⟨R, μ, π, a, b, c, d⟩ := h
  exact a

theorem Both.get {w wx : World} {s r k : Nat} {st : SiteSt} (h : Both w s r st k wx) (c : Int) (a : ByteArray) :
    Calls Try.prog 26 #[.pointer (some ⟨r, 0, none⟩), .int .i64 c, .string a] wx fun e w' => e = .returned (resV (GetR st c a)) ∧ wx = w' := by
  obtain ⟨R, μ, π, -, b, e, d⟩ := h
  rw [← e.get]
  exact RGet_any b e.small c a

theorem Both.read {w wx : World} {s r k : Nat} {st : SiteSt} (h : Both w s r st k wx) (c : Int) (a : ByteArray) :
    Calls Try.prog 28 #[.pointer (some ⟨r, 0, none⟩), .int .i64 c, .string a] wx fun e w' => e = .returned (resV (ReadR st c a)) ∧ wx = w' := by
  obtain ⟨R, μ, π, -, b, e, d⟩ := h
  rw [← e.read]
  exact RRead_any b e.small c a

theorem Both.snaps {w wx : World} {s r k : Nat} {st : SiteSt} (h : Both w s r st k wx) :
    Calls Try.prog 23 #[.pointer (some ⟨r, 0, none⟩)] wx fun e w' => e = .returned (.int .i64 (snapsL st).length) ∧ Ext wx w' := by
  obtain ⟨R, μ, π, -, b, e, d⟩ := h
  rw [← e.count]
  exact RSnapshots_any b

theorem Both.open_cell {w wx : World} {s r k : Nat} {st : SiteSt} (h : Both w s r st k wx) : ∃ ao cap, wx.cell? ⟨r, 1, none⟩ = some (.slice ao st.ses.length cap) := by
  obtain ⟨R, μ, π, -, b, e, d⟩ := h
  obtain ⟨ao, cap, hv, -, -⟩ := b.opn.row
  refine ⟨ao, cap, ?_⟩
  rw [b.cells.2.1, hv, e.sessions]

theorem Did.pub_cases {B : Nat} {st st' : SiteSt} {o : OpI} {v opened n e : Int} (h : Did B st o v opened n e st') (pg : Bool) (hk : pickI o.kind 4 = if pg then 1 else 0) :
    (isClassB (classI o.cls) = true ∧ n = 0 ∧ e = 0 ∧ ∃ N tb, B ≤ N ∧ st' = pubAll st (classI o.cls) pg N tb (pagesL o.num v)) ∨ (isClassB (classI o.cls) = false ∧ n = 0 ∧ e = 250 ∧ st' = st) := by
  cases h with
  | pub pg' hk' hc N tb hN =>
    have : pg' = pg := by cases pg <;> cases pg' <;> simp_all
    subst this
    exact .inl ⟨hc, rfl, rfl, N, tb, hN, rfl⟩
  | bad hk' hc => exact .inr ⟨hc, rfl, rfl, rfl⟩
  | opn hk' => rw [hk'] at hk; cases pg <;> simp at hk
  | full hk' => rw [hk'] at hk; cases pg <;> simp at hk
  | cls hk' => rw [hk'] at hk; cases pg <;> simp at hk

theorem Did.open_cases {B : Nat} {st st' : SiteSt} {o : OpI} {v opened n e : Int} (h : Did B st o v opened n e st') (hk : pickI o.kind 4 = 2) :
    (isClassB (classI o.cls) = true ∧ st.ses.length < 16 ∧ n = st.last + 1 ∧ e = 0 ∧ st' = openSt st (classI o.cls)) ∨ ((isClassB (classI o.cls) = false ∨ 16 ≤ st.ses.length) ∧ n = 0 ∧ e = 250 ∧ st' = st) := by
  cases h with
  | pub pg' hk' => rw [hk] at hk'; cases pg' <;> simp at hk'
  | bad hk' hc => rw [hk] at hk'; simp at hk'
  | opn hk' hc hl => exact .inl ⟨hc, hl, rfl, rfl, rfl⟩
  | full hk' hc => exact .inr ⟨hc, rfl, rfl, rfl⟩
  | cls hk' => rw [hk'] at hk; simp at hk

theorem Did.close_cases {B : Nat} {st st' : SiteSt} {o : OpI} {v opened n e : Int} (h : Did B st o v opened n e st') (hk : pickI o.kind 4 = 3) :
    n = 0 ∧ e = closeE st (sessionI o.num opened) ∧ st' = closeSt st (sessionI o.num opened) := by
  cases h with
  | pub pg' hk' => rw [hk] at hk'; cases pg' <;> simp at hk'
  | bad hk' hc => rw [hk] at hk'; simp at hk'
  | opn hk' hc hl => rw [hk] at hk'; simp at hk'
  | full hk' hc => rw [hk] at hk'; simp at hk'
  | cls hk' => exact ⟨rfl, rfl, rfl⟩

theorem pagesL_len5 (n v : Int) : (pagesL n v).length ≤ 5 := by
  unfold pagesL
  have := List.length_filterMap_le (pageOf n v) (List.range 5)
  simpa using this

section
variable {w w5 : World} {s r k : Nat} {st st' : SiteSt} {R : RefSt} {μ : Nat → Int} {π : Nat → List Pg}

theorem Inv.ref {w' : World} (h : Inv w w5 (st'.foot s) s st' (k + 1)) (hr : w.heap.size ≤ r) (hR : RefAt w5 r r R) (hm : Mod (R.foot r) w5 w') : Inv w w' (st'.foot s) s st' (k + 1) :=
  h.other hm (fun k' hk hf => h.site.noref' hR k' hf hk) (fun k' hk => by have := (hR.bound hk).1; omega)

theorem pub_both {w6 : World} {B : Nat} {o : OpI} {v opened n e : Int} (h : Inv w w5 (st'.foot s) s st' (k + 1)) (hr : w.heap.size ≤ r) (hR : RefAt w5 r r R) (hS : Sim μ π st R) (hmd : R.made ≤ 4 + k) (hk : k < 500) (hcl : st.cls)
    (hfr : ∀ N, B ≤ N → ∀ p, st.live p → p ≠ N) (hd : Did B st o v opened n e st') (pg : Bool) (hkd : pickI o.kind 4 = if pg then 1 else 0) (h6 : Ext w5 w6) {x : Value} (hx : PgRow w6 x (pagesL o.num v)) :
    Calls Try.prog 15 #[.pointer (some ⟨r, 0, none⟩), .int .i64 (classI o.cls), x, .bool pg] w6 fun en w' => en = .returned (.int .i64 e) ∧ Both w s r st' (k + 1) w' := by
  have hR6 := hR.ext h6
  have h6i := h.mod h6
  have hsz : r ≤ w6.heap.size := Nat.le_of_lt (lt_of_at hR6.top)
  rcases hd.pub_cases pg hkd with ⟨hc, rfl, rfl, N, tb, hN, rfl⟩ | ⟨hc, rfl, rfl, rfl⟩
  · obtain ⟨h0, h1⟩ := isClassB_iff.1 hc
    obtain ⟨j, hj⟩ := Int.eq_ofNat_of_zero_le h0
    have hj4 : j < 4 := by omega
    rw [hj]
    refine (RPublish_ok hR6 hS.lo (by omega) j hj4 x _ hx (fun p hp => by obtain ⟨a, b, c, e⟩ := pagesL_ok o.num v p hp; rw [e]; rfl) (by have := pagesL_len5 o.num v; omega) (pagesL_nodup _ _) (fun e he => by have := hS.hold e he; omega) pg hsz).mono ?_
    rintro en w' ⟨R', rfl, hm, hR', hcur, hopn, hlast, hmade⟩
    have hS' : ∃ μ' π', Sim μ' π' (pubAll st (classI o.cls) pg N tb (pagesL o.num v)) R' :=
      hS.pub hcl hc pg (hfr N hN) (pagesL_len5 _ _) (by rw [hj]; exact hcur) (by rw [hj]; exact hopn) hlast hmade
    obtain ⟨μ', π', hS'⟩ := hS'
    rw [hj] at h6i hS'
    exact ⟨rfl, R', μ', π', h6i.ref hr hR6 hm, hR', hS', by rw [hmade]; push_cast; omega⟩
  · refine (RPublish_bad _ x pg hc).mono ?_
    rintro en w' ⟨rfl, rfl⟩
    exact ⟨rfl, R, μ, π, h6i, hR6, hS, by push_cast; omega⟩

theorem open_both {B : Nat} {o : OpI} {v opened n e : Int} (h : Inv w w5 (st'.foot s) s st' (k + 1)) (hr : w.heap.size ≤ r) (hR : RefAt w5 r r R) (hS : Sim μ π st R) (hmd : R.made ≤ 4 + k) (hlast : st.last < 900) (hlo : 0 ≤ st.last)
    (hd : Did B st o v opened n e st') (hkd : pickI o.kind 4 = 2) :
    Calls Try.prog 18 #[.pointer (some ⟨r, 0, none⟩), .int .i64 (classI o.cls)] w5 fun en w' => en = .returned (.tuple #[.int .i64 n, .int .i64 e]) ∧ Both w s r st' (k + 1) w' := by
  have hsz : r ≤ w5.heap.size := Nat.le_of_lt (lt_of_at hR.top)
  rcases hd.open_cases hkd with ⟨hc, hl, rfl, rfl, rfl⟩ | ⟨hbad, rfl, rfl, rfl⟩
  · obtain ⟨x, hx, hC⟩ := RStart_ok hR (classI o.cls) hc (by rw [hS.sessions]; exact hl) (by rw [hS.last]; exact hlo) (by rw [hS.last]; omega) hsz
    refine hC.mono ?_
    rintro en w' ⟨ov, rfl, hm, hR'⟩
    exact ⟨by rw [hS.last], _, μ, π, h.ref hr hR hm, hR', hS.open hc hx ov, by push_cast; omega⟩
  · refine (RStart_bad hR (classI o.cls) (by rw [hS.sessions]; exact hbad)).mono ?_
    rintro en w' ⟨rfl, rfl⟩
    exact ⟨rfl, R, μ, π, h, hR, hS, by push_cast; omega⟩

theorem close_both {B : Nat} {o : OpI} {v opened n e : Int} (h : Inv w w5 (st'.foot s) s st' (k + 1)) (hr : w.heap.size ≤ r) (hR : RefAt w5 r r R) (hS : Sim μ π st R) (hmd : R.made ≤ 4 + k) (hnd : (st.ses.map (·.1)).Nodup)
    (hd : Did B st o v opened n e st') (hkd : pickI o.kind 4 = 3) :
    Calls Try.prog 19 #[.pointer (some ⟨r, 0, none⟩), .int .i64 (sessionI o.num opened)] w5 fun en w' => en = .returned (.int .i64 e) ∧ Both w s r st' (k + 1) w' := by
  have hsz : r ≤ w5.heap.size := Nat.le_of_lt (lt_of_at hR.top)
  obtain ⟨rfl, rfl, rfl⟩ := hd.close_cases hkd
  have hf := hS.find (sessionI o.num opened)
  rcases atI_cases R.opn (sessionI o.num opened) with ⟨h1, h2⟩ | ⟨i, hi, h1, h2, h3⟩
  · rw [h2] at hf
    have hno : st.ses.find? (fun p => decide (p.1 = sessionI o.num opened)) = none := by
      cases hq : st.ses.find? (fun p => decide (p.1 = sessionI o.num opened)) with
      | none => rfl
      | some q => rw [hq] at hf; cases hf
    refine (RClose_none hR _ h2).mono ?_
    rintro en w' ⟨rfl, rfl⟩
    have he : closeE st (sessionI o.num opened) = 250 := by unfold closeE; rw [hno]; rfl
    rw [close_none hno] at h ⊢
    exact ⟨by rw [he], R, μ, π, h, hR, hS, by push_cast; omega⟩
  · have hsome : (st.ses.find? (fun p => decide (p.1 = sessionI o.num opened))).isSome = true := by
      cases hq : st.ses.find? (fun p => decide (p.1 = sessionI o.num opened)) with
      | none => rw [hq, h2] at hf; cases hf
      | some q => rfl
    have he : closeE st (sessionI o.num opened) = 0 := by unfold closeE; rw [hsome]; rfl
    refine (RClose_ok hR _ i hi h1 hsz).mono ?_
    rintro en w' ⟨ov, rfl, hm, hR'⟩
    have hSc := hS.close hnd ov hi
    rw [h3] at hSc
    exact ⟨by rw [he], _, μ, π, h.ref hr hR hm, hR', hSc, by push_cast; omega⟩
end

set_option maxRecDepth 100000 in
set_option maxHeartbeats 16000000 in
theorem matches_any (w : World) (ao : Option Addr) (cap : Nat) (l : List OpI) (hl : l.length ≤ cap) (hc : cap ≤ 9223372036854775807) (hr : RowIs w ao (l.flatMap opC)) (hok : ∀ o ∈ l, o.ok) :
    Calls Try.prog 3 #[.slice ao l.length cap] w fun e w' => e = .returned (.bool true) ∧ Ext w w' := by
  have hr' := hid (ops_take hr 40)
  have hok' := hid (fun o (h : o ∈ l.take 40) => hok o (List.mem_of_mem_take h))
  have hlen : Hid ((l.take 40).length = min l.length 40) := hid (by rw [List.length_take, Nat.min_comm])
  have hfew := hid (fun w => few_any ao l.length cap w hl hc)
  obtain ⟨m, hm⟩ : ∃ m, m = min l.length 40 := ⟨_, rfl⟩
  have hm40 : m ≤ 40 := by omega
  have hmc : m ≤ cap := by omega
  rw [← hm] at hlen hfew
  clear hr hok hm
  generalize l.take 40 = lt at hr' hok' hlen
  generalize l.length = n0 at *
  go_enter Try.func3, Try.ntmps3
  go_wp2_with fail
  refine (sane_any w).mono ?_; rintro e w1 ⟨rfl, hE1⟩
  replace hE1 := hid hE1
  go_wp2_with fail
  refine (New_any w1).mono ?_; rintro e w2 ⟨rfl, hE2, hS2⟩
  have hI := (inv0 hE1.out hE2 hS2).tight
  clear hE2 hS2
  go_wp2_with fail
  refine (RNew_any w2).mono ?_; rintro e w3 ⟨cv, rfl, hE3, hR3⟩
  have hI0 := hid (⟨_, _, _, hI.mod hE3, hR3, Sim.new w1.heap.size cv (.slice none 0 0), by show (4 : Int) ≤ 4 + ((0 : Nat) : Int); decide⟩ : Both w (w1.heap.size + 1) w2.heap.size (newSt w1.heap.size) 0 w3)
  go_wp2_with fail
  refine (hfew.out _).mono ?_; rintro e w' ⟨rfl, rfl⟩
  have h0 : (newSt w1.heap.size).last = 0 := rfl
  have hcl0 := hid (newSt_cls w1.heap.size)
  have hW2 : w.heap.size ≤ w2.heap.size := hI.ext.size
  clear hI hR3 hE3
  generalize newSt w1.heap.size = st0 at hI0 h0 hcl0
  generalize w1.heap.size + 1 = s at hI0 ⊢
  generalize w2.heap.size = r at hI0 hW2 ⊢
  go_wp2_with fail
  go_loopg [7, 8] m (fun g op i wr => ∃ (k n : Nat) (st : SiteSt), k + g = m ∧ i = .int .i64 k ∧ op = .int .i64 n ∧ st.last = n ∧ Both w s r st k wr ∧ st.cls)
  case atStart => exact ⟨0, 0, st0, by omega, rfl, rfl, h0, hI0.out, hcl0.out⟩
  case round =>
    clear hI0 hcl0 h0
    obtain ⟨k, n, st, hk, rfl, rfl, hn, hi, hcl⟩ := hrel
    have hkm : k ≤ m := by omega
    have hn40 : n ≤ k := by have := hi.inv.last; omega
    have hsl := hi.inv.ok.len
    replace hk := hid hk
    replace hn := hid hn
    replace hI := hid hi
    replace hcl := hid hcl
    clear hi
    by_cases hlt : k < m
    · obtain ⟨b, off, rfl, c0, c1, c2⟩ := op_at hr'.out (show k < lt.length by rw [hlen.out]; exact hlt)
      obtain ⟨o, ho⟩ : ∃ o, o = lt[k]'(by rw [hlen.out]; exact hlt) := ⟨_, rfl⟩
      rw [← ho] at c0 c1 c2
      have hoo : o.ok := by rw [ho]; exact hok'.out _ (List.getElem_mem _)
      have hb : b < w.heap.size := World.block_lt_of_cell? w ⟨b, off + k * 3, none⟩ c0
      have hoo := hid hoo
      replace ho := hid ho
      have d0 := hI.out.inv.ext.cell c0 (fun h => h)
      have d1 := hI.out.inv.ext.cell c1 (fun h => h)
      have d2 := hI.out.inv.ext.cell c2 (fun h => h)
      have hcw := hid (And.intro c0 (And.intro c1 c2))
      clear c0 c1 c2
      obtain ⟨wo, rfl⟩ : ∃ wo : World, wo = wr := ⟨_, rfl⟩
      obtain ⟨G, rfl⟩ : ∃ G, G = gk := ⟨_, rfl⟩
      go_wp2_with fail
      refine (perform_any hI.out.site hI.out.inv.ok o hoo.out (k : Int) (n : Int) (by omega) (by omega) (by omega) (by omega)).mono ?_
      rintro e w5 ⟨n', er, st', F', rfl, hm5, hF5, hS5, hd⟩
      have hnb : ¬ st.foot s b := fun h => by have := hI.out.inv.new b h; omega
      have f0 := hm5.cell d0 hnb
      have f1 := hm5.cell d1 hnb
      have f2 := hm5.cell d2 hnb
      have hI5 := hid (hI.out.inv.step (by omega) hm5 hF5 hS5 hd).tight
      have hcl5 := hid (hd.keeps_cls hcl.out (fun N hN => hI.out.site.fresh hN))
      have hfr := hid (fun N (hN : wo.heap.size ≤ N) => hI.out.site.fresh hN)
      have hnd : Hid ((st.ses.map (·.1)).Nodup) := hid (by
        obtain ⟨es, cl, -, -, h2, -⟩ := hI.out.site.ses
        rw [List.map_map] at h2; exact h2)
      have hR5 : Hid (∃ R μ π, RefAt w5 r r R ∧ Sim μ π st R ∧ R.made ≤ 4 + k) := hid (by
        obtain ⟨R, μ, π, -, hR, hSim, hmd⟩ := hI.out
        exact ⟨R, μ, π, hR.mod hm5 hI.out.site.noref, hSim, hmd⟩)
      have hbd := hd.n_bd (by have := hn.out; omega)
      have hnb5 : ¬ st'.foot s b := fun h => by have := hI5.out.new b h; omega
      replace hm5 := hid hm5
      replace hF5 := hid hF5
      replace hS5 := hid hS5
      replace hd := hid hd
      replace hbd := hid hbd
      clear d0 d1 d2 hnb
      go_wp2_with fail
      refine (pick_any _ _ _ hoo.out.kind.1 hoo.out.kind.2 (by omega) (by omega)).mono ?_
      rintro e w' ⟨rfl, rfl⟩
      go_upto_block 2 with fail
      go_cut [7, 11, 12] (fun so sm sf wx => so = .int .i64 st'.last ∧ sm = .int .i64 n' ∧ sf = .int .i64 er ∧ Both w s r st' (k + 1) wx)
      case first =>
        obtain ⟨R, μ, π, hR5', hSim, hmd⟩ := hR5.out
        replace hR5' := hid hR5'
        replace hSim := hid hSim
        replace hmd := hid hmd
        rcases pickI4 o.kind with hkd | hkd | hkd | hkd
        · -- Publish, purge: false
          have hkb0 : (pickI o.kind 4 == 0) = true := by rw [hkd]; rfl
          have hkb1 : (pickI o.kind 4 == 1) = false := by rw [hkd]; rfl
          have hso : st'.last = n := by
            have := hn.out
            rcases hbd.out.2.2 with h | h
            · omega
            · exfalso
              rcases hd.out.pub_cases false hkd with h' | h' <;> omega
          have hn0 : Hid (n' = 0) := hid (by rcases hd.out.pub_cases false hkd with h' | h' <;> exact h'.2.1)
          replace hso := hid hso
          have hpb := hid (fun w6 (h6 : Ext w5 w6) x (hx : PgRow w6 x (pagesL o.num k)) => pub_both hI5.out hW2 hR5'.out hSim.out hmd.out (by omega) hcl.out hfr.out hd.out false hkd h6 hx)
          replace hkd := hid hkd
          go_wp2_with fail
          refine wp_region_sched (fun w' => w'.cell? ⟨b, off + k * 3, none⟩ = some (.int .i64 o.kind) ∧ w'.cell? ⟨b, off + k * 3 + 1, none⟩ = some (.int .i64 o.cls) ∧ w'.cell? ⟨b, off + k * 3 + 2, none⟩ = some (.int .i64 o.num)) [(0, true), (1, true), (2, true), (3, true), (4, true), (5, true), (7, true), (8, true), (9, true), (10, true), (11, true), (12, true), (14, true), (15, true), (16, true), (17, true), (18, true), (6, false), (13, false), (19, false), (20, true), (21, false), (22, true)] (by as_aux_lemma => kernel_rfl) (by as_aux_lemma => kernel_rfl) (by as_aux_lemma => kernel_rfl) (by decide) ⟨f0, f1, f2⟩ ?_
          simp only [schedOps, List.map_cons, List.map_nil, List.getD_cons_zero, List.getD_cons_succ]
          repeat (refine wpS_q (by rfl) ?_ (fun w' hC => ?_) ?_; rotate_left; (go_simp; try with_reducible rfl); try simp only [Act.put, List.setIfInBounds_toArray, List.set_cons_zero, List.set_cons_succ])
          refine wpS_c (by rfl) (fun K hK => ?_)
          go_simp
          refine (class_any _ _ hoo.out.cls.1 hoo.out.cls.2).mono ?_; rintro e w' ⟨rfl, rfl⟩
          try dsimp only
          refine hK.out _ _ ⟨f0, f1, f2⟩ ?_
          clear hK K
          try simp only [Act.put, List.setIfInBounds_toArray, List.set_cons_zero, List.set_cons_succ]
          refine wpS_c (by rfl) (fun K hK => ?_)
          go_simp
          refine (pages_any o.num k _ hoo.out.num.1 hoo.out.num.2 (by omega) (by omega)).mono ?_; rintro e w6 ⟨x, rfl, hxo, hx6⟩
          have hx6 : Ext w5 w6 := (Mod.drew0 _ w5).trans hx6
          have g0 := hx6.cell f0 (fun h => h)
          have g1 := hx6.cell f1 (fun h => h)
          have g2 := hx6.cell f2 (fun h => h)
          have hpc := hid (hpb.out w6 hx6 x (hxo.weaken (Nat.zero_le _)))
          replace hx6 := hid hx6
          try dsimp only
          refine hK.out _ _ ⟨g0, g1, g2⟩ ?_
          clear hK K hxo
          try simp only [Act.put, List.setIfInBounds_toArray, List.set_cons_zero, List.set_cons_succ]
          refine wpS_c (by rfl) (fun K hK => ?_)
          go_simp
          refine (pick_any _ _ _ hoo.out.kind.1 hoo.out.kind.2 (by omega) (by omega)).mono ?_; rintro e w' ⟨rfl, rfl⟩
          try dsimp only
          refine hK.out _ _ ⟨g0, g1, g2⟩ ?_
          clear hK K
          try simp only [Act.put, List.setIfInBounds_toArray, List.set_cons_zero, List.set_cons_succ]
          repeat (refine wpS_q (by rfl) ?_ (fun w' hC => ?_) ?_; rotate_left; (go_simp; try with_reducible rfl); try simp only [Act.put, List.setIfInBounds_toArray, List.set_cons_zero, List.set_cons_succ])
          refine wpS_c (by rfl) (fun K hK => ?_)
          go_simp
          refine hpc.out.mono ?_; rintro e w7 ⟨rfl, hB⟩
          have i0 := hB.inv.ext.cell hcw.out.1 (fun h => h)
          have i1 := hB.inv.ext.cell hcw.out.2.1 (fun h => h)
          have i2 := hB.inv.ext.cell hcw.out.2.2 (fun h => h)
          replace hB := hid hB
          try dsimp only
          refine hK.out _ _ ⟨i0, i1, i2⟩ ?_
          clear hK K
          try simp only [Act.put, List.setIfInBounds_toArray, List.set_cons_zero, List.set_cons_succ]
          repeat (refine wpS_q (by rfl) ?_ (fun w' hC => ?_) ?_; rotate_left; (go_simp; try with_reducible rfl); try simp only [Act.put, List.setIfInBounds_toArray, List.set_cons_zero, List.set_cons_succ])
          refine wpS_nil ?_
          go_wp2_with fail
          go_meet
          exact ⟨by rw [hso.out], by rw [hn0.out], rfl, hB.out⟩
        · -- Publish, purge: true
          have hkb0 : (pickI o.kind 4 == 0) = false := by rw [hkd]; rfl
          have hkb1 : (pickI o.kind 4 == 1) = true := by rw [hkd]; rfl
          have hso : st'.last = n := by
            have := hn.out
            rcases hbd.out.2.2 with h | h
            · omega
            · exfalso
              rcases hd.out.pub_cases true hkd with h' | h' <;> omega
          have hn0 : Hid (n' = 0) := hid (by rcases hd.out.pub_cases true hkd with h' | h' <;> exact h'.2.1)
          replace hso := hid hso
          have hpb := hid (fun w6 (h6 : Ext w5 w6) x (hx : PgRow w6 x (pagesL o.num k)) => pub_both hI5.out hW2 hR5'.out hSim.out hmd.out (by omega) hcl.out hfr.out hd.out true hkd h6 hx)
          replace hkd := hid hkd
          go_wp2_with fail
          refine wp_region_sched (fun w' => w'.cell? ⟨b, off + k * 3, none⟩ = some (.int .i64 o.kind) ∧ w'.cell? ⟨b, off + k * 3 + 1, none⟩ = some (.int .i64 o.cls) ∧ w'.cell? ⟨b, off + k * 3 + 2, none⟩ = some (.int .i64 o.num)) [(0, true), (1, true), (2, true), (3, true), (4, true), (5, true), (7, true), (8, true), (9, true), (10, true), (11, true), (12, true), (14, true), (15, true), (16, true), (17, true), (18, true), (6, false), (13, false), (19, false), (20, true), (21, false), (22, true)] (by as_aux_lemma => kernel_rfl) (by as_aux_lemma => kernel_rfl) (by as_aux_lemma => kernel_rfl) (by decide) ⟨f0, f1, f2⟩ ?_
          simp only [schedOps, List.map_cons, List.map_nil, List.getD_cons_zero, List.getD_cons_succ]
          repeat (refine wpS_q (by rfl) ?_ (fun w' hC => ?_) ?_; rotate_left; (go_simp; try with_reducible rfl); try simp only [Act.put, List.setIfInBounds_toArray, List.set_cons_zero, List.set_cons_succ])
          refine wpS_c (by rfl) (fun K hK => ?_)
          go_simp
          refine (class_any _ _ hoo.out.cls.1 hoo.out.cls.2).mono ?_; rintro e w' ⟨rfl, rfl⟩
          try dsimp only
          refine hK.out _ _ ⟨f0, f1, f2⟩ ?_
          clear hK K
          try simp only [Act.put, List.setIfInBounds_toArray, List.set_cons_zero, List.set_cons_succ]
          refine wpS_c (by rfl) (fun K hK => ?_)
          go_simp
          refine (pages_any o.num k _ hoo.out.num.1 hoo.out.num.2 (by omega) (by omega)).mono ?_; rintro e w6 ⟨x, rfl, hxo, hx6⟩
          have hx6 : Ext w5 w6 := (Mod.drew0 _ w5).trans hx6
          have g0 := hx6.cell f0 (fun h => h)
          have g1 := hx6.cell f1 (fun h => h)
          have g2 := hx6.cell f2 (fun h => h)
          have hpc := hid (hpb.out w6 hx6 x (hxo.weaken (Nat.zero_le _)))
          replace hx6 := hid hx6
          try dsimp only
          refine hK.out _ _ ⟨g0, g1, g2⟩ ?_
          clear hK K hxo
          try simp only [Act.put, List.setIfInBounds_toArray, List.set_cons_zero, List.set_cons_succ]
          refine wpS_c (by rfl) (fun K hK => ?_)
          go_simp
          refine (pick_any _ _ _ hoo.out.kind.1 hoo.out.kind.2 (by omega) (by omega)).mono ?_; rintro e w' ⟨rfl, rfl⟩
          try dsimp only
          refine hK.out _ _ ⟨g0, g1, g2⟩ ?_
          clear hK K
          try simp only [Act.put, List.setIfInBounds_toArray, List.set_cons_zero, List.set_cons_succ]
          repeat (refine wpS_q (by rfl) ?_ (fun w' hC => ?_) ?_; rotate_left; (go_simp; try with_reducible rfl); try simp only [Act.put, List.setIfInBounds_toArray, List.set_cons_zero, List.set_cons_succ])
          refine wpS_c (by rfl) (fun K hK => ?_)
          go_simp
          refine hpc.out.mono ?_; rintro e w7 ⟨rfl, hB⟩
          have i0 := hB.inv.ext.cell hcw.out.1 (fun h => h)
          have i1 := hB.inv.ext.cell hcw.out.2.1 (fun h => h)
          have i2 := hB.inv.ext.cell hcw.out.2.2 (fun h => h)
          replace hB := hid hB
          try dsimp only
          refine hK.out _ _ ⟨i0, i1, i2⟩ ?_
          clear hK K
          try simp only [Act.put, List.setIfInBounds_toArray, List.set_cons_zero, List.set_cons_succ]
          repeat (refine wpS_q (by rfl) ?_ (fun w' hC => ?_) ?_; rotate_left; (go_simp; try with_reducible rfl); try simp only [Act.put, List.setIfInBounds_toArray, List.set_cons_zero, List.set_cons_succ])
          refine wpS_nil ?_
          go_wp2_with fail
          go_meet
          exact ⟨by rw [hso.out], by rw [hn0.out], rfl, hB.out⟩
        · -- Start
          have hkb0 : (pickI o.kind 4 == 0) = false := by rw [hkd]; rfl
          have hkb1 : (pickI o.kind 4 == 1) = false := by rw [hkd]; rfl
          have hkb2 : (pickI o.kind 4 == 2) = true := by rw [hkd]; rfl
          have hob := hid (open_both hI5.out hW2 hR5'.out hSim.out hmd.out (by have := hn.out; omega) (by have := hn.out; omega) hd.out hkd)
          have hmax : max (n : Int) n' = st'.last := by
            have := hn.out
            rcases hbd.out with ⟨h1, h2, h | h⟩ <;> omega
          replace hmax := hid hmax
          have hnl : 0 ≤ n' ∧ n' ≤ 100 := by
            have := hn.out
            rcases hbd.out with ⟨h1, h2, h | h⟩ <;> omega
          obtain ⟨hn1, hn2⟩ := hnl
          replace hkd := hid hkd
          go_wp2_with fail
          refine (class_any _ _ hoo.out.cls.1 hoo.out.cls.2).mono ?_; rintro e w' ⟨rfl, rfl⟩
          go_wp2_with fail
          refine hob.out.mono ?_; rintro e w7 ⟨rfl, hB⟩
          replace hB := hid hB
          clear hob
          go_wp2_with fail
          all_goals
            go_meet
            refine ⟨?_, rfl, rfl, hB.out⟩
            rw [← hmax.out]
            congr 1
            omega
        · -- Close
          have hkb0 : (pickI o.kind 4 == 0) = false := by rw [hkd]; rfl
          have hkb1 : (pickI o.kind 4 == 1) = false := by rw [hkd]; rfl
          have hkb2 : (pickI o.kind 4 == 2) = false := by rw [hkd]; rfl
          have hcb := hid (close_both hI5.out hW2 hR5'.out hSim.out hmd.out hnd.out hd.out hkd)
          have hso : st'.last = n := by
            have := hn.out
            have hc := (hd.out.close_cases hkd).1
            rcases hbd.out.2.2 with h | h <;> omega
          have hn0 : Hid (n' = 0) := hid (hd.out.close_cases hkd).1
          replace hso := hid hso
          replace hkd := hid hkd
          go_wp2_with fail
          refine (session_any _ _ _ hoo.out.num.1 hoo.out.num.2 (by omega) (by omega)).mono ?_; rintro e w' ⟨rfl, rfl⟩
          go_wp2_with fail
          refine hcb.out.mono ?_; rintro e w7 ⟨rfl, hB⟩
          replace hB := hid hB
          clear hcb
          go_wp2_with fail
          go_meet
          exact ⟨by rw [hso.out], by rw [hn0.out], rfl, hB.out⟩
      case rest =>
        obtain ⟨rfl, rfl, rfl, hB⟩ := hcut
        obtain ⟨n2, hn2⟩ : ∃ n2 : Nat, st'.last = n2 := ⟨st'.last.toNat, by have := hn.out; rcases hbd.out with ⟨h1, h2, h | h⟩ <;> omega⟩
        have hn2k : n2 ≤ k + 1 := by have := hB.inv.last; omega
        rw [hn2]
        obtain ⟨aoo, capo, hoc⟩ := hB.open_cell
        have hse := hid (fun w' (hx : Ext wc w') => Sessions_any (hB.ext hx).site)
        have hsl5 := hB.inv.ok.len
        have hsn := hid (fun w' (hx : Ext wc w') => Snapshots_any (hB.ext hx).site (by omega))
        have hrs := hid (fun w' (hx : Ext wc w') => (hB.ext hx).snaps)
        obtain ⟨q, hq⟩ : ∃ q, q = st'.ses.length := ⟨_, rfl⟩
        rw [← hq] at hoc hse hsl5
        obtain ⟨z, hz⟩ : ∃ z, z = (snapsL st').length := ⟨_, rfl⟩
        rw [← hz] at hsn hrs
        replace hB := hid hB
        replace hn2 := hid hn2
        replace hq := hid hq
        replace hz := hid hz
        clear hm5 hF5 hS5 hI5 hfr hnd hR5 f0 f1 f2 hI
        go_wp2_with fail
        refine wp_region_sched (fun w' => w'.cell? ⟨r, 1, none⟩ = some (.slice aoo q capo)) [(0, true), (1, true), (2, true), (3, true), (4, true), (5, true), (6, true), (7, true), (8, true), (9, true), (11, true), (12, true), (13, true), (14, true), (15, true), (10, false), (16, true), (17, true), (18, true), (19, true), (21, true), (20, false), (22, false), (23, true), (24, true)] (by as_aux_lemma => kernel_rfl) (by as_aux_lemma => kernel_rfl) (by as_aux_lemma => kernel_rfl) (by decide) hoc ?_
        simp only [schedOps, List.map_cons, List.map_nil, List.getD_cons_zero, List.getD_cons_succ]
        repeat (refine wpS_q (by rfl) ?_ (fun w' hC => ?_) ?_; rotate_left; (go_simp; try with_reducible rfl); try simp only [Act.put, List.setIfInBounds_toArray, List.set_cons_zero, List.set_cons_succ])
        refine wpS_c (by rfl) (fun K hK => ?_)
        go_simp
        refine (hse.out _ (Mod.drew0 _ wc)).mono ?_; rintro e w' ⟨rfl, rfl⟩
        try dsimp only
        refine hK.out _ _ hoc ?_
        clear hK K
        try simp only [Act.put, List.setIfInBounds_toArray, List.set_cons_zero, List.set_cons_succ]
        repeat (refine wpS_q (by rfl) ?_ (fun w' hC => ?_) ?_; rotate_left; (go_simp; try with_reducible rfl); try simp only [Act.put, List.setIfInBounds_toArray, List.set_cons_zero, List.set_cons_succ])
        refine wpS_c (by rfl) (fun K hK => ?_)
        go_simp
        refine (hsn.out _ (Mod.drew0 _ wc)).mono ?_; rintro e w7 ⟨rfl, hx7⟩
        have hx7 : Ext wc w7 := (Mod.drew0 _ wc).trans hx7
        have hoc7 := hx7.cell hoc (fun h => h)
        have hrs7 := hid (hrs.out _ hx7)
        try dsimp only
        refine hK.out _ _ hoc7 ?_
        clear hK K
        try simp only [Act.put, List.setIfInBounds_toArray, List.set_cons_zero, List.set_cons_succ]
        refine wpS_c (by rfl) (fun K hK => ?_)
        go_simp
        refine hrs7.out.mono ?_; rintro e w8 ⟨rfl, hx8⟩
        have hx8 : Ext wc w8 := hx7.trans hx8
        have hoc8 := hx8.cell hoc (fun h => h)
        try dsimp only
        refine hK.out _ _ hoc8 ?_
        clear hK K
        try simp only [Act.put, List.setIfInBounds_toArray, List.set_cons_zero, List.set_cons_succ]
        repeat (refine wpS_q (by rfl) ?_ (fun w' hC => ?_) ?_; rotate_left; (go_simp; try with_reducible rfl); try simp only [Act.put, List.setIfInBounds_toArray, List.set_cons_zero, List.set_cons_succ])
        refine wpS_nil ?_
        have hB8 := hid (hB.out.ext hx8)
        clear hx7 hx8 hoc hoc7 hoc8 hrs7 hrs hsn hse
        go_upto_region 22 with fail
        go_cut [13] (fun sa wx => ∃ ba, sa = .slice (some ⟨ba, 0, none⟩) 5 5 ∧ wx.heap[ba]? = some (.cells (addrs.flatMap strC).toArray 9 (0, 0)) ∧ Both w s r st' (k + 1) wx)
        case first =>
          go_wp2_with fail
          refine (addresses_any _).mono ?_
          rintro e w9 ⟨rfl, rfl⟩; unfold addrV
          go_wp2_with fail
          go_meet
          exact ⟨_, rfl, heap_alloc_new w8 _, hB8.out.ext ((Mod.refl _ _).alloc _)⟩
        case rest =>
        obtain ⟨ba, rfl, hadr, hB9⟩ := hcut
        obtain ⟨w9, rfl⟩ : ∃ w9 : World, w9 = wc := ⟨_, rfl⟩
        clear hB8
        replace hadr := hid hadr
        replace hB9 := hid hB9
        have hgs := hid (fun w' (hx : Ext w9 w') c a => Get_any (hB9.out.ext hx).site c a)
        have hgr := hid (fun w' (hx : Ext w9 w') c a => (hB9.out.ext hx).get c a)
        have hrs := hid (fun w' (hx : Ext w9 w') c a => Read_any (hB9.out.ext hx).site c a)
        have hrr := hid (fun w' (hx : Ext w9 w') c a => (hB9.out.ext hx).read c a)
        go_wp2_with fail
        go_loopg [14] 5 (fun g i wq => ∃ x : Nat, x + g = 5 ∧ i = .int .i64 x ∧ Ext w9 wq)
        case atStart => exact ⟨0, by omega, rfl, Mod.refl _ _⟩
        case round =>
          obtain ⟨x, hx, rfl, hxw⟩ := hrel
          have hx5 : x ≤ 5 := by omega
          replace hx := hid hx
          by_cases hlx : x < 5
          · have hxd : decide ((x : Int) < 5) = true := by simp; omega
            have hcell := addr_at hadr.out hlx
            obtain ⟨ad, had⟩ : ∃ ad, ad = addrs.getD x .empty := ⟨_, rfl⟩
            rw [← had] at hcell
            clear had
            replace hxw := hid hxw
            obtain ⟨wu, rfl⟩ : ∃ wu : World, wu = wr := ⟨_, rfl⟩
            obtain ⟨G3, rfl⟩ : ∃ G, G = gk := ⟨_, rfl⟩
            go_wp2_with fail
            go_loopg [15] 6 (fun g i wq => ∃ t : Nat, t + g = 6 ∧ i = .int .i64 ((t : Int) - 1) ∧ Ext w9 wq)
            case atStart => exact ⟨0, by omega, rfl, hxw.out⟩
            case round =>
              obtain ⟨t, ht, rfl, hxz⟩ := hrel
              have ht6 : t ≤ 6 := by omega
              replace ht := hid ht
              by_cases hlt6 : t < 6
              · have hcz := hxz.cell hcell (fun h => h)
                have h1 := hid (hgs.out _ hxz ((t : Int) - 1) ad)
                have h2 := hid (hgr.out _ hxz ((t : Int) - 1) ad)
                replace hxz := hid hxz
                generalize GetR st' ((t : Int) - 1) ad = u at h1 h2
                obtain ⟨ya, yb⟩ := u
                unfold resV at h1 h2
                go_wp2_with fail
                refine h1.out.mono ?_; rintro e w' ⟨rfl, rfl⟩
                go_wp2_with fail
                refine h2.out.mono ?_; rintro e w' ⟨rfl, rfl⟩
                go_wp2_with fail
                go_roundg (gk - 1)
                case measure => have := ht.out; omega
                case rel => exact ⟨t + 1, by have := ht.out; omega, by congr 1; push_cast; omega, hxz.out⟩
              · obtain rfl : t = 6 := by omega
                simp only [show ((6 : Nat) : Int) - 1 = 5 from rfl]
                clear hcell
                have hcell := addr_at hadr.out hlx
                obtain ⟨ad, had⟩ : ∃ ad, ad = addrs.getD x .empty := ⟨_, rfl⟩
                rw [← had] at hcell
                clear had
                replace hxz := hid hxz
                go_wp2_with fail
                go_loopg [20] (n2 + 2) (fun g i wq => ∃ t : Nat, t + g = n2 + 2 ∧ i = .int .i64 t ∧ Ext w9 wq)
                case atStart => exact ⟨0, by omega, rfl, hxz.out⟩
                case round =>
                  clear hxz
                  obtain ⟨t, ht, rfl, hxz⟩ := hrel
                  have ht2 : t ≤ n2 + 2 := by omega
                  replace ht := hid ht
                  by_cases hltn : t < n2 + 2
                  · have hcz := hxz.cell hcell (fun h => h)
                    have h1 := hid (hrs.out _ hxz (t : Int) ad)
                    have h2 := hid (fun w' (hx : Ext wr w') => hrr.out _ (hxz.trans hx) (t : Int) ad)
                    replace hxz := hid hxz
                    generalize ReadR st' (t : Int) ad = u at h1 h2
                    obtain ⟨ya, yb⟩ := u
                    unfold resV at h1 h2
                    go_wp2_with fail
                    refine h1.out.mono ?_; rintro e wv ⟨rfl, hxv⟩
                    have hcv := hxv.cell hcz (fun h => h)
                    have h3 := hid (h2.out _ hxv)
                    replace hxv := hid hxv
                    go_wp2_with fail
                    refine h3.out.mono ?_; rintro e w' ⟨rfl, rfl⟩
                    go_wp2_with fail
                    go_roundg (gk - 1)
                    case measure => have := ht.out; omega
                    case rel => exact ⟨t + 1, by have := ht.out; omega, by go_num, hxz.out.trans hxv.out⟩
                  · obtain rfl : t = n2 + 2 := by omega
                    replace ht := hid ht
                    replace hxz := hid hxz
                    go_wp2_with fail
                    go_roundg (G3 - 1)
                    case measure => have := hx.out; omega
                    case rel => exact ⟨x + 1, by have := hx.out; omega, by go_num, hxz.out⟩
          · obtain rfl : x = 5 := by omega
            go_wp2_with fail
            go_roundg (G - 1)
            case measure => have := hk.out; omega
            case rel => exact ⟨k + 1, n2, st', by have := hk.out; omega, by go_num, rfl, hn2.out, hB9.out.ext hxw, hcl5.out⟩
    · go_wp2_with fail
      go_ret
      exact ⟨rfl, hI.out.inv.ext⟩
end Go.Proofs.Ytncmhcfhbogjnaa
