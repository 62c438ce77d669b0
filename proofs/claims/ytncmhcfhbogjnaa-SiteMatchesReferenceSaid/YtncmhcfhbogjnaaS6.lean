import Derived.Test.YtncmhcfhbogjnaaS5
namespace Go.Proofs.Ytncmhcfhbogjnaa
open Go.RowKit Cdk

/-- Of each page, what it has read is a slice. -/
def PgsOk (l : List Pg) : Prop := ∀ p ∈ l, ∃ a n c, p.2.2 = .slice a n c

theorem assoc_pub {l : List Pg} {a : ByteArray} : assoc ((pubT l).map txtPair) a = (look (pubT l) a).map Value.string := assoc_look _ _
theorem look_pub_none {l : List Pg} {a : ByteArray} : look (pubT l) a = none ↔ a ∉ l.map (·.1) := by
  unfold look pubT
  rw [Option.map_eq_none_iff, List.find?_eq_none]
  simp only [List.mem_map, decide_eq_true_eq]
  constructor
  · rintro h ⟨p, hp, rfl⟩; exact h _ ⟨p, hp, rfl⟩ rfl
  · rintro h x ⟨p, hp, rfl⟩ e; exact h ⟨p, hp, e⟩

theorem take_succ' {α : Type} {l : List α} {k : Nat} (h : k < l.length) : l.take (k + 1) = l.take k ++ [l[k]] := by
  rw [List.take_succ_eq_append_getElem h]

theorem zero58 (w : World) : (zeroValue 9).run Try.prog w = .ok (.string .empty) w := by kernel_rfl

theorem upd_new {d : Txt} {a t : ByteArray} (h : look d a = none) : upd (d.map txtPair) a (.string t) = (d ++ [(a, t)]).map txtPair := by
  unfold upd
  rw [assoc_look, h]
  simp [txtPair]

theorem nodup_key {α β : Type} {f : α → β} {l : List α} (hn : (l.map f).Nodup) {x y : α} (hx : x ∈ l) (hy : y ∈ l) (h : f x = f y) : x = y := by
  obtain ⟨i, hi, rfl⟩ := List.mem_iff_getElem.1 hx
  obtain ⟨i', hi', rfl⟩ := List.mem_iff_getElem.1 hy
  have : i = i' := (List.getElem_inj hn (h₀ := by simpa using hi) (h₁ := by simpa using hi')).1 (by simpa using h)
  subst this; rfl
theorem SiteAt.nodup {w : World} {F : Nat → Prop} {s : Nat} {st : SiteSt} (h : SiteAt w F s st) : (st.ses.map (·.1)).Nodup := by
  obtain ⟨es, c, hh, _, hn, _⟩ := h.ses
  simpa [List.map_map, Function.comp_def, sesPair] using hn

theorem purgedSt_ne {st : SiteSt} {c : Int} {dn : Txt} {seen : List Int} {q : Int × Int × Nat} (hq : q ∈ st.ses) (hn : (st.ses.map (·.1)).Nodup) (hc : ¬ q.2.1 = c) : purgedSt st c dn (q.1 :: seen) = purgedSt st c dn seen := by
  unfold purgedSt
  congr 1
  funext p
  have : st.ses.any (fun q' => decide (q'.1 ∈ q.1 :: seen) && decide (q'.2.1 = c) && decide (q'.2.2 = p)) = st.ses.any (fun q' => decide (q'.1 ∈ seen) && decide (q'.2.1 = c) && decide (q'.2.2 = p)) := by
    rw [Bool.eq_iff_iff, List.any_eq_true, List.any_eq_true]
    constructor
    · rintro ⟨q', hq', h⟩
      simp at h
      rcases h with ⟨⟨h1 | h1, h2⟩, h3⟩
      · exfalso; rw [nodup_key hn hq' hq h1] at h2; exact hc h2
      · exact ⟨q', hq', by simp [h1, h2, h3]⟩
    · rintro ⟨q', hq', h⟩
      simp at h
      exact ⟨q', hq', by simp [h]⟩
  rw [this]

/-- What a publication leaves. -/
def PubPost (w : World) (F : Nat → Prop) (s : Nat) (st : SiteSt) (j : Nat) (d : Txt) (e : Ending) (w' : World) : Prop :=
  e = .returned (.int .i64 0) ∧ Mod F w w' ∧ ∃ (F' : Nat → Prop) (N tb : Nat), (∀ k, F' k → F k ∨ w.heap.size ≤ k) ∧ w.heap.size ≤ N ∧ SiteAt w' F' s (pubSt st j N tb d)

set_option maxHeartbeats 2000000 in
theorem Publish_any {w : World} {F : Nat → Prop} {s : Nat} {st : SiteSt} (h : SiteAt w F s st) (c : Int) (l : List Pg) (ao : Option Addr) (cap : Nat) (pg : Bool) (hr : RowIs w ao (l.flatMap pgCells)) (hok : PgsOk l) (hl : l.length ≤ 1000000)
    (hc : isClassB c = true) (hd : (l.map (·.1)).Nodup) :
    Calls Try.prog 30 #[snapV s, .int .i64 c, .slice ao l.length cap, .bool pg] w (PubPost w F s (if pg then purgedSt st c (pubT l) (st.ses.map (·.1)) else st) c.toNat (pubT l)) := by
  obtain ⟨hj, h4, h5, hfr⟩ := h.cells
  have hms := hid (missing_some w s st.m h4)
  have hic := isClass_any c w
  rw [hc] at hic
  obtain ⟨hc0, hc1⟩ := isClassB_iff.1 hc
  obtain ⟨j, rfl⟩ := Int.eq_ofNat_of_zero_le hc0
  have hj0 : j < 4 := by omega
  have hmm := @run_makeMap Try.prog
  replace hic := hid hic
  replace hd := hid hd
  have hsl : s < w.heap.size := lt_of_at h.top
  have hA := hid h
  clear h
  replace hj := hid hj
  replace hr := hid hr
  replace hok := hid hok
  clear hc
  unfold snapV at *
  go_enter Try.func30, Try.ntmps30
  go_wp2_with fail
  refine hms.out.mono ?_; rintro e w' ⟨rfl, rfl⟩
  go_wp2_with fail
  refine hic.out.mono ?_; rintro e w' ⟨rfl, rfl⟩
  go_wp2_with fail
  have hx0 := Mod.alloc (Mod.refl (fun _ => False) w) (.map #[] 0)
  have hm0 := MapAt.made w Value.string
  go_loopg [24] l.length (fun g i wr => ∃ k : Nat, k + g = l.length ∧ i = .int .i64 k ∧ MapAt wr Value.string w.heap.size ((pubT (l.take k)).map txtPair) ∧ Ext w wr)
  case atStart => exact ⟨0, by omega, rfl, hm0, hx0⟩
  case round =>
    obtain ⟨k, hk, rfl, hm, hx⟩ := hrel
    replace hx0 := hid hx0
    replace hm0 := hid hm0
    replace hm := hid hm
    replace hx := hid hx
    by_cases hlt : k < l.length
    · obtain ⟨b, off, rfl, hp0, hp1, hp2⟩ := pg_at hr.out hlt
      obtain ⟨ra, rn, rc, hrd⟩ := hok.out l[k] (List.getElem_mem hlt)
      rw [hrd] at hp2
      replace hrd := hid hrd
      have q0 := hx.out.cell hp0 (fun h => h)
      have q1 := hx.out.cell hp1 (fun h => h)
      have q2 := hx.out.cell hp2 (fun h => h)
      have hnone : look (pubT (l.take k)) l[k].1 = none := by
        rw [look_pub_none]
        have hd' := hd.out
        intro hmem
        rw [← List.take_append_drop (k + 1) l, take_succ' hlt, List.append_assoc, List.map_append, List.nodup_append] at hd'
        exact hd'.2.2 _ hmem l[k].1 (by rw [List.map_append]; exact List.mem_append_left _ (by simp)) rfl
      have hx1 : ∀ o, Ext wr (wr.alloc o) := fun o => (Mod.refl _ wr).alloc o
      have hlk := fun o => run_lookupM (P := Try.prog) (t := 63) (keyOk_string Try.underlying9) Try.underlying63 (hm.out.mod (hx1 o) (fun h => h)) l[k].1 (zero9 _) true
      rw [assoc_look, hnone] at hlk
      simp only [Option.map_none, Option.isSome_none, Option.getD_none, if_true] at hlk
      replace hnone := hid hnone
      replace hx1 := hid hx1
      replace hk := hid hk
      clear hp0 hp1 hp2
      go_wp2_with (at_mapUpdate; refine wpList_update rfl _ _ _ _ _ rfl (keyOk_string Try.underlying9) Try.underlying63 (by exact hm.out.mod (hx1.out _) (fun h => h)) l[k].1 (.string l[k].2.1) rfl rfl rfl (fun w3 H3 => ?_); go_frame)
      go_roundg (gk - 1)
      case measure => have := hk.out; omega
      case rel =>
        obtain ⟨a1, a2, a3⟩ := H3.out
        refine ⟨k + 1, by have := hk.out; omega, by go_num, ?_, ?_⟩
        · rw [upd_new hnone.out] at a1
          have e : pubT (l.take k ++ [l[k]]) = pubT (l.take k) ++ [(l[k].1, l[k].2.1)] := by unfold pubT; rw [List.map_append]; rfl
          rw [take_succ' hlt, e]
          exact a1
        · exact (hx.out.trans (hx1.out _)).then a2 (fun i hi e => by omega)
    · have hkl : l.take k = l := List.take_of_length_le (by omega)
      have hm := hid (hkl ▸ hm.out)
      have hS : Hid (SiteAt wr F s st) := hid (hA.out.mod hx.out (fun _ _ h => h))
      have htF : Hid (¬ F w.heap.size) := hid (fun hF => by have := hA.out.lt _ hF; omega)
      have hwr : w.heap.size < wr.heap.size := hm.out.lt
      have g4 : wr.cell? ⟨s, 4, none⟩ = some (.map (some st.m)) := hS.out.cells.2.1
      have hsess := hid hS.out.ses
      clear hkl hk
      cases pg with
      | false =>
        have gj := hS.out.cells.1 j hj0
        have gf := hS.out.cells.2.2.2 j
        have gs : s < wr.heap.size := lt_of_at hS.out.top
        unfold snapV at gj
        go_wp2
        go_ret
        have hpub := hS.out.publish hj0 rfl hm.out htF.out rfl
        refine ⟨rfl, ?_, (fun k => F k ∨ k = w.heap.size ∨ k = wr.heap.size), wr.heap.size, w.heap.size, ?_, ?_, hpub⟩
        · exact ((hx.out.mono (fun _ h => h.elim)).setCell (fun _ => hA.out.own.1) _).alloc _
        · rintro k (hk | rfl | rfl)
          · exact .inl hk
          · exact .inr (Nat.le_refl _)
          · exact .inr (by omega)
        · omega
      | true =>
        obtain ⟨wo, rfl⟩ : ∃ wo : World, wo = wr := ⟨_, rfl⟩
        go_wp2_with (at_range; refine wpList_range rfl _ _ _ rfl Try.underlying58 hsess.out rfl (fun w1 hR => ?_); go_frame)
        go_loopg [] (restL st.ses sesPair []) (fun g wq => ∃ seen, g = restL st.ses sesPair seen ∧ IterAt wq (Value.int .i64) st.m wo.heap.size (st.ses.map sesPair) seen ∧ SiteAt wq F s (purgedSt st j (pubT l) seen) ∧ MapAt wq Value.string w.heap.size ((pubT l).map txtPair) ∧ Mod F w wq ∧ wo.heap.size < wq.heap.size)
        case atStart =>
          refine ⟨[], rfl, hR.out.1, ?_, hm.out.mod hR.out.2.1 (fun h => h), (hx.out.trans hR.out.2.1).mono (fun _ h => h.elim), by have := hR.out.2.2; omega⟩
          rw [purgedSt_nil]; exact hS.out.mod hR.out.2.1 (fun _ _ h => h)
        case round =>
          obtain ⟨seen, rfl, hit, hSq, hmq, hxq, hsz⟩ := hrel
          have gj := hSq.cells.1 j hj0
          have gf := hSq.cells.2.2.2 j
          have gs : s < wr.heap.size := lt_of_at hSq.top
          unfold snapV at gj
          replace hit := hid hit
          replace hSq := hid hSq
          replace hmq := hid hmq
          replace hxq := hid hxq
          go_wp2_with (first
            | (at_next; refine wpList_nextL rfl _ rfl (keyOk_int Try.underlying3).inj hit.out rfl (fun hall => ?_) (fun q w2 H => have hen := entryL (P := Try.prog) H.out.2.2.1 H.out.1; ?_) <;> (try simp only [sesPair, snapV] at hen) <;> (try simp only [sesPair, snapV]) <;> go_frame))
          · go_ret
            have hpub := hSq.out.publish hj0 rfl hmq.out htF.out rfl
            have hall' : purgedSt st j (pubT l) seen = purgedSt st j (pubT l) (st.ses.map (·.1)) := by
              unfold purgedSt
              congr 1
              funext p
              have : st.ses.any (fun q => decide (q.1 ∈ seen) && decide (q.2.1 = (j : Int)) && decide (q.2.2 = p)) = st.ses.any (fun q => decide (q.1 ∈ st.ses.map (·.1)) && decide (q.2.1 = (j : Int)) && decide (q.2.2 = p)) := by
                rw [Bool.eq_iff_iff, List.any_eq_true, List.any_eq_true]
                constructor
                · rintro ⟨q, hq, h⟩; exact ⟨q, hq, by simp at h ⊢; exact ⟨⟨⟨q.2.1, q.2.2, hq⟩, h.1.2⟩, h.2⟩⟩
                · rintro ⟨q, hq, h⟩; exact ⟨q, hq, by have := hall.out q hq; simp [sesPair] at h this ⊢; exact ⟨⟨this, h.1.2⟩, h.2⟩⟩
              rw [this]
            rw [hall'] at hpub
            refine ⟨rfl, ?_, (fun k => F k ∨ k = w.heap.size ∨ k = wr.heap.size), wr.heap.size, w.heap.size, ?_, ?_, hpub⟩
            · exact (hxq.out.setCell (fun _ => hA.out.own.1) _).alloc _
            · rintro k (hk | rfl | rfl)
              · exact .inl hk
              · exact .inr (Nat.le_refl _)
              · exact .inr (by omega)
            · omega
          · obtain ⟨hq, hns, hi2, hm2, hs2⟩ := H.out
            have hcl : q.2.1 = (j : Int) := by have : (q.2.1 == (j : Int)) = true := by assumption
                                               simpa using this
            have hlv : st.live q.2.2 := .inr ⟨q, hq, rfl⟩
            have hw3 : Mod (Eq wo.heap.size) wr (w2.alloc (.cells #[.int .i64 q.2.1, .pointer (some ⟨q.2.2, 0, none⟩)] 75)) := hm2.alloc _
            have hF : ∀ k, F k → ¬ wo.heap.size = k := fun k hk e => by have := hA.out.lt k hk; omega
            have hS3 := hSq.out.mod hw3 hF
            have hm3 := hmq.out.mod hw3 (by omega)
            obtain ⟨b1, b2, b3, b4, b5⟩ := hS3.shot q.2.2 hlv
            have hb2 : st.tm q.2.2 ≠ w.heap.size := fun e => htF.out (e ▸ b2)
            refine (purge_any q.2.2 (st.tm q.2.2) w.heap.size _ _ _ b4 b5 hm3 hb2).mono ?_
            rintro e w3 ⟨rfl, hm4, hm5⟩
            have hit3 : IterAt w3 (Value.int .i64) st.m wo.heap.size (st.ses.map sesPair) (q.1 :: seen) :=
              (hi2.mod ((Mod.refl (fun _ => False) w2).alloc _) (fun h => h) (fun h => h)).mod hm4 b3 (fun e => hF _ b2 e.symm)
            have hm6 := hm3.mod hm4 hb2
            have hx6 : Mod F w w3 := (hxq.out.then hw3 (fun i hi e => by omega)).trans (hm4.mono (fun k e => e ▸ b2))
            have hsz6 : wo.heap.size < w3.heap.size := by
              have := hm4.size
              have e : (w2.alloc (.cells #[.int .i64 q.2.1, .pointer (some ⟨q.2.2, 0, none⟩)] 75)).heap.size = w2.heap.size + 1 := World.size_alloc _ _
              omega
            have hfin : SiteAt w3 F s (purgedSt st j (pubT l) (q.1 :: seen)) := by
              have := hS3.withTxt (p0 := q.2.2) hlv hm4 _ hm5 (purgedSt st j (pubT l) (q.1 :: seen)).txt ?_ ?_
              · exact this
              · simp only [purgedSt]
                have h1 : st.ses.any (fun q' => decide (q'.1 ∈ q.1 :: seen) && decide (q'.2.1 = (j : Int)) && decide (q'.2.2 = q.2.2)) = true := by
                  rw [List.any_eq_true]; exact ⟨q, hq, by simp [hcl]⟩
                rw [if_pos h1]
                split
                · rw [purge_twice]
                · rfl
              · intro p hp hlp
                simp only [purgedSt]
                have h1 : st.ses.any (fun q' => decide (q'.1 ∈ q.1 :: seen) && decide (q'.2.1 = (j : Int)) && decide (q'.2.2 = p)) = st.ses.any (fun q' => decide (q'.1 ∈ seen) && decide (q'.2.1 = (j : Int)) && decide (q'.2.2 = p)) := by
                  rw [Bool.eq_iff_iff, List.any_eq_true, List.any_eq_true]
                  constructor
                  · rintro ⟨q', hq', h⟩
                    simp at h
                    rcases h with ⟨⟨h1 | h1, h2⟩, h3⟩
                    · exfalso
                      rw [nodup_key hS.out.nodup hq' hq h1] at h3
                      exact hp h3.symm
                    · exact ⟨q', hq', by simp [h1, h2, h3]⟩
                  · rintro ⟨q', hq', h⟩
                    simp at h
                    exact ⟨q', hq', by simp [h]⟩
                rw [h1]
            replace hfin := hid hfin
            replace hit3 := hid hit3
            replace hm6 := hid hm6
            replace hx6 := hid hx6
            clear hS3 hm3 hm4 hm5 b1 b2 b3 b4 b5 hb2 hw3 hF hi2 hm2 hcl hlv
            go_wp2_with fail
            go_roundg (restL st.ses sesPair (q.1 :: seen))
            case measure => exact restL_lt (f := sesPair) hq hns
            case rel => exact ⟨q.1 :: seen, rfl, hit3.out, hfin.out, hm6.out, hx6.out, hsz6⟩
          · obtain ⟨hq, hns, hi2, hm2, hs2⟩ := H.out
            have hcl : ¬ q.2.1 = (j : Int) := by have : (q.2.1 == (j : Int)) = false := by assumption
                                                 simpa using this
            have hw3 : Mod (Eq wo.heap.size) wr (w2.alloc (.cells #[.int .i64 q.2.1, .pointer (some ⟨q.2.2, 0, none⟩)] 75)) := hm2.alloc _
            have hF : ∀ k, F k → ¬ wo.heap.size = k := fun k hk e => by have := hA.out.lt k hk; omega
            have hfin : purgedSt st j (pubT l) (q.1 :: seen) = purgedSt st j (pubT l) seen := purgedSt_ne hq hS.out.nodup hcl
            go_roundg (restL st.ses sesPair (q.1 :: seen))
            case measure => exact restL_lt (f := sesPair) hq hns
            case rel =>
              refine ⟨q.1 :: seen, rfl, hi2.mod ((Mod.refl (fun _ => False) w2).alloc _) (fun h => h) (fun h => h), ?_, hmq.out.mod hw3 (by omega), hxq.out.then hw3 (fun i hi e => by omega), by simp; omega⟩
              rw [hfin]; exact hSq.out.mod hw3 hF

set_option maxHeartbeats 1000000 in
theorem Publish_class {w : World} {F : Nat → Prop} {s : Nat} {st : SiteSt} (h : SiteAt w F s st) (c : Int) (v : Value) (pg : Bool) (hc : isClassB c = false) :
    Calls Try.prog 30 #[snapV s, .int .i64 c, v, .bool pg] w fun e w' => e = .returned (.int .i64 250) ∧ w = w' := by
  obtain ⟨hj, h4, h5, hfr⟩ := h.cells
  have hms := hid (missing_some w s st.m h4)
  have hic := isClass_any c w
  rw [hc] at hic
  replace hic := hid hic
  clear hc hj h
  unfold snapV at *
  go_enter Try.func30, Try.ntmps30
  go_wp2_with fail
  refine hms.out.mono ?_; rintro e w' ⟨rfl, rfl⟩
  go_wp2_with fail
  refine hic.out.mono ?_; rintro e w' ⟨rfl, rfl⟩
  go_wp2_with fail
  go_ret
  exact ⟨rfl, rfl⟩
theorem Publish_nil (w : World) (c v p : Value) :
    Calls Try.prog 30 #[.pointer none, c, v, p] w fun e w' => e = .returned (.int .i64 1) ∧ w = w' := by
  have hms := hid (missing_nil w)
  go_enter Try.func30, Try.ntmps30
  go_wp2_with fail
  refine hms.out.mono ?_; rintro e w' ⟨rfl, rfl⟩
  go_wp2_with fail
  go_ret
  exact ⟨rfl, rfl⟩
end Go.Proofs.Ytncmhcfhbogjnaa
