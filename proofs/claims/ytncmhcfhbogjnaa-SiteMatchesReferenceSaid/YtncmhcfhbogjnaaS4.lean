import Derived.Test.YtncmhcfhbogjnaaS3
namespace Go.Proofs.Ytncmhcfhbogjnaa
open Go.RowKit Cdk

abbrev Txt := List (ByteArray × ByteArray)
def look (d : Txt) (a : ByteArray) : Option ByteArray := (d.find? (fun p => decide (p.1 = a))).map (·.2)
theorem assoc_look (d : Txt) (k : ByteArray) : assoc (d.map txtPair) k = (look d k).map Value.string := by
  rw [assoc_txt]; unfold look; rw [Option.map_map]; rfl
/-- What a purge by dn leaves of d. -/
def purgeD (d dn : Txt) : Txt := d.filterMap (fun p => (look dn p.1).map (fun t => (p.1, t)))
/-- .. where only the addresses in 'seen' have come up. -/
def stepD (d dn : Txt) (seen : List ByteArray) : Txt := d.filterMap (fun p => if p.1 ∈ seen then (look dn p.1).map (fun t => (p.1, t)) else some p)

theorem stepD_nil (d dn : Txt) : stepD d dn [] = d := by
  unfold stepD; simp

theorem mem_stepD {d dn : Txt} {seen : List ByteArray} {p : ByteArray × ByteArray} (h : p ∈ stepD d dn seen) : p.1 ∈ d.map (·.1) := by
  unfold stepD at h
  obtain ⟨q, hq, he⟩ := List.mem_filterMap.1 h
  split at he
  · obtain ⟨t, _, rfl⟩ := Option.map_eq_some_iff.1 he
    exact List.mem_map_of_mem (f := (·.1)) hq
  · simp at he; subst he; exact List.mem_map_of_mem (f := (·.1)) hq

theorem mem_stepD_new {d dn : Txt} {seen : List ByteArray} {p : ByteArray × ByteArray} (hp : p ∈ d) (h : p.1 ∉ seen) : p ∈ stepD d dn seen := by
  unfold stepD
  exact List.mem_filterMap.2 ⟨p, hp, by simp [h]⟩

theorem stepD_done {d dn : Txt} {seen : List ByteArray} (h : ∀ p ∈ (stepD d dn seen).map txtPair, p.1 ∈ seen) : stepD d dn seen = purgeD d dn := by
  unfold stepD purgeD
  apply filterMap_congr'
  intro p hp
  by_cases hs : p.1 ∈ seen
  · simp [hs]
  · exact absurd (h (txtPair p) (List.mem_map_of_mem (mem_stepD_new hp hs))) (by simpa [txtPair] using hs)

theorem stepD_upd {d dn : Txt} {seen : List ByteArray} {k t : ByteArray} (hk : k ∉ seen) (hd : k ∈ d.map (·.1)) (hn : (d.map (·.1)).Nodup) (ht : look dn k = some t) :
    (assoc ((stepD d dn seen).map txtPair) k).isSome = true ∧ upd ((stepD d dn seen).map txtPair) k (.string t) = (stepD d dn (k :: seen)).map txtPair := by
  obtain ⟨q, hq, hqk⟩ := List.mem_map.1 hd
  have hsome : (assoc ((stepD d dn seen).map txtPair) k).isSome = true := by
    cases ha : assoc ((stepD d dn seen).map txtPair) k with
    | some _ => rfl
    | none =>
      rw [assoc_none_iff] at ha
      exfalso; apply ha
      have := mem_stepD_new (dn := dn) hq (by rw [hqk]; exact hk)
      refine List.mem_map.2 ⟨txtPair q, List.mem_map_of_mem this, hqk⟩
  refine ⟨hsome, ?_⟩
  unfold upd
  rw [if_pos hsome, List.map_map]
  clear hsome hd hq hqk
  induction d with
  | nil => rfl
  | cons p d ih =>
    simp only [List.map_cons, List.nodup_cons] at hn
    have ih := ih hn.2
    simp only [stepD] at ih ⊢
    simp only [List.filterMap_cons]
    by_cases hp : p.1 = k
    · subst hp
      simp only [hk, if_false, List.mem_cons, true_or, if_true, ht, Option.map_some, List.map_cons]
      rw [ih]
      simp [txtPair]
    · have hpk : ¬ (p.1 ∈ k :: seen ∧ p.1 ∉ seen) := by simp [hp]
      by_cases hs : p.1 ∈ seen
      · have hs' : p.1 ∈ k :: seen := by simp [hs]
        simp only [hs, hs', if_true]
        cases hl : look dn p.1 with
        | none => simp only [Option.map_none]; exact ih
        | some t' => simp only [Option.map_some, List.map_cons, ih]; simp [txtPair, hp]
      · have hs' : p.1 ∉ k :: seen := by simp [hs, hp]
        simp only [hs, hs', if_false, List.map_cons, ih]
        simp [txtPair, hp]

theorem stepD_del {d dn : Txt} {seen : List ByteArray} {k : ByteArray} (hk : k ∉ seen) (hn : (d.map (·.1)).Nodup) (ht : look dn k = none) :
    del ((stepD d dn seen).map txtPair) k = (stepD d dn (k :: seen)).map txtPair := by
  unfold del
  rw [List.filter_map]
  congr 1
  clear hn
  induction d with
  | nil => rfl
  | cons p d ih =>
    simp only [stepD] at ih ⊢
    simp only [List.filterMap_cons]
    by_cases hp : p.1 = k
    · subst hp
      have hk' : p.1 ∈ p.1 :: seen := by simp
      simp only [hk, hk', if_false, if_true, ht, Option.map_none]
      rw [List.filter_cons_of_neg (by simp [txtPair]), ih]
    · by_cases hs : p.1 ∈ seen
      · have hs' : p.1 ∈ k :: seen := by simp [hs]
        simp only [hs, hs', if_true]
        cases hl : look dn p.1 with
        | none => simp only [Option.map_none]; exact ih
        | some t' => simp only [Option.map_some]; rw [List.filter_cons_of_pos (by simp [txtPair, hp]), ih]
      · have hs' : p.1 ∉ k :: seen := by simp [hs, hp]
        simp only [hs, hs', if_false]
        rw [List.filter_cons_of_pos (by simp [txtPair, hp]), ih]

/-- How many have not come up. -/
def restD (d : Txt) (seen : List ByteArray) : Nat := (d.filter (fun p => !decide (p.1 ∈ seen))).length
theorem restD_lt {d : Txt} {seen : List ByteArray} {k : ByteArray} (hk : k ∉ seen) (hd : k ∈ d.map (·.1)) : restD d (k :: seen) < restD d seen := by
  obtain ⟨q, hq, rfl⟩ := List.mem_map.1 hd
  unfold restD
  have : d.filter (fun p => !decide (p.1 ∈ q.1 :: seen)) = (d.filter (fun p => !decide (p.1 ∈ seen))).filter (fun p => !decide (p.1 = q.1)) := by
    rw [List.filter_filter]
    apply List.filter_congr
    intro p _
    by_cases h1 : p.1 = q.1 <;> by_cases h2 : p.1 ∈ seen <;> simp [h1, h2]
  rw [this]
  apply List.length_filter_lt_length_iff_exists.2
  exact ⟨q, List.mem_filter.2 ⟨hq, by simpa using hk⟩, by simp⟩

theorem assoc_isSome {K : Type} [DecidableEq K] {d : List (K × Value)} {k : K} {v : Value} (h : (k, v) ∈ d) : (assoc d k).isSome = true := by
  cases ha : assoc d k with
  | some _ => rfl
  | none => exact absurd (List.mem_map_of_mem (f := (·.1)) h) ((assoc_none_iff d k).1 ha)

set_option maxHeartbeats 1000000 in
theorem purge_any (p mt tb : Nat) (d dn : Txt) (w : World) (h0 : w.heap[p]? = some (.cells #[.map (some mt)] 65 (0, 0))) (hm : MapAt w Value.string mt (d.map txtPair)) (ht : MapAt w Value.string tb (dn.map txtPair)) (hne : mt ≠ tb) :
    Calls Try.prog 41 #[snapV p, .map (some tb)] w fun e w' => e = .returned (.tuple #[]) ∧ Mod (Eq mt) w w' ∧ MapAt w' Value.string mt ((purgeD d dn).map txtPair) := by
  have hpm : mt ≠ p := by
    intro e; obtain ⟨es, c, hh, _⟩ := hm; rw [e, h0] at hh; simp at hh
  have hnd : (d.map (·.1)).Nodup := by
    obtain ⟨es, c, hh, _, hn, _⟩ := hm
    simpa [List.map_map, Function.comp_def, txtPair] using hn
  have hc0 : w.cell? ⟨p, 0, none⟩ = some (.map (some mt)) := by rw [cell_of h0]; rfl
  replace h0 := hid h0
  replace hnd := hid hnd
  have ht' := hid ht
  have hm' := hid hm
  clear ht hm
  unfold snapV
  go_enter Try.func41, Try.ntmps41
  go_wp2_with (at_range; refine wpList_range rfl _ _ _ rfl Try.underlying63 hm'.out rfl ?_; intro w1 hR; go_frame)
  go_loopg [] (restD d []) (fun g wr => ∃ seen, g = restD d seen ∧ IterAt wr Value.string mt w.heap.size ((stepD d dn seen).map txtPair) seen ∧ Mod (Eq mt) w wr)
  case atStart => exact ⟨[], rfl, by rw [stepD_nil]; exact hR.out.1, hR.out.2.1.mono (fun _ h => h.elim)⟩
  case round =>
    obtain ⟨seen, rfl, hit, hmod⟩ := hrel
    have hc1 : wr.cell? ⟨p, 0, none⟩ = some (.map (some mt)) := hmod.cell hc0 hpm
    have hi := hid hit
    have hmo := hid hmod
    clear hit hmod
    have hrp : ¬ w.heap.size = p := fun e => by have := lt_of_at h0.out; omega
    have htb : ¬ w.heap.size = tb := fun e => by have := ht'.out.lt; omega
    replace hc0 := hid hc0
    replace hpm := hid hpm
    go_wp2_with (first
      | (at_next; go_loud (refine wpList_next rfl _ rfl (keyOk_string Try.underlying9).inj hi.out rfl (fun hall => ?_) (fun k v w2 H => have hen := run_entryM (P := Try.prog) H.out.2.2.1 H.out.1; have hc2 := H.out.2.2.2.1.cell hc1 hrp; have hlk := run_lookupM (P := Try.prog) (t := 63) (keyOk_string Try.underlying9) Try.underlying63 ((ht'.out.mod hmo.out hne).mod H.out.2.2.2.1 htb) k (zero9 w2) true; ?_)) <;> go_frame)
      | (at_mapUpdate; refine wpList_update_iter rfl _ _ _ _ _ rfl (keyOk_string Try.underlying9) Try.underlying63 H.out.2.2.1 k ((assoc (dn.map txtPair) k).getD (.string .empty)) (assoc_isSome H.out.1) rfl rfl rfl (fun w3 H3 => ?_); go_frame)
      | (at_delete; refine wpList_delete_iter rfl _ _ _ _ _ rfl (keyOk_string Try.underlying9) Try.underlying63 H.out.2.2.1 _ rfl rfl (fun w3 H3 => ?_); go_frame))
    · go_end0
      exact ⟨rfl, hmo.out, by rw [← stepD_done hall.out]; exact hi.out.mapAt⟩
    · have hs : (assoc (dn.map txtPair) k).isSome = true := by assumption
      obtain ⟨hin, hns, hi2, hm2, hs2⟩ := H.out
      obtain ⟨hi3, hm3, hs3⟩ := H3.out
      have hd : k ∈ d.map (·.1) := by
        obtain ⟨q, hq, he⟩ := List.mem_map.1 hin
        have := mem_stepD hq
        simp only [txtPair, Prod.mk.injEq] at he
        rw [← he.1]; exact this
      go_roundg (restD d (k :: seen))
      case measure => exact restD_lt hns hd
      case rel =>
        refine ⟨k :: seen, rfl, ?_, (hmo.out.then hm2 (fun j hj e => by omega)).trans hm3⟩
        obtain ⟨t, ht⟩ := Option.isSome_iff_exists.1 hs
        rw [assoc_look] at ht
        obtain ⟨t', ht', rfl⟩ := Option.map_eq_some_iff.1 ht
        have e := (stepD_upd hns hd hnd.out ht').2
        have e2 : (assoc (dn.map txtPair) k).getD (.string .empty) = .string t' := by
          rw [assoc_look, ht']; rfl
        rw [e2, e] at hi3
        exact hi3
    · have hs : (assoc (dn.map txtPair) k).isSome = false := by assumption
      obtain ⟨hin, hns, hi2, hm2, hs2⟩ := H.out
      obtain ⟨hi3, hm3, hs3⟩ := H3.out
      have hd : k ∈ d.map (·.1) := by
        obtain ⟨q, hq, he⟩ := List.mem_map.1 hin
        have := mem_stepD hq
        simp only [txtPair, Prod.mk.injEq] at he
        rw [← he.1]; exact this
      go_roundg (restD d (k :: seen))
      case measure => exact restD_lt hns hd
      case rel =>
        refine ⟨k :: seen, rfl, ?_, (hmo.out.then hm2 (fun j hj e => by omega)).trans hm3⟩
        have ht : look dn k = none := by
          rw [assoc_look] at hs
          simpa using hs
        rw [stepD_del hns hnd.out ht] at hi3
        exact hi3
end Go.Proofs.Ytncmhcfhbogjnaa
