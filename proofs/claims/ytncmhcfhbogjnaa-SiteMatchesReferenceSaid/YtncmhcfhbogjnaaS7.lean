import Derived.Test.YtncmhcfhbogjnaaS6
import Derived.Test.YtncmhcfhbogjnaaAppend
import Derived.LaidEqlPtr
namespace Go.Proofs.Ytncmhcfhbogjnaa
open Go.RowKit Cdk

set_option maxHeartbeats 2000000 in
theorem Publish_dup {w : World} {F : Nat → Prop} {s : Nat} {st : SiteSt} (h : SiteAt w F s st) (c : Int) (l : List Pg) (ao : Option Addr) (cap : Nat) (pg : Bool) (hr : RowIs w ao (l.flatMap pgCells)) (hok : PgsOk l) (hl : l.length ≤ 1000000)
    (hc : isClassB c = true) (hd : ¬ (l.map (·.1)).Nodup) :
    Calls Try.prog 30 #[snapV s, .int .i64 c, .slice ao l.length cap, .bool pg] w fun e w' => e = .returned (.int .i64 250) ∧ Ext w w' := by
  obtain ⟨hj, h4, h5, hfr⟩ := h.cells
  have hms := hid (missing_some w s st.m h4)
  have hic := isClass_any c w
  rw [hc] at hic
  have hmm := @run_makeMap Try.prog
  replace hic := hid hic
  replace hd := hid hd
  clear h hj
  replace hr := hid hr
  replace hok := hid hok
  clear hc
  unfold snapV at *
  go_enter Try.func30, Try.ntmps30
  go_wp2_with fail
  refine hms.out.mono ?_; rintro e w' ⟨rfl, rfl⟩
  go_wp2_with fail
  refine hic.out.mono ?_; rintro e w' ⟨rfl, rfl⟩
  go_wp2_with fail
  have hx0 := Mod.alloc (Mod.refl (fun _ => False) w) (.map #[] 0)
  have hm0 := MapAt.made w Value.string
  go_loopg [24] l.length (fun g i wr => ∃ k : Nat, k + g = l.length ∧ i = .int .i64 k ∧ MapAt wr Value.string w.heap.size ((pubT (l.take k)).map txtPair) ∧ Ext w wr)
  case atStart => exact ⟨0, by omega, rfl, hm0, hx0⟩
  case round =>
    obtain ⟨k, hk, rfl, hm, hx⟩ := hrel
    replace hx0 := hid hx0
    replace hm0 := hid hm0
    replace hm := hid hm
    replace hx := hid hx
    by_cases hlt : k < l.length
    · obtain ⟨b, off, rfl, hp0, hp1, hp2⟩ := pg_at hr.out hlt
      obtain ⟨ra, rn, rc, hrd⟩ := hok.out l[k] (List.getElem_mem hlt)
      rw [hrd] at hp2
      replace hrd := hid hrd
      have q0 := hx.out.cell hp0 (fun h => h)
      have q1 := hx.out.cell hp1 (fun h => h)
      have q2 := hx.out.cell hp2 (fun h => h)
      have hx1 : ∀ o, Ext wr (wr.alloc o) := fun o => (Mod.refl _ wr).alloc o
      have hlk := fun o => run_lookupM (P := Try.prog) (t := 63) (keyOk_string Try.underlying9) Try.underlying63 (hm.out.mod (hx1 o) (fun h => h)) l[k].1 (zero9 _) true
      rw [assoc_look] at hlk
      replace hx1 := hid hx1
      replace hk := hid hk
      clear hp0 hp1 hp2
      cases hlook : look (pubT (l.take k)) l[k].1 with
      | none =>
        rw [hlook] at hlk
        simp only [Option.map_none, Option.isSome_none, Option.getD_none, if_true] at hlk
        have hnone := hid hlook
        clear hlook
        go_wp2_with (at_mapUpdate; refine wpList_update rfl _ _ _ _ _ rfl (keyOk_string Try.underlying9) Try.underlying63 (by exact hm.out.mod (hx1.out _) (fun h => h)) l[k].1 (.string l[k].2.1) rfl rfl rfl (fun w3 H3 => ?_); go_frame)
        go_roundg (gk - 1)
        case measure => have := hk.out; omega
        case rel =>
          obtain ⟨a1, a2, a3⟩ := H3.out
          refine ⟨k + 1, by have := hk.out; omega, by go_num, ?_, ?_⟩
          · rw [upd_new hnone.out] at a1
            have e : pubT (l.take k ++ [l[k]]) = pubT (l.take k) ++ [(l[k].1, l[k].2.1)] := by unfold pubT; rw [List.map_append]; rfl
            rw [take_succ' hlt, e]
            exact a1
          · exact (hx.out.trans (hx1.out _)).then a2 (fun i hi e => by omega)
      | some t =>
        rw [hlook] at hlk
        simp only [Option.map_some, Option.isSome_some, Option.getD_some, if_true] at hlk
        clear hlook
        go_wp2
        go_ret
        exact ⟨rfl, hx.out.trans (hx1.out _)⟩
    · exfalso
      have hkl : l.take k = l := List.take_of_length_le (by omega)
      rw [hkl] at hm
      obtain ⟨es, c, hh, _, hn, _⟩ := hm.out
      exact hd.out (by simpa [pubT, List.map_map, Function.comp_def, txtPair] using hn)

/-- The snapshots that are counted. -/
def addN (k : List Nat) (p : Nat) : List Nat := if p ∈ k then k else k ++ [p]
def snapsL (st : SiteSt) : List Nat := (st.ses.map (·.2.2)).foldl addN [st.cur 0, st.cur 1, st.cur 2, st.cur 3]

def Kept (c4 : List Nat) (l : List Nat) (k : List Nat) : Prop := ∃ extra, k = c4 ++ extra ∧ extra.Nodup ∧ ∀ p, p ∈ extra ↔ p ∈ l ∧ p ∉ c4
theorem Kept.nil (c4 : List Nat) : Kept c4 [] c4 := ⟨[], by simp, by simp, by simp⟩
theorem Kept.add {c4 l k : List Nat} (h : Kept c4 l k) (p : Nat) : Kept c4 (p :: l) (addN k p) := by
  obtain ⟨ex, rfl, hn, hm⟩ := h
  unfold addN
  by_cases hp : p ∈ c4 ++ ex
  · rw [if_pos hp]
    refine ⟨ex, rfl, hn, fun q => ?_⟩
    rw [hm, List.mem_cons]
    constructor
    · rintro ⟨a, b⟩; exact ⟨.inr a, b⟩
    · rintro ⟨rfl | a, b⟩
      · rcases List.mem_append.1 hp with h | h
        · exact absurd h b
        · exact (hm _).1 h
      · exact ⟨a, b⟩
  · rw [if_neg hp]
    rw [List.mem_append, not_or] at hp
    refine ⟨ex ++ [p], by simp, ?_, fun q => ?_⟩
    · rw [List.nodup_append]
      exact ⟨hn, by simp, fun a ha b hb e => by simp at hb; subst hb; subst e; exact hp.2 ha⟩
    · rw [List.mem_append, hm]
      simp only [List.mem_cons, List.not_mem_nil, or_false]
      constructor
      · rintro (⟨a, b⟩ | rfl)
        · exact ⟨.inr a, b⟩
        · exact ⟨.inl rfl, hp.1⟩
      · rintro ⟨rfl | a, b⟩
        · exact .inr rfl
        · exact .inl ⟨a, b⟩
theorem Kept.same {c4 l l' k : List Nat} (h : Kept c4 l k) (he : ∀ p, p ∈ l ↔ p ∈ l') : Kept c4 l' k := by
  obtain ⟨ex, rfl, hn, hm⟩ := h
  exact ⟨ex, rfl, hn, fun p => by rw [hm, he]⟩
theorem Kept.length {c4 l k k' : List Nat} (h : Kept c4 l k) (h' : Kept c4 l k') : k.length = k'.length := by
  obtain ⟨ex, rfl, hn, hm⟩ := h
  obtain ⟨ex', rfl, hn', hm'⟩ := h'
  have : ex.Perm ex' := (List.perm_ext_iff_of_nodup hn hn').2 (fun p => by rw [hm, hm'])
  simp [this.length_eq]
theorem Kept.fold (c4 : List Nat) : ∀ (l0 l k : List Nat), Kept c4 l0 k → Kept c4 (l0 ++ l) (l.foldl addN k)
  | l0, [], k, h => by simpa using h
  | l0, p :: l, k, h => by
    have := Kept.fold c4 (p :: l0) l (addN k p) (h.add p)
    exact this.same (fun q => by simp; constructor <;> (rintro (h | h | h) <;> simp [h]))
theorem Kept.snaps (st : SiteSt) : Kept [st.cur 0, st.cur 1, st.cur 2, st.cur 3] (st.ses.map (·.2.2)) (snapsL st) := by
  have := Kept.fold [st.cur 0, st.cur 1, st.cur 2, st.cur 3] [] (st.ses.map (·.2.2)) _ (Kept.nil _)
  simpa [snapsL] using this

theorem Snapshots_nil (w : World) : Calls Try.prog 22 #[.pointer none] w fun e w' => e = .returned (.int .i64 0) ∧ w = w' := by
  have hms := hid (missing_nil w)
  go_enter Try.func22, Try.ntmps22
  go_wp2_with fail
  refine hms.out.mono ?_; rintro e w' ⟨rfl, rfl⟩
  go_wp2_with fail
  go_ret
  exact ⟨rfl, rfl⟩

theorem info59 : (Try.prog.info? 59).map (fun i => (i.zero, i.size, i.bytes)) = some (some (.pointer none), 1, 8) := by kernel_rfl

theorem el59 : El Try.prog 59 (.pointer none) 1 8 := ⟨info59, rfl, by decide, by decide⟩
def snapC (p : Nat) : List Value := [snapV p]

theorem info65 : ∃ j, Try.prog.info? 65 = some j ∧ j.size ≠ 0 := by
  obtain ⟨i, hi, _, h1, _⟩ := info_parts (P := Try.prog) (e := 65) (z := .agg #[.map none]) (size := 1) (bytes := 8) (by kernel_rfl)
  exact ⟨i, hi, by omega⟩

theorem eq_snap {w : World} {F : Nat → Prop} {s : Nat} {st : SiteSt} (h : SiteAt w F s st) {p q : Nat} (hp : st.live p) (hq : st.live q) :
    (binOp .eql 59 (.pointer (some ⟨p, 0, none⟩)) (.pointer (some ⟨q, 0, none⟩))).run Try.prog w = .ok (.bool (decide (p = q))) w := by
  obtain ⟨j, hj, hsz⟩ := info65
  by_cases e : p = q
  · subst e
    rw [run_eql_ptr_same w _ Try.underlying59 hj]; simp
  · rw [run_eql_ptr_other w Try.underlying59 hj hsz (fun h => e (by injection h)) (h.shot p hp).2.2.2.1 (h.shot q hq).2.2.2.1]; simp [e]

def seenL (st : SiteSt) (seen : List Int) : List Nat := (st.ses.filter (fun q => decide (q.1 ∈ seen))).map (·.2.2)
theorem mem_seenL {st : SiteSt} {seen : List Int} {p : Nat} : p ∈ seenL st seen ↔ ∃ q ∈ st.ses, q.1 ∈ seen ∧ q.2.2 = p := by
  unfold seenL
  simp only [List.mem_map, List.mem_filter, decide_eq_true_eq]
  constructor
  · rintro ⟨q, ⟨a, b⟩, c⟩; exact ⟨q, a, b, c⟩
  · rintro ⟨q, a, b, c⟩; exact ⟨q, ⟨a, b⟩, c⟩

theorem Kept.live {st : SiteSt} {seen : List Int} {k : List Nat} (h : Kept [st.cur 0, st.cur 1, st.cur 2, st.cur 3] (seenL st seen) k) : ∀ p ∈ k, st.live p := by
  obtain ⟨ex, rfl, _, hm⟩ := h
  intro p hp
  rcases List.mem_append.1 hp with hp | hp
  · simp at hp
    rcases hp with rfl | rfl | rfl | rfl
    · exact .inl ⟨0, by omega, rfl⟩
    · exact .inl ⟨1, by omega, rfl⟩
    · exact .inl ⟨2, by omega, rfl⟩
    · exact .inl ⟨3, by omega, rfl⟩
  · obtain ⟨q, hq, _, rfl⟩ := mem_seenL.1 ((hm p).1 hp).1
    exact .inr ⟨q, hq, rfl⟩
theorem Kept.bound {c4 l k : List Nat} (h : Kept c4 l k) : k.length ≤ c4.length + l.length := by
  obtain ⟨ex, rfl, hn, hm⟩ := h
  have : ex.length ≤ l.length := by
    have hs : ex ⊆ l := fun p hp => ((hm p).1 hp).1
    exact hn.length_le_of_subset hs
  simp; omega

set_option maxHeartbeats 2000000 in
theorem Snapshots_any {w : World} {F : Nat → Prop} {s : Nat} {st : SiteSt} (h : SiteAt w F s st) (hl : st.ses.length < 1000) :
    Calls Try.prog 22 #[snapV s] w fun e w' => e = .returned (.int .i64 (snapsL st).length) ∧ Ext w w' := by
  obtain ⟨hj, h4, h5, hfr⟩ := h.cells
  have hms := hid (missing_some w s st.m h4)
  have hA := hid h
  have hj' := hid hj
  have hsl : s < w.heap.size := lt_of_at h.top
  clear h hj
  unfold snapV at *
  go_enter Try.func22, Try.ntmps22
  go_wp2_with fail
  refine hms.out.mono ?_; rintro e w' ⟨rfl, rfl⟩
  have hx0 : Ext w (w.alloc (.cells #[] 59)) := (Mod.refl _ w).alloc _
  have hrow0 : Hid (RowIs (w.alloc (.cells #[] 59)) (some ⟨s, 0, none⟩) ([st.cur 0, st.cur 1, st.cur 2, st.cur 3].flatMap snapC)) := by
    intro j u hu
    refine ⟨s, 0, rfl, ?_⟩
    have hjl : j < 4 := by have := (List.getElem?_eq_some_iff.1 hu).1; simpa [snapC] using this
    have hc := hx0.cell (hj'.out j hjl) (fun h => h)
    rw [Nat.zero_add, hc]
    match j, hjl with
    | 0, _ => simpa [snapC, snapV] using hu
    | 1, _ => simpa [snapC, snapV] using hu
    | 2, _ => simpa [snapC, snapV] using hu
    | 3, _ => simpa [snapC, snapV] using hu
    | j + 4, hj => omega
  go_upto_region 4 with (first
    | (at_builtin; refine wpList_app rfl _ _ _ rfl Try.underlying73 el59 rfl (Own.empty snapC (Nat.le_refl _)) _ 4 4 rfl [st.cur 0, st.cur 1, st.cur 2, st.cur 3] rfl hrow0.out (fun _ => rfl) (fun _ _ u hu => by simp [snapC] at hu; subst hu; rfl) (by simp) (by simp) (by simp) (fun v1 w1 H1 => ?_); go_frame))
  have hne : ¬ (Value.slice (some ⟨w.heap.size, 0, none⟩) 0 0).ownBlock = some s := by simp [Value.ownBlock]; omega
  have k4 := H1.out.2.cell (hx0.cell h4 (fun h => h)) hne
  replace hne := hid hne
  have hob0 : ∀ k, (Value.slice (some ⟨w.heap.size, 0, none⟩) 0 0).ownBlock = some k → w.heap.size = k := by intro k e; simpa [Value.ownBlock] using e
  have hE1 : Ext w w1 := hx0.then H1.out.2 (fun k hk e => by have := hob0 k e; omega)
  have hses1 := hid (hA.out.ses.mod hE1 (fun h => h))
  replace hob0 := hid hob0
  replace hE1 := hid hE1
  go_wp2_with (first | (at_range; refine wpList_range rfl _ _ _ rfl Try.underlying58 hses1.out rfl (fun w2 H2 => ?_); go_frame))
  have hE2 : Hid (Ext w w2) := hE1.out.trans H2.out.2.1
  have hw1 : w.heap.size < w1.heap.size := by have := H1.out.2.size; simp at this; omega
  have hit0 := H2.out.1
  have hown0 := H1.out.1.ext H2.out.2.1
  have hob : ∀ k, v1.ownBlock = some k → w.heap.size ≤ k ∧ k < w1.heap.size := H1.out.1.block
  have hsz2 := H2.out.2.2
  simp only [List.nil_append] at hown0
  clear k4
  go_loopg [3] (restL st.ses sesPair []) (fun g v wq => ∃ seen kept, g = restL st.ses sesPair seen ∧ Own wq w.heap.size 59 1 snapC v kept ∧ Kept [st.cur 0, st.cur 1, st.cur 2, st.cur 3] (seenL st seen) kept ∧
      IterAt wq (Value.int .i64) st.m w1.heap.size (st.ses.map sesPair) seen ∧ Ext w wq ∧ (∀ k, v.ownBlock = some k → k ≠ w1.heap.size) ∧ w1.heap.size < wq.heap.size)
  case atStart => exact ⟨[], _, rfl, hown0, by rw [show seenL st [] = [] from by simp [seenL]]; exact Kept.nil _, hit0, hE2.out, fun k hk e => by have := hob k hk; omega, by omega⟩
  case round =>
    obtain ⟨seen, kept, rfl, hown, hkept, hit, hE, hnb, hsz⟩ := hrel
    have hkb := hkept.bound
    have hkl : kept.length ≤ 2000 := by
      have : (seenL st seen).length ≤ st.ses.length := by unfold seenL; rw [List.length_map]; exact List.length_filter_le _ _
      simp at hkb; omega
    replace hown := hid hown
    replace hkept := hid hkept
    replace hit := hid hit
    replace hE := hid hE
    replace hnb := hid hnb
    clear hkb hit0 hown0 hob
    obtain ⟨ao, cap, rfl, hrow, hbl⟩ := hown.out.row
    replace hrow := hid hrow
    replace hbl := hid hbl
    go_wp2_with (first
      | (at_next; refine wpList_nextL rfl _ rfl (keyOk_int Try.underlying3).inj hit.out rfl (fun hall => ?_) (fun q w3 H => have hen := entryL (P := Try.prog) H.out.2.2.1 H.out.1; ?_) <;> (try simp only [sesPair, snapV] at hen) <;> (try simp only [sesPair, snapV]) <;> go_frame))
    · go_ret
      have hfin : kept.length = (snapsL st).length := by
        refine hkept.out.length (Kept.same (Kept.snaps st) (fun p => ?_))
        rw [mem_seenL, List.mem_map]
        constructor
        · rintro ⟨q, hq, e⟩; exact ⟨q, hq, hall.out q hq, e⟩
        · rintro ⟨q, hq, _, e⟩; exact ⟨q, hq, e⟩
      rw [← hfin]
      exact ⟨rfl, hE.out⟩
    · obtain ⟨wo, rfl⟩ : ∃ wo : World, wo = wr := ⟨_, rfl⟩
      obtain ⟨hq, hns, hi2, hm2, hs2⟩ := H.out
      have hx4 : Mod (Eq w1.heap.size) wo (w3.alloc (.cells #[.int .i64 q.2.1, .pointer (some ⟨q.2.2, 0, none⟩)] 75)) := hm2.alloc _
      have hE4 : Ext w (w3.alloc (.cells #[.int .i64 q.2.1, .pointer (some ⟨q.2.2, 0, none⟩)] 75)) := hE.out.then hx4 (fun k hk e => by omega)
      have hbox : (w3.alloc (.cells #[.int .i64 q.2.1, .pointer (some ⟨q.2.2, 0, none⟩)] 75)).heap[w3.heap.size]? = some (.cells #[.int .i64 q.2.1, .pointer (some ⟨q.2.2, 0, none⟩)] 75 (0, 0)) := heap_alloc_new w3 _
      have hsz4 : (w3.alloc (.cells #[.int .i64 q.2.1, .pointer (some ⟨q.2.2, 0, none⟩)] 75)).heap.size = w3.heap.size + 1 := World.size_alloc _ _
      have hit4 : IterAt (w3.alloc (.cells #[.int .i64 q.2.1, .pointer (some ⟨q.2.2, 0, none⟩)] 75)) (Value.int .i64) st.m w1.heap.size (st.ses.map sesPair) (q.1 :: seen) := hi2.mod ((Mod.refl (fun _ => False) w3).alloc _) (fun h => h) (fun h => h)
      generalize (w3.alloc (.cells #[.int .i64 q.2.1, .pointer (some ⟨q.2.2, 0, none⟩)] 75)) = w4 at hx4 hE4 hbox hsz4 hit4 ⊢
      have hS4 := hA.out.mod hE4 (fun _ _ h => h)
      have hown4 : Own w4 w.heap.size 59 1 snapC (.slice ao kept.length cap) kept := hown.out.mod hx4 (fun k hk e => hnb.out k hk e.symm)
      have hb1 : w4.cell? ⟨w3.heap.size, 1, none⟩ = some (.pointer (some ⟨q.2.2, 0, none⟩)) := by rw [cell_of hbox]; rfl
      have hqlive : st.live q.2.2 := .inr ⟨q, hq, rfl⟩
      have heq : ∀ p ∈ kept, (binOp .eql 59 (.pointer (some ⟨p, 0, none⟩)) (.pointer (some ⟨q.2.2, 0, none⟩))).run Try.prog w4 = .ok (.bool (decide (p = q.2.2))) w4 := fun p hp => eq_snap hS4 (hkept.out.live p hp) hqlive
      have hk' : Kept [st.cur 0, st.cur 1, st.cur 2, st.cur 3] (seenL st (q.1 :: seen)) (addN kept q.2.2) := by
        refine (hkept.out.add q.2.2).same (fun p => ?_)
        rw [List.mem_cons, mem_seenL, mem_seenL]
        constructor
        · rintro (rfl | ⟨q', a, b, c⟩)
          · exact ⟨q, hq, by simp, rfl⟩
          · exact ⟨q', a, by simp [b], c⟩
        · rintro ⟨q', a, b, c⟩
          rcases List.mem_cons.1 b with b | b
          · left; rw [nodup_key hA.out.nodup a hq b] at c; exact c.symm
          · exact .inr ⟨q', a, b, c⟩
      replace hx4 := hid hx4
      replace hE4 := hid hE4
      replace hbox := hid hbox
      replace hit4 := hid hit4
      replace hS4 := hid hS4
      replace hown4 := hid hown4
      replace heq := hid heq
      replace hk' := hid hk'
      replace hns := hid hns
      have hlt4 : w1.heap.size < w4.heap.size := by omega
      have hw4 : w.heap.size ≤ w4.heap.size := by omega
      replace hs2 := hid hs2
      replace hsz4 := hid hsz4
      clear hi2 hm2 hqlive hen
      have hmeas := hid (restL_lt (f := sesPair) hq hns.out)
      go_loopg [6, 28] kept.length (fun g b i wx => ∃ t : Nat, t + g = kept.length ∧ i = .int .i64 t ∧ b = .bool (decide (q.2.2 ∈ kept.take t)) ∧ wx = w4)
      case atStart => exact ⟨0, by omega, rfl, by simp, rfl⟩
      case round =>
        obtain ⟨t, ht, rfl, rfl, rfl⟩ := hrel
        replace ht := hid ht
        by_cases hlt : t < kept.length
        · obtain ⟨ao', cap', hv, hrow4, _⟩ := hown4.out.row
          obtain ⟨b, off, hao, hcell⟩ := hrow4.at (by rw [flat_length snapC 1 (fun _ => rfl)]; omega)
          simp only [Value.slice.injEq] at hv
          obtain ⟨rfl, _, rfl⟩ := hv
          subst hao
          have hct := hcell t (snapV kept[t]) (by have := flat_get snapC 1 (fun _ => rfl) kept t 0 kept[t] (List.getElem?_eq_getElem hlt) (by omega); simpa [snapC] using this)
          unfold snapV at hct
          have heqt := heq.out kept[t] (List.getElem_mem hlt)
          replace hcell := hid hcell
          replace hrow4 := hid hrow4
          cases hd : decide (q.2.2 ∈ kept.take t) with
          | true =>
            have hm : q.2.2 ∈ kept.take t := by simpa using hd
            have hm' : decide (q.2.2 ∈ kept.take (t + 1)) = true := by rw [take_succ' hlt]; exact decide_eq_true (List.mem_append_left _ hm)
            replace hm := hid hm
            replace hm' := hid hm'
            replace hd := hid hd
            go_wp2
            go_roundg (gk - 1)
            case measure => have := ht.out; omega
            case rel => exact ⟨t + 1, by have := ht.out; omega, by go_num, by rw [hm'.out], rfl⟩
          | false =>
            have hm : q.2.2 ∉ kept.take t := by simpa using hd
            have hm' : decide (q.2.2 ∈ kept.take (t + 1)) = decide (kept[t] = q.2.2) := by
              rw [take_succ' hlt]
              by_cases e : kept[t] = q.2.2
              · simp [e]
              · have e' : ¬ q.2.2 = kept[t] := fun h => e h.symm
                simp only [List.mem_append, hm, List.mem_cons, e', List.not_mem_nil, or_self, e]
            replace hm := hid hm
            replace hm' := hid hm'
            replace hd := hid hd
            go_wp2
            go_roundg (gk - 1)
            case measure => have := ht.out; omega
            case rel => exact ⟨t + 1, by have := ht.out; omega, by go_num, by rw [hm'.out], rfl⟩
        · have htk : kept.take t = kept := List.take_of_length_le (by omega)
          rw [htk]
          cases hd : decide (q.2.2 ∈ kept) with
          | true =>
            have hm : q.2.2 ∈ kept := by simpa using hd
            have hadd : addN kept q.2.2 = kept := by unfold addN; rw [if_pos hm]
            rw [hadd] at hk'
            clear hd hm hadd htk
            go_wp2
            go_roundg (restL st.ses sesPair (q.1 :: seen))
            case measure => exact hmeas.out
            case rel => exact ⟨q.1 :: seen, kept, rfl, hown4.out, hk'.out, hit4.out, hE4.out, hnb.out, by omega⟩
          | false =>
            have hm : q.2.2 ∉ kept := by simpa using hd
            have hadd : addN kept q.2.2 = kept ++ [q.2.2] := by unfold addN; rw [if_neg hm]
            rw [hadd] at hk'
            clear hd hm hadd htk
            have hx5 : Ext wr (wr.alloc (.cells #[.pointer (some ⟨q.2.2, 0, none⟩)] 59)) := (Mod.refl _ _).alloc _
            have hrow5 : Hid (RowIs (wr.alloc (.cells #[.pointer (some ⟨q.2.2, 0, none⟩)] 59)) (some ⟨wr.heap.size, 0, none⟩) ([q.2.2].flatMap snapC)) := hid (RowIs.new wr _ _)
            have hown5 := hid (hown4.out.ext hx5)
            replace hx5 := hid hx5
            go_wp2_with (at_builtin; refine wpList_app rfl _ _ _ rfl Try.underlying73 el59 rfl hown5.out _ 1 1 rfl [q.2.2] rfl (by exact hrow5.out) (fun _ => rfl) (fun _ _ u hu => by simp [snapC] at hu; subst hu; rfl) (by simp; omega) (by simp; omega) (by simp) (fun v6 w6 H6 => ?_); go_frame)
            go_roundg (restL st.ses sesPair (q.1 :: seen))
            case measure => exact hmeas.out
            case rel =>
              obtain ⟨o6, m6⟩ := H6.out
              have hE6 : Ext w w6 := (hE4.out.trans hx5.out).then m6 (fun k hk e => by have := hown4.out.block k e; omega)
              have hit6 : IterAt w6 (Value.int .i64) st.m w1.heap.size (st.ses.map sesPair) (q.1 :: seen) :=
                (hit4.out.mod hx5.out (fun h => h) (fun h => h)).mod m6 (hown4.out.ne_map hit4.out.mapAt) (hown4.out.ne_iter hit4.out)
              refine ⟨q.1 :: seen, _, rfl, o6, hk'.out, hit6, hE6, fun k hk e => o6.ne_iter hit6 (e ▸ hk), ?_⟩
              have := m6.size; simp at this; omega
end Go.Proofs.Ytncmhcfhbogjnaa
