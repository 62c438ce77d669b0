import Derived.Test.YtncmhcfhbogjnaaL1
namespace Go.Proofs.Ytncmhcfhbogjnaa
open Go.RowKit Cdk

theorem pagesL_fst (n v : Int) : (pagesL n v).map (·.1) = ((List.range 5).filter (bitB n)).map (fun i => addrs.getD i .empty) := by
  unfold pagesL
  rw [List.map_filterMap, ← List.filterMap_eq_map, ← List.filterMap_eq_filter, List.filterMap_filterMap]
  apply filterMap_congr'
  intro i _
  unfold pageOf
  cases h : bitB n i <;> simp [h, Option.guard]

theorem pagesL_nodup (n v : Int) : ((pagesL n v).map (·.1)).Nodup := by
  rw [pagesL_fst]
  refine List.Pairwise.map _ ?_ (List.Pairwise.and_mem.1 ((List.nodup_range (n := 5)).filter _))
  rintro a b ⟨ha, hb, hne⟩ e
  have ha := (List.mem_filter.1 ha).1
  have hb := (List.mem_filter.1 hb).1
  simp only [List.mem_range] at ha hb
  apply hne
  have : ∀ a, a < 5 → ∀ b, b < 5 → addrs.getD a .empty = addrs.getD b .empty → a = b := by decide
  exact this a ha b hb e

theorem pagesL_ok (n v : Int) : PgsOk (pagesL n v) := by
  intro p hp
  unfold pagesL at hp
  obtain ⟨i, _, he⟩ := List.mem_filterMap.1 hp
  unfold pageOf at he
  split at he
  · simp at he; subst he; exact ⟨none, 0, 0, rfl⟩
  · simp at he
theorem pagesL_len (n v : Int) : (pagesL n v).length ≤ 5 := by
  have := List.length_filterMap_le (pageOf n v) (List.range 5)
  unfold pagesL
  rw [List.length_range] at this
  exact this

structure OpI where
  kind : Int
  cls : Int
  num : Int
def OpI.v (o : OpI) : Value := .agg #[.int .i64 o.kind, .int .i64 o.cls, .int .i64 o.num]
def In64 (n : Int) : Prop := -9223372036854775808 ≤ n ∧ n ≤ 9223372036854775807
structure OpI.ok (o : OpI) : Prop where
  kind : In64 o.kind
  cls : In64 o.cls
  num : In64 o.num

def pubAll (st : SiteSt) (c : Int) (pg : Bool) (N tb : Nat) (l : List Pg) : SiteSt :=
  pubSt (if pg then purgedSt st c (pubT l) (st.ses.map (·.1)) else st) c.toNat N tb (pubT l)

/-- What a call of 'perform' does. -/
inductive Did (B : Nat) (st : SiteSt) (o : OpI) (v opened : Int) : Int → Int → SiteSt → Prop where
  | pub (pg : Bool) (hk : pickI o.kind 4 = if pg then 1 else 0) (hc : isClassB (classI o.cls) = true) (N tb : Nat) (hN : B ≤ N) : Did B st o v opened 0 0 (pubAll st (classI o.cls) pg N tb (pagesL o.num v))
  | bad (hk : pickI o.kind 4 = 0 ∨ pickI o.kind 4 = 1) (hc : isClassB (classI o.cls) = false) : Did B st o v opened 0 250 st
  | opn (hk : pickI o.kind 4 = 2) (hc : isClassB (classI o.cls) = true) (hl : st.ses.length < 16) : Did B st o v opened (st.last + 1) 0 (openSt st (classI o.cls))
  | full (hk : pickI o.kind 4 = 2) (hc : isClassB (classI o.cls) = false ∨ 16 ≤ st.ses.length) : Did B st o v opened 0 250 st
  | cls (hk : pickI o.kind 4 = 3) : Did B st o v opened 0 (closeE st (sessionI o.num opened)) (closeSt st (sessionI o.num opened))

structure SiteSt.ok (st : SiteSt) : Prop where
  lo : 0 ≤ st.last
  hi : st.last < 1000
  num : ∀ q ∈ st.ses, 1 ≤ q.1 ∧ q.1 ≤ st.last
  len : st.ses.length ≤ 16

def PerfPost (w : World) (F : Nat → Prop) (s : Nat) (st : SiteSt) (o : OpI) (v opened : Int) (e : Ending) (w' : World) : Prop :=
  ∃ n er st' F', e = .returned (.tuple #[.int .i64 n, .int .i64 er]) ∧ Mod F w w' ∧ (∀ k, F' k → F k ∨ w.heap.size ≤ k) ∧ SiteAt w' F' s st' ∧ Did w.heap.size st o v opened n er st'

theorem pickI4 (k : Int) : pickI k 4 = 0 ∨ pickI k 4 = 1 ∨ pickI k 4 = 2 ∨ pickI k 4 = 3 := by
  have := pickI_bd k 4 (by omega); omega

theorem classI_bd (c : Int) : -1 ≤ classI c ∧ classI c ≤ 4 := by
  have := pickI_bd c 6 (by omega); unfold classI; split <;> omega

set_option maxHeartbeats 4000000 in
theorem perform_pub0 {w : World} {F : Nat → Prop} {s : Nat} {st : SiteSt} (h : SiteAt w F s st) (hst : st.ok) (o : OpI) (ho : o.ok) (v opened : Int) (hv0 : 0 ≤ v) (hv1 : v < 1000) (hk : pickI o.kind 4 = 0) :
    Calls Try.prog 13 #[snapV s, o.v, .int .i64 v, .int .i64 opened] w (PerfPost w F s st o v opened) := by
  have hA := hid h
  have hst' := hid hst
  have hb0 : (pickI o.kind 4 == 0) = true := by simpa using hk
  have hcl := classI_bd o.cls
  replace hk := hid hk
  have hpick := hid (pick_any o.kind 4 (w.alloc (.cells #[.int .i64 o.kind, .int .i64 o.cls, .int .i64 o.num] 33)) ho.kind.1 ho.kind.2 (by omega) (by omega))
  have hcls := hid ho.cls
  have hnum := hid ho.num
  clear h hst ho
  have hE0 : Ext w (w.alloc (.cells #[.int .i64 o.kind, .int .i64 o.cls, .int .i64 o.num] 33)) := (Mod.refl _ w).alloc _
  have hbox : (w.alloc (.cells #[.int .i64 o.kind, .int .i64 o.cls, .int .i64 o.num] 33)).heap[w.heap.size]? = some (.cells #[.int .i64 o.kind, .int .i64 o.cls, .int .i64 o.num] 33 (0, 0)) := heap_alloc_new w _
  have hsz : (w.alloc (.cells #[.int .i64 o.kind, .int .i64 o.cls, .int .i64 o.num] 33)).heap.size = w.heap.size + 1 := World.size_alloc _ _
  unfold OpI.v snapV
  replace hE0 := hid hE0
  replace hbox := hid hbox
  replace hsz := hid hsz
  go_enter Try.func13, Try.ntmps13
  go_wp2_with fail
  generalize (w.alloc (.cells #[.int .i64 o.kind, .int .i64 o.cls, .int .i64 o.num] 33)) = wa at hpick hE0 hbox hsz ⊢
  refine hpick.out.mono ?_; rintro e w' ⟨rfl, rfl⟩
  have k1 : wa.cell? ⟨w.heap.size, 1, none⟩ = some (.int .i64 o.cls) := by rw [cell_of hbox.out]; rfl
  have k2 : wa.cell? ⟨w.heap.size, 2, none⟩ = some (.int .i64 o.num) := by rw [cell_of hbox.out]; rfl
  go_wp2_with fail
  refine wp_region_sched (fun w' => w'.cell? ⟨w.heap.size, 1, none⟩ = some (.int .i64 o.cls) ∧ w'.cell? ⟨w.heap.size, 2, none⟩ = some (.int .i64 o.num)) [(0, true), (1, true), (2, true), (4, true), (5, true), (6, true), (3, false), (7, false), (8, false), (9, true), (10, true)] (by kernel_rfl) (by kernel_rfl) (by kernel_rfl) (by decide) ⟨k1, k2⟩ ?_
  simp only [schedOps, List.map_cons, List.map_nil, List.getD_cons_zero, List.getD_cons_succ]
  repeat (refine wpS_q (by rfl) ?_ (fun w' hC => ?_) ?_; rotate_left; (go_simp; try with_reducible rfl); simp only [Act.put, List.setIfInBounds_toArray, List.set_cons_zero, List.set_cons_succ])
  refine wpS_c (by rfl) (fun K hK => ?_)
  go_simp
  refine (class_any _ _ hcls.out.1 hcls.out.2).mono ?_; rintro e w' ⟨rfl, rfl⟩
  try dsimp only
  refine hK.out _ _ ⟨k1, k2⟩ ?_
  clear hK K
  try simp only [Act.put, List.setIfInBounds_toArray, List.set_cons_zero, List.set_cons_succ]
  refine wpS_c (by rfl) (fun K hK => ?_)
  go_simp
  refine (pages_any _ _ _ hnum.out.1 hnum.out.2 hv0 hv1).mono ?_; rintro e w2 ⟨x, rfl, hown, hE1⟩
  try dsimp only
  refine hK.out _ _ ⟨hE1.cell k1 (fun h => h), hE1.cell k2 (fun h => h)⟩ ?_
  clear hK K
  try simp only [Act.put, List.setIfInBounds_toArray, List.set_cons_zero, List.set_cons_succ]
  obtain ⟨ao, cap, rfl, hrow, hob⟩ := hown.row
  have hS2 : SiteAt w2 F s st := hA.out.mod (hE0.out.trans ((Mod.drew0 _ wa).trans hE1)) (fun _ _ h => h)
  have hF : ∀ k, F k → k ≠ w.heap.size := fun k hk e => by have := hA.out.lt k hk; omega
  have hx2 : Ext w w2 := hE0.out.trans ((Mod.drew0 _ wa).trans hE1)
  have k1' := hE1.cell k1 (fun h => h)
  have k2' := hE1.cell k2 (fun h => h)
  refine wpS_c (by rfl) (fun K hK => ?_)
  go_simp
  cases hcc : isClassB (classI o.cls) with
  | true =>
    refine (Publish_any hS2 (classI o.cls) (pagesL o.num v) ao cap false hrow (pagesL_ok _ _) (by have := pagesL_len o.num v; omega) hcc (pagesL_nodup _ _)).mono ?_
    rintro e w3 ⟨rfl, hm3, F', N, tb, hF', hN, hS3⟩
    try dsimp only
    refine hK.out _ _ ⟨hm3.cell k1' (fun h => hF _ h rfl), hm3.cell k2' (fun h => hF _ h rfl)⟩ ?_
    clear hK K
    have hfin : PerfPost w F s st o v opened (.returned (.tuple #[.int .i64 0, .int .i64 0])) w3 := by
      refine ⟨0, 0, _, F', rfl, (hx2.mono (fun _ h => h.elim)).trans hm3, fun k hk => ?_, hS3, .pub false hk.out hcc N tb (by have := hx2.size; omega)⟩
      rcases hF' k hk with h | h
      · exact .inl h
      · exact .inr (by have := hx2.size; omega)
    replace hfin := hid hfin
    clear hm3 hS3 hF' hS2 hrow hob hown hE1 hx2 k1 k2 k1' k2' hF hN hcc
    try simp only [Act.put, List.setIfInBounds_toArray, List.set_cons_zero, List.set_cons_succ]
    repeat (refine wpS_q (by rfl) ?_ (fun w' hC => ?_) ?_; rotate_left; (go_simp; try with_reducible rfl); simp only [Act.put, List.setIfInBounds_toArray, List.set_cons_zero, List.set_cons_succ])
    refine wpS_nil ?_
    go_wp2_with fail
    go_ret2
    exact hfin.out
  | false =>
    refine (Publish_class hS2 (classI o.cls) _ false hcc).mono ?_
    rintro e w3 ⟨rfl, rfl⟩
    try dsimp only
    refine hK.out _ _ ⟨k1', k2'⟩ ?_
    clear hK K
    have hfin : PerfPost w F s st o v opened (.returned (.tuple #[.int .i64 0, .int .i64 250])) w2 :=
      ⟨0, 250, st, F, rfl, hx2.mono (fun _ h => h.elim), fun k hk => .inl hk, hS2, .bad (.inl hk.out) hcc⟩
    replace hfin := hid hfin
    clear hS2 hrow hob hown hE1 hx2 k1 k2 k1' k2' hF hcc
    try simp only [Act.put, List.setIfInBounds_toArray, List.set_cons_zero, List.set_cons_succ]
    repeat (refine wpS_q (by rfl) ?_ (fun w' hC => ?_) ?_; rotate_left; (go_simp; try with_reducible rfl); simp only [Act.put, List.setIfInBounds_toArray, List.set_cons_zero, List.set_cons_succ])
    refine wpS_nil ?_
    go_wp2_with fail
    go_ret2
    exact hfin.out

set_option maxHeartbeats 4000000 in
theorem perform_pub1 {w : World} {F : Nat → Prop} {s : Nat} {st : SiteSt} (h : SiteAt w F s st) (hst : st.ok) (o : OpI) (ho : o.ok) (v opened : Int) (hv0 : 0 ≤ v) (hv1 : v < 1000) (hk : pickI o.kind 4 = 1) :
    Calls Try.prog 13 #[snapV s, o.v, .int .i64 v, .int .i64 opened] w (PerfPost w F s st o v opened) := by
  have hA := hid h
  have hst' := hid hst
  have hb0 : (pickI o.kind 4 == 0) = false := by rw [hk]; rfl
  have hb1 : (pickI o.kind 4 == 1) = true := by rw [hk]; rfl
  have hcl := classI_bd o.cls
  replace hk := hid hk
  have hpick := hid (pick_any o.kind 4 (w.alloc (.cells #[.int .i64 o.kind, .int .i64 o.cls, .int .i64 o.num] 33)) ho.kind.1 ho.kind.2 (by omega) (by omega))
  have hcls := hid ho.cls
  have hnum := hid ho.num
  clear h hst ho
  have hE0 : Ext w (w.alloc (.cells #[.int .i64 o.kind, .int .i64 o.cls, .int .i64 o.num] 33)) := (Mod.refl _ w).alloc _
  have hbox : (w.alloc (.cells #[.int .i64 o.kind, .int .i64 o.cls, .int .i64 o.num] 33)).heap[w.heap.size]? = some (.cells #[.int .i64 o.kind, .int .i64 o.cls, .int .i64 o.num] 33 (0, 0)) := heap_alloc_new w _
  have hsz : (w.alloc (.cells #[.int .i64 o.kind, .int .i64 o.cls, .int .i64 o.num] 33)).heap.size = w.heap.size + 1 := World.size_alloc _ _
  unfold OpI.v snapV
  replace hE0 := hid hE0
  replace hbox := hid hbox
  replace hsz := hid hsz
  go_enter Try.func13, Try.ntmps13
  go_wp2_with fail
  generalize (w.alloc (.cells #[.int .i64 o.kind, .int .i64 o.cls, .int .i64 o.num] 33)) = wa at hpick hE0 hbox hsz ⊢
  refine hpick.out.mono ?_; rintro e w' ⟨rfl, rfl⟩
  have k1 : wa.cell? ⟨w.heap.size, 1, none⟩ = some (.int .i64 o.cls) := by rw [cell_of hbox.out]; rfl
  have k2 : wa.cell? ⟨w.heap.size, 2, none⟩ = some (.int .i64 o.num) := by rw [cell_of hbox.out]; rfl
  go_wp2_with fail
  refine wp_region_sched (fun w' => w'.cell? ⟨w.heap.size, 1, none⟩ = some (.int .i64 o.cls) ∧ w'.cell? ⟨w.heap.size, 2, none⟩ = some (.int .i64 o.num)) [(0, true), (1, true), (2, true), (4, true), (5, true), (6, true), (3, false), (7, false), (8, false), (9, true), (10, true)] (by kernel_rfl) (by kernel_rfl) (by kernel_rfl) (by decide) ⟨k1, k2⟩ ?_
  simp only [schedOps, List.map_cons, List.map_nil, List.getD_cons_zero, List.getD_cons_succ]
  repeat (refine wpS_q (by rfl) ?_ (fun w' hC => ?_) ?_; rotate_left; (go_simp; try with_reducible rfl); simp only [Act.put, List.setIfInBounds_toArray, List.set_cons_zero, List.set_cons_succ])
  refine wpS_c (by rfl) (fun K hK => ?_)
  go_simp
  refine (class_any _ _ hcls.out.1 hcls.out.2).mono ?_; rintro e w' ⟨rfl, rfl⟩
  try dsimp only
  refine hK.out _ _ ⟨k1, k2⟩ ?_
  clear hK K
  try simp only [Act.put, List.setIfInBounds_toArray, List.set_cons_zero, List.set_cons_succ]
  refine wpS_c (by rfl) (fun K hK => ?_)
  go_simp
  refine (pages_any _ _ _ hnum.out.1 hnum.out.2 hv0 hv1).mono ?_; rintro e w2 ⟨x, rfl, hown, hE1⟩
  try dsimp only
  refine hK.out _ _ ⟨hE1.cell k1 (fun h => h), hE1.cell k2 (fun h => h)⟩ ?_
  clear hK K
  try simp only [Act.put, List.setIfInBounds_toArray, List.set_cons_zero, List.set_cons_succ]
  obtain ⟨ao, cap, rfl, hrow, hob⟩ := hown.row
  have hS2 : SiteAt w2 F s st := hA.out.mod (hE0.out.trans ((Mod.drew0 _ wa).trans hE1)) (fun _ _ h => h)
  have hF : ∀ k, F k → k ≠ w.heap.size := fun k hk e => by have := hA.out.lt k hk; omega
  have hx2 : Ext w w2 := hE0.out.trans ((Mod.drew0 _ wa).trans hE1)
  have k1' := hE1.cell k1 (fun h => h)
  have k2' := hE1.cell k2 (fun h => h)
  refine wpS_c (by rfl) (fun K hK => ?_)
  go_simp
  cases hcc : isClassB (classI o.cls) with
  | true =>
    refine (Publish_any hS2 (classI o.cls) (pagesL o.num v) ao cap true hrow (pagesL_ok _ _) (by have := pagesL_len o.num v; omega) hcc (pagesL_nodup _ _)).mono ?_
    rintro e w3 ⟨rfl, hm3, F', N, tb, hF', hN, hS3⟩
    try dsimp only
    refine hK.out _ _ ⟨hm3.cell k1' (fun h => hF _ h rfl), hm3.cell k2' (fun h => hF _ h rfl)⟩ ?_
    clear hK K
    have hfin : PerfPost w F s st o v opened (.returned (.tuple #[.int .i64 0, .int .i64 0])) w3 := by
      refine ⟨0, 0, _, F', rfl, (hx2.mono (fun _ h => h.elim)).trans hm3, fun k hk => ?_, hS3, .pub true hk.out hcc N tb (by have := hx2.size; omega)⟩
      rcases hF' k hk with h | h
      · exact .inl h
      · exact .inr (by have := hx2.size; omega)
    replace hfin := hid hfin
    clear hm3 hS3 hF' hS2 hrow hob hown hE1 hx2 k1 k2 k1' k2' hF hN hcc
    try simp only [Act.put, List.setIfInBounds_toArray, List.set_cons_zero, List.set_cons_succ]
    repeat (refine wpS_q (by rfl) ?_ (fun w' hC => ?_) ?_; rotate_left; (go_simp; try with_reducible rfl); simp only [Act.put, List.setIfInBounds_toArray, List.set_cons_zero, List.set_cons_succ])
    refine wpS_nil ?_
    go_wp2_with fail
    go_ret2
    exact hfin.out
  | false =>
    refine (Publish_class hS2 (classI o.cls) _ true hcc).mono ?_
    rintro e w3 ⟨rfl, rfl⟩
    try dsimp only
    refine hK.out _ _ ⟨k1', k2'⟩ ?_
    clear hK K
    have hfin : PerfPost w F s st o v opened (.returned (.tuple #[.int .i64 0, .int .i64 250])) w2 :=
      ⟨0, 250, st, F, rfl, hx2.mono (fun _ h => h.elim), fun k hk => .inl hk, hS2, .bad (.inr hk.out) hcc⟩
    replace hfin := hid hfin
    clear hS2 hrow hob hown hE1 hx2 k1 k2 k1' k2' hF hcc
    try simp only [Act.put, List.setIfInBounds_toArray, List.set_cons_zero, List.set_cons_succ]
    repeat (refine wpS_q (by rfl) ?_ (fun w' hC => ?_) ?_; rotate_left; (go_simp; try with_reducible rfl); simp only [Act.put, List.setIfInBounds_toArray, List.set_cons_zero, List.set_cons_succ])
    refine wpS_nil ?_
    go_wp2_with fail
    go_ret2
    exact hfin.out

set_option maxHeartbeats 4000000 in
theorem perform_open {w : World} {F : Nat → Prop} {s : Nat} {st : SiteSt} (h : SiteAt w F s st) (hst : st.ok) (o : OpI) (ho : o.ok) (v opened : Int) (hk : pickI o.kind 4 = 2) :
    Calls Try.prog 13 #[snapV s, o.v, .int .i64 v, .int .i64 opened] w (PerfPost w F s st o v opened) := by
  have hA := hid h
  have hst' := hid hst
  have hb0 : (pickI o.kind 4 == 0) = false := by rw [hk]; rfl
  have hb1 : (pickI o.kind 4 == 1) = false := by rw [hk]; rfl
  have hb2 : (pickI o.kind 4 == 2) = true := by rw [hk]; rfl
  have hcl := classI_bd o.cls
  replace hk := hid hk
  have hpick := hid (pick_any o.kind 4 (w.alloc (.cells #[.int .i64 o.kind, .int .i64 o.cls, .int .i64 o.num] 33)) ho.kind.1 ho.kind.2 (by omega) (by omega))
  have hcls := hid ho.cls
  have hnum := hid ho.num
  clear h hst ho
  have hE0 : Ext w (w.alloc (.cells #[.int .i64 o.kind, .int .i64 o.cls, .int .i64 o.num] 33)) := (Mod.refl _ w).alloc _
  have hbox : (w.alloc (.cells #[.int .i64 o.kind, .int .i64 o.cls, .int .i64 o.num] 33)).heap[w.heap.size]? = some (.cells #[.int .i64 o.kind, .int .i64 o.cls, .int .i64 o.num] 33 (0, 0)) := heap_alloc_new w _
  have hsz : (w.alloc (.cells #[.int .i64 o.kind, .int .i64 o.cls, .int .i64 o.num] 33)).heap.size = w.heap.size + 1 := World.size_alloc _ _
  unfold OpI.v snapV
  replace hE0 := hid hE0
  replace hbox := hid hbox
  replace hsz := hid hsz
  go_enter Try.func13, Try.ntmps13
  go_wp2_with fail
  generalize (w.alloc (.cells #[.int .i64 o.kind, .int .i64 o.cls, .int .i64 o.num] 33)) = wa at hpick hE0 hbox hsz ⊢
  refine hpick.out.mono ?_; rintro e w' ⟨rfl, rfl⟩
  have k1 : wa.cell? ⟨w.heap.size, 1, none⟩ = some (.int .i64 o.cls) := by rw [cell_of hbox.out]; rfl
  have k2 : wa.cell? ⟨w.heap.size, 2, none⟩ = some (.int .i64 o.num) := by rw [cell_of hbox.out]; rfl
  go_wp2_with fail
  refine (class_any _ _ hcls.out.1 hcls.out.2).mono ?_; rintro e w' ⟨rfl, rfl⟩
  go_wp2_with fail
  have hS2 : SiteAt wa F s st := hA.out.mod hE0.out (fun _ _ h => h)
  have hdec : openOk st (classI o.cls) = true ∨ (isClassB (classI o.cls) = false ∨ 16 ≤ st.ses.length) := by
    unfold openOk
    cases isClassB (classI o.cls)
    · exact .inr (.inl rfl)
    · by_cases h : st.ses.length < 16
      · left; simp [h]
      · exact .inr (.inr (by omega))
  rcases hdec with hd | hd
  · unfold openOk at hd
    rw [Bool.and_eq_true, decide_eq_true_eq] at hd
    refine (Open_any hS2 (classI o.cls) hst'.out.lo (by have := hst'.out.hi; omega) hd.1 hd.2 (fun q hq => (hst'.out.num q hq).2)).mono ?_
    rintro e w3 ⟨rfl, hm3, hS3⟩
    have hfin : PerfPost w F s st o v opened (.returned (.tuple #[.int .i64 (st.last + 1), .int .i64 0])) w3 :=
      ⟨_, 0, _, F, rfl, (hE0.out.mono (fun _ h => h.elim)).trans hm3, fun k hk => .inl hk, hS3, .opn hk.out hd.1 hd.2⟩
    replace hfin := hid hfin
    clear hm3 hS3 hS2 hd
    go_wp2_with fail
    go_ret2
    exact hfin.out
  · refine (Open_bad hS2 (classI o.cls) hd (by have := hst'.out.len; omega)).mono ?_
    rintro e w3 ⟨rfl, rfl⟩
    have hfin : PerfPost w F s st o v opened (.returned (.tuple #[.int .i64 0, .int .i64 250])) wa :=
      ⟨0, 250, st, F, rfl, hE0.out.mono (fun _ h => h.elim), fun k hk => .inl hk, hS2, .full hk.out hd⟩
    replace hfin := hid hfin
    clear hS2 hd
    go_wp2_with fail
    go_ret2
    exact hfin.out

set_option maxHeartbeats 4000000 in
theorem perform_close {w : World} {F : Nat → Prop} {s : Nat} {st : SiteSt} (h : SiteAt w F s st) (hst : st.ok) (o : OpI) (ho : o.ok) (v opened : Int) (hv0 : 0 ≤ opened) (hv1 : opened < 1000) (hk : pickI o.kind 4 = 3) :
    Calls Try.prog 13 #[snapV s, o.v, .int .i64 v, .int .i64 opened] w (PerfPost w F s st o v opened) := by
  have hA := hid h
  have hst' := hid hst
  have hb0 : (pickI o.kind 4 == 0) = false := by rw [hk]; rfl
  have hb1 : (pickI o.kind 4 == 1) = false := by rw [hk]; rfl
  have hb2 : (pickI o.kind 4 == 2) = false := by rw [hk]; rfl
  have hcl := classI_bd o.cls
  replace hk := hid hk
  have hpick := hid (pick_any o.kind 4 (w.alloc (.cells #[.int .i64 o.kind, .int .i64 o.cls, .int .i64 o.num] 33)) ho.kind.1 ho.kind.2 (by omega) (by omega))
  have hcls := hid ho.cls
  have hnum := hid ho.num
  clear h hst ho
  have hE0 : Ext w (w.alloc (.cells #[.int .i64 o.kind, .int .i64 o.cls, .int .i64 o.num] 33)) := (Mod.refl _ w).alloc _
  have hbox : (w.alloc (.cells #[.int .i64 o.kind, .int .i64 o.cls, .int .i64 o.num] 33)).heap[w.heap.size]? = some (.cells #[.int .i64 o.kind, .int .i64 o.cls, .int .i64 o.num] 33 (0, 0)) := heap_alloc_new w _
  have hsz : (w.alloc (.cells #[.int .i64 o.kind, .int .i64 o.cls, .int .i64 o.num] 33)).heap.size = w.heap.size + 1 := World.size_alloc _ _
  unfold OpI.v snapV
  replace hE0 := hid hE0
  replace hbox := hid hbox
  replace hsz := hid hsz
  go_enter Try.func13, Try.ntmps13
  go_wp2_with fail
  generalize (w.alloc (.cells #[.int .i64 o.kind, .int .i64 o.cls, .int .i64 o.num] 33)) = wa at hpick hE0 hbox hsz ⊢
  refine hpick.out.mono ?_; rintro e w' ⟨rfl, rfl⟩
  have k1 : wa.cell? ⟨w.heap.size, 1, none⟩ = some (.int .i64 o.cls) := by rw [cell_of hbox.out]; rfl
  have k2 : wa.cell? ⟨w.heap.size, 2, none⟩ = some (.int .i64 o.num) := by rw [cell_of hbox.out]; rfl
  go_wp2_with fail
  refine (session_any _ _ _ hnum.out.1 hnum.out.2 hv0 hv1).mono ?_; rintro e w' ⟨rfl, rfl⟩
  go_wp2_with fail
  have hS2 : SiteAt wa F s st := hA.out.mod hE0.out (fun _ _ h => h)
  refine (Close_any hS2 (sessionI o.num opened)).mono ?_
  rintro e w3 ⟨rfl, hm3, hS3⟩
  have hfin : PerfPost w F s st o v opened (.returned (.tuple #[.int .i64 0, .int .i64 (closeE st (sessionI o.num opened))])) w3 :=
    ⟨0, _, _, F, rfl, (hE0.out.mono (fun _ h => h.elim)).trans hm3, fun k hk => .inl hk, hS3, .cls hk.out⟩
  replace hfin := hid hfin
  clear hm3 hS3 hS2
  go_wp2_with fail
  go_ret2
  exact hfin.out

theorem perform_any {w : World} {F : Nat → Prop} {s : Nat} {st : SiteSt} (h : SiteAt w F s st) (hst : st.ok) (o : OpI) (ho : o.ok) (v opened : Int) (hv0 : 0 ≤ v) (hv1 : v < 1000) (hp0 : 0 ≤ opened) (hp1 : opened < 1000) :
    Calls Try.prog 13 #[snapV s, o.v, .int .i64 v, .int .i64 opened] w (PerfPost w F s st o v opened) := by
  rcases pickI4 o.kind with hk | hk | hk | hk
  · exact perform_pub0 h hst o ho v opened hv0 hv1 hk
  · exact perform_pub1 h hst o ho v opened hv0 hv1 hk
  · exact perform_open h hst o ho v opened hk
  · exact perform_close h hst o ho v opened hp0 hp1 hk
end Go.Proofs.Ytncmhcfhbogjnaa
