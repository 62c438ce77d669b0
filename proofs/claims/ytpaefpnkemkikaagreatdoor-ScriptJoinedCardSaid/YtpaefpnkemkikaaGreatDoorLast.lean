import Derived.Test.YtpaefpnkemkikaaGreatDoorAppend
namespace Scr
open Go Go.RowKit Cdk
def strV (s : Bs) : Value := .string ⟨s.toArray⟩
def strC (s : Bs) : List Value := [strV s]
def intC (n : Int) : List Value := [.int .i64 n]
theorem strC_len (s : Bs) : (strC s).length = 1 := rfl
theorem intC_len (n : Int) : (intC n).length = 1 := rfl
theorem strV_of (s : ByteArray) : strV s.data.toList = .string s := by unfold strV; simp
def RowAt {α : Type} (F : Nat -> Prop) (w : World) (f : α -> List Value) (v : Value) (l : List α) : Prop :=
 ∃ ao cap, v = .slice ao l.length cap /\ RowIs w ao (l.flatMap f) /\ (∀ b off, ao = some ⟨b, off, none⟩ -> 0 < cap -> F b) /\ l.length <= cap /\ (l.length <= 140737488355328 /\ cap <= 9223372036854775807) /\ (ao = none -> cap = 0)
section
variable {α : Type} {F F' S : Nat -> Prop} {w w' : World} {f : α -> List Value} {v : Value} {l : List α}
theorem RowAt.mod (h : RowAt F w f v l) (hm : Mod S w w') (hS : ∀ k, F k -> ¬ S k) : RowAt F w' f v l := by
 obtain ⟨ao, cap, rfl, hr, hb, hc⟩ := h
 rcases Nat.eq_zero_or_pos cap with h0 | h0
 ·have hl : l = [] := List.length_eq_zero_iff.1 (by omega)
  subst hl
  exact ⟨ao, cap, rfl, RowIs.nil _ _, hb, hc⟩
 ·exact ⟨ao, cap, rfl, hr.mod hm (fun b off e => hS b (hb b off e h0)), hb, hc⟩
theorem RowAt.ext (h : RowAt F w f v l) (hm : Ext w w') : RowAt F w' f v l := h.mod hm (fun _ _ h => h)
theorem RowAt.mono (h : RowAt F w f v l) (hF : ∀ k, F k -> F' k) : RowAt F' w f v l := by
 obtain ⟨ao, cap, rfl, hr, hb, hc⟩ := h
 exact ⟨ao, cap, rfl, hr, fun b off e h0 => hF b (hb b off e h0), hc⟩
theorem RowAt.nil (F : Nat -> Prop) (w : World) (f : α -> List Value) : RowAt F w f (.slice none 0 0) [] := ⟨none, 0, rfl, RowIs.nil _ _, (fun _ _ e => nomatch e), Nat.le_refl _, ⟨Nat.zero_le _, Nat.zero_le _⟩, fun _ => rfl⟩
theorem RowAt.slice (h : RowAt F w f v l) : ∃ ao cap, v = .slice ao l.length cap := by obtain ⟨ao, cap, rfl, _⟩ := h; exact ⟨_, _, rfl⟩
theorem RowAt.len (h : RowAt F w f v l) : l.length <= 140737488355328 := by obtain ⟨ao, cap, rfl, _, _, h1, h2, _⟩ := h; omega
theorem RowAt.one (h : RowAt F w f v l) : v.oneCell' = true := by obtain ⟨ao, cap, rfl, _⟩ := h; rfl
theorem RowAt.take (h : RowAt F w f v l) (size : Nat) (_hf : ∀ x, (f x).length = size) {n : Nat} (hn : n <= l.length) : ∃ ao cap, v = .slice ao l.length cap /\ n <= cap /\ RowAt F w f (.slice ao n cap) (l.take n) := by
 obtain ⟨ao, cap, rfl, hr, hb, h1, h2, h3⟩ := h
 have e : (l.take n).length = n := by rw [List.length_take]; omega
 refine ⟨ao, cap, rfl, by omega, ao, cap, by rw [e], fun j u hu => ?_, hb, by rw [e]; omega, ⟨by rw [e]; omega, h2.2⟩, h3⟩
 refine hr j u ?_
 have hs : l.flatMap f = (l.take n).flatMap f ++ (l.drop n).flatMap f := by rw [<- List.flatMap_append, List.take_append_drop]
 rw [hs, List.getElem?_append_left (List.getElem?_eq_some_iff.1 hu).1]; exact hu
theorem RowAt.get (h : RowAt F w f v l) (size : Nat) (hf : ∀ x, (f x).length = size) (hs : 0 < size) {j : Nat} (hj : j < l.length) :
  ∃ b off cap, v = .slice (some ⟨b, off, none⟩) l.length cap /\ F b /\ ∀ i u, i < size -> (f l[j])[i]? = some u -> w.cell? ⟨b, off + j * size + i, none⟩ = some u := by
 obtain ⟨ao, cap, rfl, hr, hb, hlc, -⟩ := h
 obtain ⟨b, off, rfl, hc⟩ := hr.at (by rw [flat_length _ size hf]; exact Nat.mul_pos (by omega) hs)
 refine ⟨b, off, cap, rfl, hb b off rfl (by omega), fun i u hi hu => ?_⟩
 have := hc _ _ ((flat_get f size hf l j i l[j] (List.getElem?_eq_getElem hj) hi).trans hu)
 rw [Nat.add_assoc]; exact this
end
abbrev IntsAt (F : Nat -> Prop) (w : World) (v : Value) (l : List Int) : Prop := RowAt F w intC v l
abbrev StrsAt (F : Nat -> Prop) (w : World) (v : Value) (l : List Bs) : Prop := RowAt F w strC v l
def lbC (v : Value) (l : Lb) : List Value := [.int .i64 l.til, v, .int .i64 l.app, .int .i64 l.den]
def bkC (p : Value × Bk) : List Value := [.int .i64 p.2.id, .int .i64 p.2.kd, strV p.2.tx, .int .i64 p.2.st, .int .i64 p.2.rf, .int .i64 p.2.lb.til, p.1, .int .i64 p.2.lb.app, .int .i64 p.2.lb.den]
theorem bkC_len (p : Value × Bk) : (bkC p).length = 9 := rfl
def BksAt (F : Nat -> Prop) (w : World) (v : Value) (l : List Bk) : Prop := ∃ rows : List (Value × Bk), rows.map Prod.snd = l /\ RowAt F w bkC v rows /\ ∀ p ∈ rows, IntsAt F w p.1 p.2.lb.aft
structure FV where
 tp : Value
 bl : Value
 af : Value
structure AV where
 fc : FV
 fa : Value
 ke : Value
def fcC (s : FV) (f : Fc) : List Value := [.int .i64 f.n, .int .i64 f.tm, .int .i64 f.kd, .int .i64 f.st, strV f.lg, .int .i64 f.rv, .int .i64 f.bs, strV f.ti, strV f.au, s.tp, s.bl, .int .i64 f.lb.til, s.af, .int .i64 f.lb.app, .int .i64 f.lb.den, .int .i64 f.ed, .int .i64 f.bk, .int .i64 f.se, strV f.tx, strV f.nm, .int .i64 f.pa, .int .i64 f.cl, .int .i64 f.un]
def msC (m : Ms) : List Value := [.int .i64 m.kd, .int .i64 m.pa, .int .i64 m.sq, .int .i64 m.st, .int .i64 m.ba, .int .i64 m.ve, strV m.da]
def acC (p : AV × Ac) : List Value := .int .i64 p.2.kd :: (fcC p.1.fc p.2.fc ++ ([.int .i64 p.2.n, .int .i64 p.2.cl, strV p.2.tx, p.1.fa, p.1.ke] ++ msC p.2.ms))
theorem acC_len (p : AV × Ac) : (acC p).length = 36 := rfl
structure FcAt (F : Nat -> Prop) (w : World) (s : FV) (f : Fc) : Prop where
 tp : StrsAt F w s.tp f.tp
 bl : BksAt F w s.bl f.bl
 af : IntsAt F w s.af f.lb.aft
structure AcAt (F : Nat -> Prop) (w : World) (s : AV) (a : Ac) : Prop where
 fc : FcAt F w s.fc a.fc
 fa : IntsAt F w s.fa a.fa
 ke : IntsAt F w s.ke a.ke
def AcsAt (F : Nat -> Prop) (w : World) (v : Value) (l : List Ac) : Prop := ∃ rows : List (AV × Ac), rows.map Prod.snd = l /\ RowAt F w acC v rows /\ ∀ p ∈ rows, AcAt F w p.1 p.2
section
variable {F F' S : Nat -> Prop} {w w' : World}
theorem BksAt.mod {v : Value} {l : List Bk} (h : BksAt F w v l) (hm : Mod S w w') (hS : ∀ k, F k -> ¬ S k) : BksAt F w' v l := by
 obtain ⟨r, e, h1, h2⟩ := h
 exact ⟨r, e, h1.mod hm hS, fun p hp => (h2 p hp).mod hm hS⟩
theorem BksAt.mono {v : Value} {l : List Bk} (h : BksAt F w v l) (hF : ∀ k, F k -> F' k) : BksAt F' w v l := by
 obtain ⟨r, e, h1, h2⟩ := h
 exact ⟨r, e, h1.mono hF, fun p hp => (h2 p hp).mono hF⟩
theorem BksAt.nil (F : Nat -> Prop) (w : World) : BksAt F w (.slice none 0 0) [] := ⟨[], rfl, RowAt.nil _ _ _, fun _ h => nomatch h⟩
theorem BksAt.slice {v : Value} {l : List Bk} (h : BksAt F w v l) : ∃ ao cap, v = .slice ao l.length cap := by
 obtain ⟨r, rfl, h1, -⟩ := h
 obtain ⟨ao, cap, rfl⟩ := h1.slice
 exact ⟨ao, cap, by rw [List.length_map]⟩
theorem BksAt.len {v : Value} {l : List Bk} (h : BksAt F w v l) : l.length <= 140737488355328 := by
 obtain ⟨r, rfl, h1, -⟩ := h
 rw [List.length_map]; exact h1.len
theorem BksAt.get {v : Value} {l : List Bk} (h : BksAt F w v l) {j : Nat} (hj : j < l.length) :
  ∃ b off cap af, v = .slice (some ⟨b, off, none⟩) l.length cap /\ F b /\ IntsAt F w af l[j].lb.aft /\ ∀ i u, i < 9 -> (bkC (af, l[j]))[i]? = some u -> w.cell? ⟨b, off + j * 9 + i, none⟩ = some u := by
 obtain ⟨r, rfl, h1, h2⟩ := h
 rw [List.length_map] at hj
 obtain ⟨b, off, cap, hv, hb, hc⟩ := h1.get 9 bkC_len (by decide) hj
 refine ⟨b, off, cap, r[j].1, by rw [List.length_map]; exact hv, hb, ?_, ?_⟩
 ·rw [List.getElem_map]; exact h2 _ (List.getElem_mem _)
 ·rw [List.getElem_map]; exact hc
theorem BksAt.take {v : Value} {l : List Bk} (h : BksAt F w v l) {n : Nat} (hn : n <= l.length) : ∃ ao cap, v = .slice ao l.length cap /\ n <= cap /\ BksAt F w (.slice ao n cap) (l.take n) := by
 obtain ⟨r, rfl, h1, h2⟩ := h
 rw [List.length_map] at hn ⊢
 obtain ⟨ao, cap, hv, hc, h3⟩ := h1.take 9 bkC_len hn
 exact ⟨ao, cap, hv, hc, r.take n, by rw [List.map_take], h3, fun p hp => h2 p (List.mem_of_mem_take hp)⟩
theorem FcAt.mod {s : FV} {f : Fc} (h : FcAt F w s f) (hm : Mod S w w') (hS : ∀ k, F k -> ¬ S k) : FcAt F w' s f := ⟨h.tp.mod hm hS, h.bl.mod hm hS, h.af.mod hm hS⟩
theorem FcAt.mono {s : FV} {f : Fc} (h : FcAt F w s f) (hF : ∀ k, F k -> F' k) : FcAt F' w s f := ⟨h.tp.mono hF, h.bl.mono hF, h.af.mono hF⟩
theorem AcAt.mod {s : AV} {a : Ac} (h : AcAt F w s a) (hm : Mod S w w') (hS : ∀ k, F k -> ¬ S k) : AcAt F w' s a := ⟨h.fc.mod hm hS, h.fa.mod hm hS, h.ke.mod hm hS⟩
theorem AcAt.mono {s : AV} {a : Ac} (h : AcAt F w s a) (hF : ∀ k, F k -> F' k) : AcAt F' w s a := ⟨h.fc.mono hF, h.fa.mono hF, h.ke.mono hF⟩
theorem AcAt.ext {s : AV} {a : Ac} (h : AcAt F w s a) (hm : Ext w w') : AcAt F w' s a := h.mod hm (fun _ _ h => h)
theorem FcAt.ext {s : FV} {a : Fc} (h : FcAt F w s a) (hm : Ext w w') : FcAt F w' s a := h.mod hm (fun _ _ h => h)
theorem BksAt.ext {s : Value} {a : List Bk} (h : BksAt F w s a) (hm : Ext w w') : BksAt F w' s a := h.mod hm (fun _ _ h => h)
theorem AcsAt.mod {v : Value} {l : List Ac} (h : AcsAt F w v l) (hm : Mod S w w') (hS : ∀ k, F k -> ¬ S k) : AcsAt F w' v l := by
 obtain ⟨r, e, h1, h2⟩ := h
 exact ⟨r, e, h1.mod hm hS, fun p hp => (h2 p hp).mod hm hS⟩
theorem AcsAt.ext {v : Value} {l : List Ac} (h : AcsAt F w v l) (hm : Ext w w') : AcsAt F w' v l := h.mod hm (fun _ _ h => h)
theorem AcsAt.mono {v : Value} {l : List Ac} (h : AcsAt F w v l) (hF : ∀ k, F k -> F' k) : AcsAt F' w v l := by
 obtain ⟨r, e, h1, h2⟩ := h
 exact ⟨r, e, h1.mono hF, fun p hp => (h2 p hp).mono hF⟩
theorem AcsAt.nil (F : Nat -> Prop) (w : World) : AcsAt F w (.slice none 0 0) [] := ⟨[], rfl, RowAt.nil _ _ _, fun _ h => nomatch h⟩
theorem AcsAt.slice {v : Value} {l : List Ac} (h : AcsAt F w v l) : ∃ ao cap, v = .slice ao l.length cap := by
 obtain ⟨r, rfl, h1, -⟩ := h
 obtain ⟨ao, cap, rfl⟩ := h1.slice
 exact ⟨ao, cap, by rw [List.length_map]⟩
theorem AcsAt.len {v : Value} {l : List Ac} (h : AcsAt F w v l) : l.length <= 140737488355328 := by
 obtain ⟨r, rfl, h1, -⟩ := h
 rw [List.length_map]; exact h1.len
theorem AcsAt.get {v : Value} {l : List Ac} (h : AcsAt F w v l) {j : Nat} (hj : j < l.length) :
  ∃ b off cap s, v = .slice (some ⟨b, off, none⟩) l.length cap /\ F b /\ AcAt F w s l[j] /\ ∀ i u, i < 36 -> (acC (s, l[j]))[i]? = some u -> w.cell? ⟨b, off + j * 36 + i, none⟩ = some u := by
 obtain ⟨r, rfl, h1, h2⟩ := h
 rw [List.length_map] at hj
 obtain ⟨b, off, cap, hv, hb, hc⟩ := h1.get 36 acC_len (by decide) hj
 refine ⟨b, off, cap, r[j].1, by rw [List.length_map]; exact hv, hb, ?_, ?_⟩
 ·rw [List.getElem_map]; exact h2 _ (List.getElem_mem _)
 ·rw [List.getElem_map]; exact hc
theorem BksAt.cells {ao : Option Addr} {n cap : Nat} {l : List Bk} (h : BksAt F w (.slice ao n cap) l) {j : Nat} (hj : j < l.length) :
  ∃ b off a1 m1 c1, ao = some ⟨b, off, none⟩ /\ n = l.length /\ F b /\ IntsAt F w (.slice a1 m1 c1) l[j].lb.aft ∧
   w.cell? ⟨b, off + j * 9, none⟩ = some (.int .i64 l[j].id) /\ w.cell? ⟨b, off + j * 9 + 1, none⟩ = some (.int .i64 l[j].kd) /\ w.cell? ⟨b, off + j * 9 + 2, none⟩ = some (.string ⟨l[j].tx.toArray⟩) /\ w.cell? ⟨b, off + j * 9 + 3, none⟩ = some (.int .i64 l[j].st) ∧
   w.cell? ⟨b, off + j * 9 + 4, none⟩ = some (.int .i64 l[j].rf) /\ w.cell? ⟨b, off + j * 9 + 5, none⟩ = some (.int .i64 l[j].lb.til) /\ w.cell? ⟨b, off + j * 9 + 6, none⟩ = some (.slice a1 m1 c1) /\ w.cell? ⟨b, off + j * 9 + 7, none⟩ = some (.int .i64 l[j].lb.app) /\ w.cell? ⟨b, off + j * 9 + 8, none⟩ = some (.int .i64 l[j].lb.den) := by
 obtain ⟨b, off, c, af, e, hF, hi, hc⟩ := h.get hj
 injection e with e1 e2 e3
 obtain ⟨a1, c1, rfl⟩ := hi.slice
 exact ⟨b, off, a1, _, c1, e1, e2, hF, hi, hc 0 _ (by decide) rfl, hc 1 _ (by decide) rfl, hc 2 _ (by decide) rfl, hc 3 _ (by decide) rfl, hc 4 _ (by decide) rfl, hc 5 _ (by decide) rfl, hc 6 _ (by decide) rfl, hc 7 _ (by decide) rfl, hc 8 _ (by decide) rfl⟩
theorem BksAt.count {ao : Option Addr} {n cap : Nat} {l : List Bk} (h : BksAt F w (.slice ao n cap) l) : n = l.length := by
 obtain ⟨a, c, e⟩ := h.slice
 injection e
end
end Scr
namespace Go.Proofs.YtpaefpnkemkikaaGreatDoor
open Go.RowKit Cdk Scr
abbrev y0 (n : Int) (tm : Int) (k1 : Int) (st : Int) (lg : Bs) (rv : Int) (bs : Int) (ti : Bs) (au : Bs) (a1 : Option Addr) (n1 : Nat) (c1 : Nat) (a2 : Option Addr) (n2 : Nat) (c2 : Nat) (til : Int) (a3 : Option Addr) (n3 : Nat) (c3 : Nat) (app : Int) (den : Int) (ed : Int) (bk : Int) (se : Int) (tx : Bs) (nm : Bs) (pa : Int) (cl : Int) (un : Int) : Array Value := #[.int .i64 n, .int .i64 tm, .int .i64 k1, .int .i64 st, .string ⟨lg.toArray⟩, .int .i64 rv, .int .i64 bs, .string ⟨ti.toArray⟩, .string ⟨au.toArray⟩, .slice a1 n1 c1, .slice a2 n2 c2, .int .i64 til, .slice a3 n3 c3, .int .i64 app, .int .i64 den, .int .i64 ed, .int .i64 bk, .int .i64 se, .string ⟨tx.toArray⟩, .string ⟨nm.toArray⟩, .int .i64 pa, .int .i64 cl, .int .i64 un]
abbrev y1 : List Value := [.int .i64 0, .int .i64 0, .int .i64 0, .int .i64 0, .string ⟨#[]⟩, .int .i64 0, .int .i64 0, .string ⟨#[]⟩, .string ⟨#[]⟩, .slice none 0 0, .slice none 0 0, .int .i64 0, .slice none 0 0, .int .i64 0, .int .i64 0, .int .i64 0, .int .i64 0, .int .i64 0, .string ⟨#[]⟩, .string ⟨#[]⟩, .int .i64 0, .int .i64 0, .int .i64 0]
abbrev y2 (n : Int) (tm : Int) (k1 : Int) (st : Int) (til : Int) (a3 : Option Addr) (n3 : Nat) (c3 : Nat) (app : Int) (den : Int) : Array Value := #[.int .i64 n, .int .i64 tm, .int .i64 k1, .int .i64 st, .string ⟨#[]⟩, .int .i64 0, .int .i64 0, .string ⟨#[]⟩, .string ⟨#[]⟩, .slice none 0 0, .slice none 0 0, .int .i64 til, .slice a3 n3 c3, .int .i64 app, .int .i64 den, .int .i64 0, .int .i64 0, .int .i64 0, .string ⟨#[]⟩, .string ⟨#[]⟩, .int .i64 0, .int .i64 0, .int .i64 0]
abbrev y3 (n : Int) (tm : Int) (k1 : Int) (pa : Int) (cl : Int) (un : Int) : Array Value := #[.int .i64 n, .int .i64 tm, .int .i64 k1, .int .i64 0, .string ⟨#[]⟩, .int .i64 0, .int .i64 0, .string ⟨#[]⟩, .string ⟨#[]⟩, .slice none 0 0, .slice none 0 0, .int .i64 0, .slice none 0 0, .int .i64 0, .int .i64 0, .int .i64 0, .int .i64 0, .int .i64 0, .string ⟨#[]⟩, .string ⟨#[]⟩, .int .i64 pa, .int .i64 cl, .int .i64 un]
abbrev y4 (f : Fc) (a1 : Option Addr) (n1 : Nat) (c1 : Nat) (a2 : Option Addr) (n2 : Nat) (c2 : Nat) (a3 : Option Addr) (n3 : Nat) (c3 : Nat) : Array Value := #[.int .i64 f.n, .int .i64 f.tm, .int .i64 f.kd, .int .i64 f.st, .string ⟨f.lg.toArray⟩, .int .i64 f.rv, .int .i64 f.bs, .string ⟨f.ti.toArray⟩, .string ⟨f.au.toArray⟩, .slice a1 n1 c1, .slice a2 n2 c2, .int .i64 f.lb.til, .slice a3 n3 c3, .int .i64 f.lb.app, .int .i64 f.lb.den, .int .i64 f.ed, .int .i64 f.bk, .int .i64 f.se, .string ⟨f.tx.toArray⟩, .string ⟨f.nm.toArray⟩, .int .i64 f.pa, .int .i64 f.cl, .int .i64 f.un]
abbrev y5 (f : Fc) (a1 : Option Addr) (n1 : Nat) (c1 : Nat) (a2 : Option Addr) (n2 : Nat) (c2 : Nat) (a3 : Option Addr) (n3 : Nat) (c3 : Nat) : List Value := [.int .i64 f.n, .int .i64 f.tm, .int .i64 f.kd, .int .i64 f.st, .string ⟨f.lg.toArray⟩, .int .i64 f.rv, .int .i64 f.bs, .string ⟨f.ti.toArray⟩, .string ⟨f.au.toArray⟩, .slice a1 n1 c1, .slice a2 n2 c2, .int .i64 f.lb.til, .slice a3 n3 c3, .int .i64 f.lb.app, .int .i64 f.lb.den, .int .i64 f.ed, .int .i64 f.bk, .int .i64 f.se, .string ⟨f.tx.toArray⟩, .string ⟨f.nm.toArray⟩, .int .i64 f.pa, .int .i64 f.cl, .int .i64 f.un]
abbrev y6 (k1 : Int) (fc : Fc) (a1 : Option Addr) (n1 : Nat) (c1 : Nat) (a2 : Option Addr) (n2 : Nat) (c2 : Nat) (a3 : Option Addr) (n3 : Nat) (c3 : Nat) (n : Int) (cl : Int) (tx : Bs) (a4 : Option Addr) (n4 : Nat) (c4 : Nat) (a5 : Option Addr) (n5 : Nat) (c5 : Nat) (ms : Ms) : Array Value := #[.int .i64 k1, .int .i64 fc.n, .int .i64 fc.tm, .int .i64 fc.kd, .int .i64 fc.st, .string ⟨fc.lg.toArray⟩, .int .i64 fc.rv, .int .i64 fc.bs, .string ⟨fc.ti.toArray⟩, .string ⟨fc.au.toArray⟩, .slice a1 n1 c1, .slice a2 n2 c2, .int .i64 fc.lb.til, .slice a3 n3 c3, .int .i64 fc.lb.app, .int .i64 fc.lb.den, .int .i64 fc.ed, .int .i64 fc.bk, .int .i64 fc.se, .string ⟨fc.tx.toArray⟩, .string ⟨fc.nm.toArray⟩, .int .i64 fc.pa, .int .i64 fc.cl, .int .i64 fc.un, .int .i64 n, .int .i64 cl, .string ⟨tx.toArray⟩, .slice a4 n4 c4, .slice a5 n5 c5, .int .i64 ms.kd, .int .i64 ms.pa, .int .i64 ms.sq, .int .i64 ms.st, .int .i64 ms.ba, .int .i64 ms.ve, .string ⟨ms.da.toArray⟩]
abbrev y7 (fc : Fc) (a1 : Option Addr) (n1 : Nat) (c1 : Nat) (a2 : Option Addr) (n2 : Nat) (c2 : Nat) (a3 : Option Addr) (n3 : Nat) (c3 : Nat) : List Value := [.int .i64 fc.n, .int .i64 fc.tm, .int .i64 fc.kd, .int .i64 fc.st, .string ⟨fc.lg.toArray⟩, .int .i64 fc.rv, .int .i64 fc.bs, .string ⟨fc.ti.toArray⟩, .string ⟨fc.au.toArray⟩, .slice a1 n1 c1, .slice a2 n2 c2, .int .i64 fc.lb.til, .slice a3 n3 c3, .int .i64 fc.lb.app, .int .i64 fc.lb.den, .int .i64 fc.ed, .int .i64 fc.bk, .int .i64 fc.se, .string ⟨fc.tx.toArray⟩, .string ⟨fc.nm.toArray⟩, .int .i64 fc.pa, .int .i64 fc.cl, .int .i64 fc.un]
abbrev y8 (n : Int) (cl : Int) (tx : Bs) (a4 : Option Addr) (n4 : Nat) (c4 : Nat) (a5 : Option Addr) (n5 : Nat) (c5 : Nat) (ms : Ms) : List Value := [.int .i64 n, .int .i64 cl, .string ⟨tx.toArray⟩, .slice a4 n4 c4, .slice a5 n5 c5, .int .i64 ms.kd, .int .i64 ms.pa, .int .i64 ms.sq, .int .i64 ms.st, .int .i64 ms.ba, .int .i64 ms.ve, .string ⟨ms.da.toArray⟩]
abbrev y9 (k1 : Int) (fc : Fc) (a1 : Option Addr) (n1 : Nat) (c1 : Nat) (a2 : Option Addr) (n2 : Nat) (c2 : Nat) (a3 : Option Addr) (n3 : Nat) (c3 : Nat) (n : Int) (cl : Int) (tx : Bs) (a4 : Option Addr) (n4 : Nat) (c4 : Nat) (a5 : Option Addr) (n5 : Nat) (c5 : Nat) : List Value := [.int .i64 k1, .int .i64 fc.n, .int .i64 fc.tm, .int .i64 fc.kd, .int .i64 fc.st, .string ⟨fc.lg.toArray⟩, .int .i64 fc.rv, .int .i64 fc.bs, .string ⟨fc.ti.toArray⟩, .string ⟨fc.au.toArray⟩, .slice a1 n1 c1, .slice a2 n2 c2, .int .i64 fc.lb.til, .slice a3 n3 c3, .int .i64 fc.lb.app, .int .i64 fc.lb.den, .int .i64 fc.ed, .int .i64 fc.bk, .int .i64 fc.se, .string ⟨fc.tx.toArray⟩, .string ⟨fc.nm.toArray⟩, .int .i64 fc.pa, .int .i64 fc.cl, .int .i64 fc.un, .int .i64 n, .int .i64 cl, .string ⟨tx.toArray⟩, .slice a4 n4 c4, .slice a5 n5 c5]
abbrev y10 (ms : Ms) : List Value := [.int .i64 ms.kd, .int .i64 ms.pa, .int .i64 ms.sq, .int .i64 ms.st, .int .i64 ms.ba, .int .i64 ms.ve, .string ⟨ms.da.toArray⟩]
abbrev y11 (kd : Int) (fc : Fc) (a1 : Option Addr) (n1 : Nat) (c1 : Nat) (a2 : Option Addr) (n2 : Nat) (c2 : Nat) (a3 : Option Addr) (n3 : Nat) (c3 : Nat) (n : Int) (cl : Int) (tx : Bs) (a4 : Option Addr) (n4 : Nat) (c4 : Nat) (a5 : Option Addr) (n5 : Nat) (c5 : Nat) (ms : Ms) : Array Value := #[.int .i64 kd, .int .i64 fc.n, .int .i64 fc.tm, .int .i64 fc.kd, .int .i64 fc.st, .string ⟨fc.lg.toArray⟩, .int .i64 fc.rv, .int .i64 fc.bs, .string ⟨fc.ti.toArray⟩, .string ⟨fc.au.toArray⟩, .slice a1 n1 c1, .slice a2 n2 c2, .int .i64 fc.lb.til, .slice a3 n3 c3, .int .i64 fc.lb.app, .int .i64 fc.lb.den, .int .i64 fc.ed, .int .i64 fc.bk, .int .i64 fc.se, .string ⟨fc.tx.toArray⟩, .string ⟨fc.nm.toArray⟩, .int .i64 fc.pa, .int .i64 fc.cl, .int .i64 fc.un, .int .i64 n, .int .i64 cl, .string ⟨tx.toArray⟩, .slice a4 n4 c4, .slice a5 n5 c5, .int .i64 ms.kd, .int .i64 ms.pa, .int .i64 ms.sq, .int .i64 ms.st, .int .i64 ms.ba, .int .i64 ms.ve, .string ⟨ms.da.toArray⟩]
end Go.Proofs.YtpaefpnkemkikaaGreatDoor
namespace Cdk
open Go Go.RowKit
def schedOk (md : Region.Mode) (ops : Array Oper) : List (Nat × Bool) -> Array Bool -> Bool
 | [], listed => (Region.ready md ops listed).isEmpty
 | (i, true) :: r, listed => (Region.ready md ops listed).contains i && Region.free md ops listed i && schedOk md ops r (listed.setIfInBounds i true)
 | (i, false) :: r, listed => Region.ready md ops listed == [i] && schedOk md ops r (listed.setIfInBounds i true)
section
variable {P : Program} {ops : Array Oper} {C : World -> Prop} {Q : Exit -> Act -> World -> Prop}
def wpS (P : Program) (ops : Array Oper) (C : World -> Prop) (Q : Exit -> Act -> World -> Prop) : List (Oper × Bool) -> Act -> World -> Prop
 | [], a, w => Q .normal a w
 | (o, true) :: r, a, w => ∃ v, YieldsIf P ops C o v a /\ wpS P ops C Q r (a.put o.dst v) w
 | (o, false) :: r, a, w =>
  if Region.wanted o (yielded ops a.tmps) = true then o.wp P a w (fun a' w' => C w' /\ wpS P ops C Q r a' w') Q else wpS P ops C Q r (a.put o.dst undef) w
def schedOps (ops : List Oper) (sch : List (Nat × Bool)) : List (Oper × Bool) := sch.map fun p => (ops.getD p.1 default, p.2)
theorem wpS_sound {md : Region.Mode} {l : List Oper} (hno : Region.noSelect l.toArray = true) (hQ : ∀ c a d v w, Q (.panic c) (Act.put a d v) w -> Q (.panic c) a w) :
  ∀ (sch : List (Nat × Bool)) (fuel : Nat) (listed : Array Bool) (a : Act) (w : World), sch.length <= fuel -> schedOk md l.toArray sch listed = true -> C w →
   wpS P l.toArray C Q (schedOps l sch) a w -> wpAnyH P md l.toArray Q C fuel listed a w
 | [], fuel, listed, a, w, _, hok, hC, h => by
  simp only [schedOk, List.isEmpty_iff] at hok
  exact wpAnyH_done hok h fuel
 | (i, true) :: r, 0, listed, a, w, hf, hok, hC, h => by simp at hf
 | (i, false) :: r, 0, listed, a, w, hf, hok, hC, h => by simp at hf
 | (i, true) :: r, fuel + 1, listed, a, w, hf, hok, hC, h => by
  simp only [schedOk, Bool.and_eq_true] at hok
  obtain ⟨⟨hr, hfree⟩, hok⟩ := hok
  obtain ⟨v, hy, h⟩ := h
  have hi : l.toArray[i]? = some (l.getD i default) := by
   have hm : i ∈ Region.ready md l.toArray listed := by simpa using hr
   have : i < l.length := by
    simp only [Region.ready, List.mem_filter, List.mem_range] at hm
    simpa using hm.1
   simp [List.getD, this]
  exact wpAnyH_take hi hno hfree hr (fun c a w h => hQ c a _ v w h) hy hC (wpS_sound hno hQ r fuel _ _ _ (by simpa using hf) hok hC h)
 | (i, false) :: r, fuel + 1, listed, a, w, hf, hok, hC, h => by
  simp only [schedOk, Bool.and_eq_true, beq_iff_eq] at hok
  obtain ⟨hr, hok⟩ := hok
  refine wpAnyH_all hr (by simp) ?_
  intro j hj
  simp at hj
  subst hj
  have hi : l.toArray[j]? = some (l.getD j default) := by
   have hm : j ∈ Region.ready md l.toArray listed := by rw [hr]; simp
   have : j < l.length := by
    simp only [Region.ready, List.mem_filter, List.mem_range] at hm
    simpa using hm.1
   simp [List.getD, this]
  unfold wpOp
  simp only [hi]
  simp only [schedOps, List.map_cons, wpS] at h
  by_cases hw : Region.wanted (l.getD j default) (yielded l.toArray a.tmps) = true
  ·rw [if_pos hw] at h ⊢
   exact .inl (Oper.wp_mono (fun a' w' ⟨hC', h'⟩ => ⟨hC', wpS_sound hno hQ r fuel _ _ _ (by simpa using hf) hok hC' h'⟩) h)
  ·rw [if_neg hw] at h ⊢
   exact ⟨hC, wpS_sound hno hQ r fuel _ _ _ (by simpa using hf) hok hC h⟩
theorem wp_region_sched {id : Nat} {l : List Oper} {a : Act} {w : World} (C : World -> Prop) (sch : List (Nat × Bool)) (hm : P.follows .mixedOrders = true)
  (hno : Region.noSelect l.toArray = true) (hok : schedOk .any l.toArray sch (Array.replicate l.length false) = true) (hlen : sch.length <= l.length)
  (hC : C w.drew) (h : wpS P l.toArray C (NoPanic Q) (schedOps l sch) a w.drew) : (Code.region id l.toArray true).wp P Q a w := by
 refine wp_region_noPanic (wp_region_held (S := C) hm ?_)
 have := wpS_sound (md := .any) hno (fun _ _ _ _ _ h => h) sch l.length (Array.replicate l.length false) a w.drew hlen hok hC h
 exact this
theorem wpS_nil {a : Act} {w : World} (h : Q .normal a w) : wpS P ops C (NoPanic Q) [] a w := h
theorem wpS_q {o : Oper} {r : List (Oper × Bool)} {a : Act} {w : World} (hg : Region.wanted o (yielded ops a.tmps) = true) (v : Value) (h1 : ∀ w', C w' -> (execOp a.eval o).run P w' = .ok (.value v) w')
  (h2 : wpS P ops C Q r (a.put o.dst v) w) : wpS P ops C Q ((o, true) :: r) a w := ⟨v, .inl ⟨hg, h1⟩, h2⟩
theorem wpS_no {o : Oper} {r : List (Oper × Bool)} {a : Act} {w : World} {b : Bool} (hg : Region.wanted o (yielded ops a.tmps) = false) (h2 : wpS P ops C Q r (a.put o.dst undef) w) : wpS P ops C Q ((o, b) :: r) a w := by
 cases b
 ·simp only [wpS, hg]; exact h2
 ·exact ⟨undef, .inr ⟨hg, rfl⟩, h2⟩
theorem wpS_c {o : Oper} {r : List (Oper × Bool)} {a : Act} {w : World} (hg : Region.wanted o (yielded ops a.tmps) = true)
  (h : ∀ K : Act -> World -> Prop, Hid (∀ a' w', C w' -> wpS P ops C Q r a' w' -> K a' w') -> o.wp P a w K Q) : wpS P ops C Q ((o, false) :: r) a w := by
 simp only [wpS, hg, if_true]
 exact h _ (fun a' w' h1 h2 => ⟨h1, h2⟩)
end
theorem qS {P : Program} {ops : Array Oper} {C : World -> Prop} {Q : Exit -> Act -> World -> Prop} {o : Oper} {r : List (Oper × Bool)} {a : Act} {w : World} {v : Value} (h2 : wpS P ops C Q r (a.put o.dst v) w)
  (hg : Region.wanted o (yielded ops a.tmps) = true := by rfl) (h1 : ∀ w', C w' -> (execOp a.eval o).run P w' = .ok (.value v) w' := by intro w' hC; go_simp; try with_reducible rfl) : wpS P ops C Q ((o, true) :: r) a w := wpS_q hg v h1 h2
theorem qT {P : Program} {ops : Array Oper} {C : World -> Prop} {Q : Exit -> Act -> World -> Prop} {o : Oper} {r : List (Oper × Bool)} {a a' : Act} {w : World} {v : Value} (h2 : wpS P ops C Q r a' w)
  (hg : Region.wanted o (yielded ops a.tmps) = true := by rfl) (h1 : ∀ w', C w' -> (execOp a.eval o).run P w' = .ok (.value v) w' := by intro w' hC; go_simp; try with_reducible rfl) (ha : a.put o.dst v = a' := by (simp only [Act.put, sA, sZ, sS]; exact rfl)) : wpS P ops C Q ((o, true) :: r) a w := wpS_q hg v h1 (ha ▸ h2)
theorem nT {P : Program} {ops : Array Oper} {C : World -> Prop} {Q : Exit -> Act -> World -> Prop} {o : Oper} {r : List (Oper × Bool)} {a a' : Act} {w : World} {b : Bool} (h2 : wpS P ops C Q r a' w)
  (hg : Region.wanted o (yielded ops a.tmps) = false := by rfl) (ha : a.put o.dst undef = a' := by (simp only [Act.put, sA, sZ, sS]; exact rfl)) : wpS P ops C Q ((o, b) :: r) a w := wpS_no hg (ha ▸ h2)
def pureOp (o : Oper) : Bool :=
 match o.op with
 | .move _ => true
 | .nilCheck _ => true
 | .fieldAddr _ _ _ => true
 | _ => false
def lastOp (md : Region.Mode) (ops : Array Oper) (j : Nat) : Bool :=
 match ops[j]? with
 | some o => (List.range ops.size).all fun i => i == j || (ops[i]?.map pureOp).getD false || o.after.any (fun e => Region.binds md e && e.on == i)
 | none => false
section
variable {P : Program} {ops : Array Oper} {Q : Exit -> Act -> World -> Prop} {md : Region.Mode} {S : World -> Prop}
theorem lastOp_spec {j i : Nat} {oj oi : Oper} (h : lastOp md ops j = true) (hj : ops[j]? = some oj) (hi : ops[i]? = some oi) (hp : pureOp oi = false) (hne : j ≠ i) : ∃ e ∈ oj.after, Region.binds md e = true /\ e.on = i := by
 unfold lastOp at h
 rw [hj] at h
 simp only [List.all_eq_true, List.mem_range, Bool.or_eq_true, beq_iff_eq] at h
 rcases h i (Array.getElem?_eq_some_iff.1 hi).1 with (h | h) | h
 ·exact absurd h.symm hne
 ·rw [hi] at h; simp [hp] at h
 ·rw [Array.any_eq_true'] at h
  obtain ⟨e, he, h⟩ := h
  simp only [Bool.and_eq_true, beq_iff_eq] at h
  exact ⟨e, he, h.1, h.2⟩
def wpAnyL (P : Program) (md : Region.Mode) (ops : Array Oper) (Q : Exit -> Act -> World -> Prop) (S : World -> Prop) : Nat -> Array Bool -> Act -> World -> Prop
 | 0, listed, a, w => Region.ready md ops listed = [] /\ Q .normal a w
 | fuel + 1, listed, a, w =>
  (Region.ready md ops listed = [] -> Q .normal a w) ∧
  ∀ i ∈ Region.ready md ops listed, wpOp P ops Q i (fun a' w' => (S w -> lastOp md ops i = true \/ S w') /\ wpAnyL P md ops Q S fuel (listed.setIfInBounds i true) a' w') a w
theorem wpAny_of_last : ∀ (fuel : Nat) (listed : Array Bool) (a : Act) (w : World), wpAnyL P md ops Q S fuel listed a w -> wpAny P md ops Q fuel listed a w
 | 0, _, _, _, h => h
 | fuel + 1, _, _, _, h => ⟨h.1, fun i hi => wpOp_mono (fun a' w' h' => wpAny_of_last fuel _ a' w' h'.2) (h.2 i hi)⟩
theorem wpAnyL_first {i : Nat} {oi : Oper} {v : Value} (hi : ops[i]? = some oi) (hp : pureOp oi = false) (hsel : ∀ (j : Nat) (o : Oper) cs b, ops[j]? = some o -> o.op ≠ .select cs b)
  (hQ : ∀ c a w, Q (.panic c) (a.put oi.dst v) w -> Q (.panic c) a w) :
  ∀ (fuel : Nat) (listed : Array Bool) (a : Act) (w : World),
   (∀ j oj, ops[j]? = some oj -> j ≠ i -> listed.getD j true = false -> (∀ e ∈ oj.after, Region.binds md e = true -> e.on ≠ i) -> oi.apart ops oj = true) →
   i ∈ Region.ready md ops listed -> YieldsIf P ops S oi v a -> S w →
   wpAnyL P md ops Q S fuel (listed.setIfInBounds i true) (a.put oi.dst v) w -> wpAnyL P md ops Q S (fuel + 1) listed a w := by
 intro fuel
 induction fuel with
 | zero =>
  intro listed a w _ hr hy hS H
  refine ⟨fun h => (by rw [h] at hr; cases hr), fun j hj => ?_⟩
  by_cases hji : j = i
  ·subst hji; exact hy.wpOp hi hS ⟨.inr, H⟩
  ·have := ready_mono hj hji
   rw [H.1] at this
   cases this
 | succ fuel ih =>
  intro listed a w hfree hr hy hS H
  refine ⟨fun h => (by rw [h] at hr; cases hr), fun j hj => ?_⟩
  by_cases hji : j = i
  ·subst hji; exact hy.wpOp hi hS ⟨.inr, H⟩
  ·have h1 := H.2 j (ready_mono hj hji)
   obtain ⟨hjun, oj, hoj, hall⟩ := mem_ready.1 hj
   have hnot : ∀ e ∈ oj.after, Region.binds md e = true -> e.on ≠ i := fun e he hb heq => by
    have h1 := hall e he hb
    have h0 := (mem_ready.1 hr).1
    rw [heq] at h1
    rcases Nat.lt_or_ge i listed.size with h' | h'
    ·simp [h'] at h0 h1; rw [h0] at h1; cases h1
    ·simp [Array.getElem?_eq_none h'] at h1
   have hnl : ∀ w' : World, (S w -> lastOp md ops j = true \/ S w') -> S w' := fun w' h => by
    rcases h hS with h | h
    ·obtain ⟨e, he, hb, ho⟩ := lastOp_spec h hoj hi hp hji
     exact absurd ho (hnot e he hb)
    ·exact h
   have h2 := wpOp_putIf hoj (hfree j oj hoj hji hjun hnot) (fun cs b => hsel i oi cs b hi) (fun cs b => hsel j oj cs b hoj) hQ hy h1
   have hfree' : ∀ k ok, ops[k]? = some ok -> k ≠ i -> (listed.setIfInBounds j true).getD k true = false →
     (∀ e ∈ ok.after, Region.binds md e = true -> e.on ≠ i) -> oi.apart ops ok = true := fun k ok hk hki hun hno => by
    refine hfree k ok hk hki ?_ hno
    by_cases hjk : j = k
    ·subst hjk; exact hjun
    ·rw [getD_set_ne true hjk] at hun; exact hun
   refine wpOp_mono (fun a' w' h3 => ⟨fun _ => .inr (hnl w' h3.2.1), ih (listed.setIfInBounds j true) a' w' hfree' (ready_mono hr (Ne.symm hji)) h3.1 (hnl w' h3.2.1) ?_⟩) h2
   rw [Array.setIfInBounds_comm _ _ hji]
   exact h3.2.2
theorem wpAnyL_firstP {i : Nat} {oi : Oper} {v : Value} (hi : ops[i]? = some oi) (hsel : ∀ (j : Nat) (o : Oper) cs b, ops[j]? = some o -> o.op ≠ .select cs b)
  (hQ : ∀ c a w, Q (.panic c) (a.put oi.dst v) w -> Q (.panic c) a w) :
  ∀ (fuel : Nat) (listed : Array Bool) (a : Act) (w : World),
   (∀ j oj, ops[j]? = some oj -> j ≠ i -> listed.getD j true = false -> (∀ e ∈ oj.after, Region.binds md e = true -> e.on ≠ i) -> oi.apart ops oj = true) →
   i ∈ Region.ready md ops listed -> YieldsIf P ops (fun _ => True) oi v a →
   wpAnyL P md ops Q S fuel (listed.setIfInBounds i true) (a.put oi.dst v) w -> wpAnyL P md ops Q S (fuel + 1) listed a w := by
 intro fuel
 induction fuel with
 | zero =>
  intro listed a w _ hr hy H
  refine ⟨fun h => (by rw [h] at hr; cases hr), fun j hj => ?_⟩
  by_cases hji : j = i
  ·subst hji; exact hy.wpOp hi trivial ⟨.inr, H⟩
  ·have := ready_mono hj hji
   rw [H.1] at this
   cases this
 | succ fuel ih =>
  intro listed a w hfree hr hy H
  refine ⟨fun h => (by rw [h] at hr; cases hr), fun j hj => ?_⟩
  by_cases hji : j = i
  ·subst hji; exact hy.wpOp hi trivial ⟨.inr, H⟩
  ·have h1 := H.2 j (ready_mono hj hji)
   obtain ⟨hjun, oj, hoj, hall⟩ := mem_ready.1 hj
   have hnot : ∀ e ∈ oj.after, Region.binds md e = true -> e.on ≠ i := fun e he hb heq => by
    have h1 := hall e he hb
    have h0 := (mem_ready.1 hr).1
    rw [heq] at h1
    rcases Nat.lt_or_ge i listed.size with h' | h'
    ·simp [h'] at h0 h1; rw [h0] at h1; cases h1
    ·simp [Array.getElem?_eq_none h'] at h1
   have h2 := wpOp_putIf hoj (hfree j oj hoj hji hjun hnot) (fun cs b => hsel i oi cs b hi) (fun cs b => hsel j oj cs b hoj) hQ hy h1
   have hfree' : ∀ k ok, ops[k]? = some ok -> k ≠ i -> (listed.setIfInBounds j true).getD k true = false →
     (∀ e ∈ ok.after, Region.binds md e = true -> e.on ≠ i) -> oi.apart ops ok = true := fun k ok hk hki hun hno => by
    refine hfree k ok hk hki ?_ hno
    by_cases hjk : j = k
    ·subst hjk; exact hjun
    ·rw [getD_set_ne true hjk] at hun; exact hun
   refine wpOp_mono (fun a' w' h3 => ⟨h3.2.1, ih (listed.setIfInBounds j true) a' w' hfree' (ready_mono hr (Ne.symm hji)) h3.1 ?_⟩) h2
   rw [Array.setIfInBounds_comm _ _ hji]
   exact h3.2.2
theorem wpAnyL_take {i : Nat} {oi : Oper} {v : Value} {fuel : Nat} {listed : Array Bool} {a : Act} {w : World} (hi : ops[i]? = some oi)
  (hs : Region.noSelect ops = true) (hf : Region.free md ops listed i = true) (hr : (Region.ready md ops listed).contains i = true)
  (hQ : ∀ c a w, Q (.panic c) (a.put oi.dst v) w -> Q (.panic c) a w) (hy : YieldsIf P ops (fun _ => True) oi v a \/ (pureOp oi = false /\ YieldsIf P ops S oi v a /\ S w))
  (h : wpAnyL P md ops Q S fuel (listed.setIfInBounds i true) (a.put oi.dst v) w) : wpAnyL P md ops Q S (fuel + 1) listed a w :=
by
 rcases hy with hy | ⟨hp, hy, hS⟩
 ·exact wpAnyL_firstP hi (Region.noSelect_spec hs) hQ fuel listed a w (Region.free_spec hi hf) (by simpa using hr) hy h
 ·exact wpAnyL_first hi hp (Region.noSelect_spec hs) hQ fuel listed a w (Region.free_spec hi hf) (by simpa using hr) hy hS h
theorem wpAnyL_all {rs : List Nat} {fuel : Nat} {listed : Array Bool} {a : Act} {w : World} (hr : Region.ready md ops listed = rs) (hne : rs ≠ [])
  (h : ∀ i ∈ rs, wpOp P ops Q i (fun a' w' => (S w -> lastOp md ops i = true \/ S w') /\ wpAnyL P md ops Q S fuel (listed.setIfInBounds i true) a' w') a w) : wpAnyL P md ops Q S (fuel + 1) listed a w :=
 ⟨fun h0 => absurd (hr ▸ h0) hne, hr ▸ h⟩
theorem wpAnyL_done {listed : Array Bool} {a : Act} {w : World} (hr : Region.ready md ops listed = []) (h : Q .normal a w) :
  ∀ fuel, wpAnyL P md ops Q S fuel listed a w
 | 0 => ⟨hr, h⟩
 | _ + 1 => ⟨fun _ => h, by rw [hr]; simp⟩
end
def schedOkL (md : Region.Mode) (ops : Array Oper) : List (Nat × Bool) -> Array Bool -> Bool
 | [], listed => (Region.ready md ops listed).isEmpty
 | (i, true) :: r, listed => (Region.ready md ops listed).contains i && Region.free md ops listed i && schedOkL md ops r (listed.setIfInBounds i true)
 | (i, false) :: r, listed => Region.ready md ops listed == [i] && (!r.isEmpty || lastOp md ops i) && schedOkL md ops r (listed.setIfInBounds i true)
section
variable {P : Program} {ops : Array Oper} {C : World -> Prop} {Q : Exit -> Act -> World -> Prop}
def wpT (P : Program) (ops : Array Oper) (C : World -> Prop) (Q : Exit -> Act -> World -> Prop) : List (Oper × Bool) -> Act -> World -> Prop
 | [], a, w => Q .normal a w
 | (o, true) :: r, a, w => ∃ v, (YieldsIf P ops (fun _ => True) o v a \/ (pureOp o = false /\ YieldsIf P ops C o v a)) /\ wpT P ops C Q r (a.put o.dst v) w
 | (o, false) :: r, a, w =>
  if Region.wanted o (yielded ops a.tmps) = true then o.wp P a w (fun a' w' => (r = [] \/ C w') /\ wpT P ops C Q r a' w') Q else wpT P ops C Q r (a.put o.dst undef) w
theorem wpT_sound {md : Region.Mode} {l : List Oper} (hno : Region.noSelect l.toArray = true) (hQ : ∀ c a d v w, Q (.panic c) (Act.put a d v) w -> Q (.panic c) a w) :
  ∀ (sch : List (Nat × Bool)) (fuel : Nat) (listed : Array Bool) (a : Act) (w : World), sch.length <= fuel -> schedOkL md l.toArray sch listed = true -> C w →
   wpT P l.toArray C Q (schedOps l sch) a w -> wpAnyL P md l.toArray Q C fuel listed a w
 | [], fuel, listed, a, w, _, hok, hC, h => by
  simp only [schedOkL, List.isEmpty_iff] at hok
  exact wpAnyL_done hok h fuel
 | (i, true) :: r, 0, listed, a, w, hf, hok, hC, h => by simp at hf
 | (i, false) :: r, 0, listed, a, w, hf, hok, hC, h => by simp at hf
 | (i, true) :: r, fuel + 1, listed, a, w, hf, hok, hC, h => by
  simp only [schedOkL, Bool.and_eq_true] at hok
  obtain ⟨⟨hr, hfree⟩, hok⟩ := hok
  obtain ⟨v, hy, h⟩ := h
  have hi : l.toArray[i]? = some (l.getD i default) := by
   have hm : i ∈ Region.ready md l.toArray listed := by simpa using hr
   have : i < l.length := by
    simp only [Region.ready, List.mem_filter, List.mem_range] at hm
    simpa using hm.1
   simp [List.getD, this]
  exact wpAnyL_take hi hno hfree hr (fun c a w h => hQ c a _ v w h) (hy.imp id (fun h => ⟨h.1, h.2, hC⟩)) (wpT_sound hno hQ r fuel _ _ _ (by simpa using hf) hok hC h)
 | (i, false) :: r, fuel + 1, listed, a, w, hf, hok, hC, h => by
  simp only [schedOkL, Bool.and_eq_true, beq_iff_eq] at hok
  obtain ⟨⟨hr, hlast⟩, hok⟩ := hok
  refine wpAnyL_all hr (by simp) ?_
  intro j hj
  simp at hj
  subst hj
  have hi : l.toArray[j]? = some (l.getD j default) := by
   have hm : j ∈ Region.ready md l.toArray listed := by rw [hr]; simp
   have : j < l.length := by
    simp only [Region.ready, List.mem_filter, List.mem_range] at hm
    simpa using hm.1
   simp [List.getD, this]
  unfold wpOp
  simp only [hi]
  simp only [schedOps, List.map_cons, wpT] at h
  by_cases hw : Region.wanted (l.getD j default) (yielded l.toArray a.tmps) = true
  ·rw [if_pos hw] at h ⊢
   refine .inl (Oper.wp_mono (fun a' w' ⟨hC', h'⟩ => ⟨fun _ => hC'.imp (fun h0 => by cases r with | nil => simpa using hlast | cons x r => simp at h0) id, ?_⟩) h)
   cases r with
   | nil => exact wpAnyL_done (by simpa [schedOkL, List.isEmpty_iff] using hok) h' fuel
   | cons x r => exact wpT_sound hno hQ (x :: r) fuel _ _ _ (by simpa using hf) hok (hC'.resolve_left (by simp)) h'
  ·rw [if_neg hw] at h ⊢
   exact ⟨.inr, wpT_sound hno hQ r fuel _ _ _ (by simpa using hf) hok hC h⟩
theorem wp_region_schedE {id : Nat} {l : List Oper} {a : Act} {w : World} (C : World -> Prop) (sch : List (Nat × Bool)) (hm : P.follows .mixedOrders = true)
  (hno : Region.noSelect l.toArray = true) (hok : schedOkL .any l.toArray sch (Array.replicate l.length false) = true) (hlen : sch.length <= l.length)
  (hC : C w.drew) (h : wpT P l.toArray C (NoPanic Q) (schedOps l sch) a w.drew) : (Code.region id l.toArray true).wp P Q a w := by
 refine wp_region_noPanic (wp_region_any hm (wpAny_of_last (S := C) _ _ _ _ ?_))
 have := wpT_sound (md := .any) hno (fun _ _ _ _ _ h => h) sch l.length (Array.replicate l.length false) a w.drew hlen hok hC h
 exact this
theorem wpT_q {o : Oper} {r : List (Oper × Bool)} {a : Act} {w : World} (hp : pureOp o = false) (hg : Region.wanted o (yielded ops a.tmps) = true) (v : Value) (h1 : ∀ w', C w' -> (execOp a.eval o).run P w' = .ok (.value v) w')
  (h2 : wpT P ops C Q r (a.put o.dst v) w) : wpT P ops C Q ((o, true) :: r) a w := ⟨v, .inr ⟨hp, .inl ⟨hg, h1⟩⟩, h2⟩
theorem wpT_p {o : Oper} {r : List (Oper × Bool)} {a : Act} {w : World} (_hp : pureOp o = true) (hg : Region.wanted o (yielded ops a.tmps) = true) (v : Value) (h1 : ∀ w', True -> (execOp a.eval o).run P w' = .ok (.value v) w')
  (h2 : wpT P ops C Q r (a.put o.dst v) w) : wpT P ops C Q ((o, true) :: r) a w := ⟨v, .inl (.inl ⟨hg, h1⟩), h2⟩
theorem wpT_c {o : Oper} {r : List (Oper × Bool)} {a : Act} {w : World} (hg : Region.wanted o (yielded ops a.tmps) = true)
  (h : ∀ K : Act -> World -> Prop, Hid (∀ a' w', C w' -> wpT P ops C Q r a' w' -> K a' w') -> o.wp P a w K Q) : wpT P ops C Q ((o, false) :: r) a w := by
 simp only [wpT, hg, if_true]
 exact h _ (fun a' w' h1 h2 => ⟨.inr h1, h2⟩)
theorem wpT_e {o : Oper} {a : Act} {w : World} (hg : Region.wanted o (yielded ops a.tmps) = true)
  (h : ∀ K : Act -> World -> Prop, Hid (∀ a' w', Q .normal a' w' -> K a' w') -> o.wp P a w K (NoPanic Q)) : wpT P ops C (NoPanic Q) [(o, false)] a w := by
 simp only [wpT, hg, if_true]
 exact h _ (fun a' w' h1 => ⟨.inl trivial, h1⟩)
end
end Cdk
