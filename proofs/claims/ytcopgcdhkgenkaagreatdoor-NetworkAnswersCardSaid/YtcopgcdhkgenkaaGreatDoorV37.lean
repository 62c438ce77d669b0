import Derived.Test.YtcopgcdhkgenkaaGreatDoorPK13
set_option linter.all false
set_option maxRecDepth 100000
set_option maxHeartbeats 16000000
namespace Go.Proofs.YtcopgcdhkgenkaaGreatDoor.Ps
open Go.RowKit Cdk Tpl
theorem part_num {c:UInt8} {r:Bs} {k:Nat} {w:Bs} {n:Nat} {t:Bs} (h:Tpl.part c r=some (k,w,n,t)) (hk:k=3):numOk w:=by
 subst hk;unfold Tpl.part at h
 by_cases h1:isL c=true
 ·rw [if_pos h1] at h
  simp only at h;split at h
  ·cases h
  ·simp at h
 ·rw [if_neg h1] at h
  by_cases h2:isD c=true
  ·rw [if_pos h2] at h
   simp only at h;split at h
   ·cases h
   ·rename_i h3
    simp only [Option.some.injEq,Prod.mk.injEq,true_and] at h;obtain ⟨rfl,-,-⟩:=h;simp only [Bool.or_eq_true,Bool.and_eq_true,decide_eq_true_eq,not_or] at h3;refine ⟨by simp,by omega,fun d hd=>?_⟩;simp only [List.mem_cons] at hd;rcases hd with rfl | hd
    ·exact h2
    ·exact List.all_eq_true.1 List.all_takeWhile d hd
  ·rw [if_neg h2] at h
   by_cases h3:c.toNat=34
   ·rw [if_pos h3] at h
    simp only at h;split at h
    ·cases h
    ·split at h
     ·simp at h
     ·cases h
   ·rw [if_neg h3] at h
    split at h
    ·simp at h
    ·split at h
     ·simp at h
     ·cases h
theorem scan_num:∀ (f:Nat) (s:Bs) (off:Nat) (tag:Option Nat) (t:Tk),t ∈ Tpl.scan f s off tag -> t.kind=3 -> numOk t.text
 | 0,_,_,_,t,ht,_=>by simp [Tpl.scan] at ht
 | _+1,[],_,none,t,ht,_=>by simp [Tpl.scan] at ht
 | _+1,[],_,some tag,t,ht,hk=>by
  simp only [Tpl.scan,List.mem_singleton] at ht;subst ht;cases hk
 | f+1,c::r,off,none,t,ht,hk=>by
  cases hb:opensB (c::r) with
  | true=>
   rw [scan_open hb] at ht;simp only [List.mem_cons] at ht;rcases ht with rfl | ht
   ·cases hk
   ·exact scan_num f _ _ _ t ht hk
  | false=>
   rw [scan_lit hb] at ht;split at ht
   ·simp only [List.mem_cons] at ht
    rcases ht with rfl | ht
    ·cases hk
    ·exact scan_num f _ _ _ t ht hk
   ·simp only [List.mem_singleton] at ht
    subst ht;cases hk
 | f+1,c::r,off,some tag,t,ht,hk=>by
  rw [Tpl.scan.eq_def] at ht;simp only at ht;split at ht
  ·exact scan_num f _ _ _ t ht hk
  ·cases hp:Tpl.part c r with
   | none=>
    rw [hp] at ht;simp only [List.mem_singleton] at ht;subst ht;cases hk
   | some x=>
    obtain ⟨k,w,n,u⟩:=x;rw [hp] at ht;simp only [List.mem_cons] at ht;rcases ht with rfl | ht
    ·exact part_num hp hk
    ·exact scan_num f _ _ _ t ht hk
theorem tokens_num {s:Bs} {ts:List Tk} (h:tokens s=.ok ts):NumOk ts/\ts.length<=s.length+1/\s.length<=1000:=by
 unfold tokens at h;split at h
 ·cases h
 ·simp only at h
  split at h
  ·cases h
  ·injection h with h
   subst h;exact ⟨fun t ht hk=>scan_num _ _ _ _ t ht hk,by have:=scan_len (s.length+1) s 0 none;omega,by omega⟩
theorem catch_panicking (p q r:Nat) (x y z:Value) (a:Nat) (older:List PanicEntry) (w:World) (hp:w.heap[p]?=some (.cells #[x] 516 (0,0))) (hq:w.heap[q]?=some (.cells #[y] 3 (0,0))) (hr:w.heap[r]?=some (.cells #[z] 26 (0,0))) (hpq:p ≠ q) (hpr:p ≠ r) (hqr:q ≠ r):
  CallsD Tryz.prog 398 #[.pointer (some ⟨p,0,none⟩),.pointer (some ⟨q,0,none⟩),.pointer (some ⟨r,0,none⟩)] (.panicking (misE a::older)) w fun e u' w'=>
   e=.returned (.tuple #[])/\u'=.panicking ({ v:=.iface 602 (.int .i64 a),recovered:=true }::older)/\w'=((w.setCell ⟨p,0,none⟩ (.slice none 0 0)).setCell ⟨q,0,none⟩ (.int .i64 a)).setCell ⟨r,0,none⟩ (.int .i64 100):=by
 have c0:w.cell? ⟨p,0,none⟩=some x:=cell_of' hp 0;have c1:(w.setCell ⟨p,0,none⟩ (.slice none 0 0)).cell? ⟨q,0,none⟩=some y:=cell_of' ((put_ne w 0 _ (Ne.symm hpq)).trans hq) 0;have c2:((w.setCell ⟨p,0,none⟩ (.slice none 0 0)).setCell ⟨q,0,none⟩ (.int .i64 a)).cell? ⟨r,0,none⟩=some z:=cell_of' ((put_ne _ 0 _ (Ne.symm hqr)).trans ((put_ne w 0 _ (Ne.symm hpr)).trans hr)) 0;have z0:=free_of' hp 0;have z1:=free_of' ((put_ne w 0 (.slice none 0 0) (Ne.symm hpq)).trans hq) 0;have z2:=free_of' ((put_ne _ 0 (.int .i64 a) (Ne.symm hqr)).trans ((put_ne w 0 (.slice none 0 0) (Ne.symm hpr)).trans hr)) 0;have hta:∀ (w:World),(Instr.typeAssert (.iface 602 (.int .i64 a)) 20 602 true).run Tryz.prog w=.ok (.tuple #[.int .i64 a,.bool true]) w:=fun _=>by kernel_rfl
 unfold misE;refine callsD_of_wpS Tryz.func398 rfl fun c₀ cs hu=>?_
 apply wpS_seq;apply wpS_region;simp [wpOpsS,go_sem,recoverD,hu,Tryz.ntmps398,Exit.thenS];refine wpS_of_wp ?_;simp only [Array.replicate_succ,Array.replicate_zero,List.push_toArray,List.setIfInBounds_toArray,List.set_cons_zero,List.set_cons_succ,List.append_toArray,List.nil_append,List.cons_append];go_wp2_with fail
 simp [bodyPostS,results,Tryz.results398]
theorem catch_idle (p q r:Nat) (w:World):
  CallsD Tryz.prog 398 #[.pointer (some ⟨p,0,none⟩),.pointer (some ⟨q,0,none⟩),.pointer (some ⟨r,0,none⟩)] .returning w fun e u' w'=>e=.returned (.tuple #[])/\u'=.returning/\w'=w:=by
 refine callsD_of_wpS Tryz.func398 rfl fun c₀ cs hu=>?_
 apply wpS_seq;apply wpS_region;simp [wpOpsS,go_sem,recoverD,hu,Tryz.ntmps398,Exit.thenS];refine wpS_of_wp ?_;simp only [Array.replicate_succ,Array.replicate_zero,List.push_toArray,List.setIfInBounds_toArray,List.set_cons_zero,List.set_cons_succ,List.append_toArray,List.nil_append,List.cons_append];go_wp2_with fail
 cases c₀
 simp_all [bodyPostS,results,Tryz.results398]
def ParseP (w:World) (s:Bs) (e:Ending) (w':World):Prop:=Ext w w'/\(match parse s with
 | .error (a,k)=>e=.returned (.tuple #[.slice none 0 0,.int .i64 (a:Nat),.int .i64 k])
 | .ok l=>∃ v,e=.returned (.tuple #[v,.int .i64 0,.int .i64 0])/\NodesAt (Since w w') w' v l)
theorem Parse_any (s:ByteArray) (w:World):Calls Tryz.prog 313 #[.string s] w (ParseP w s.data.toList):=by
 obtain ⟨post,hpost⟩:∃ post,post=ParseP w s.data.toList:=⟨_,rfl⟩;rw [<- hpost];replace hpost:=hid hpost;have hmf:∀ (fn:Fn) (first cap:Array Value) (w:World),(Instr.makeFunc fn first cap).run Tryz.prog w=.ok (.func fn first cap) w:=fun _ _ _ _=>rfl
 go_enter_defers Tryz.func313,Tryz.ntmps313
 go_wp2_with fail
 obtain ⟨R,hR⟩:∃ R,R=w.heap.size:=⟨_,rfl⟩;have hg3:∀ k,(((w.alloc (.cells #[.slice none 0 0] 516)).alloc (.cells #[.int .i64 0] 3)).alloc (.cells #[.int .i64 0] 26)).heap[k]?=
   if k=R+1+1 then some (.cells #[.int .i64 0] 26 (0,0)) else if k=R+1 then some (.cells #[.int .i64 0] 3 (0,0)) else if k=R then some (.cells #[.slice none 0 0] 516 (0,0)) else w.heap[k]?:=by
  intro k;simp only [alloc_get,World.size_alloc,<- hR]
 have hx3:=(((Mod.refl (fun _=>False) w).alloc (.cells #[.slice none 0 0] 516)).alloc (.cells #[.int .i64 0] 3)).alloc (.cells #[.int .i64 0] 26);have hs3:(((w.alloc (.cells #[.slice none 0 0] 516)).alloc (.cells #[.int .i64 0] 3)).alloc (.cells #[.int .i64 0] 26)).heap.size=R+3:=by simp only [World.size_alloc,<- hR]
 rw [<- hR];generalize (((w.alloc (.cells #[.slice none 0 0] 516)).alloc (.cells #[.int .i64 0] 3)).alloc (.cells #[.int .i64 0] 26))=w3 at hg3 hx3 hs3 ⊢;have k0:=hg3 R;have k1:=hg3 (R+1);have k2:=hg3 (R+1+1);rw [if_neg (by omega),if_neg (by omega),if_pos rfl] at k0;rw [if_neg (by omega),if_pos rfl] at k1;rw [if_pos rfl] at k2;clear hg3;replace hR:=hid hR;refine (Tokens_any s w3).mono ?_;rintro e w4 ⟨hx4,h4⟩;have hm4:=hid (hx3.trans hx4);have hs4:R+3<=w4.heap.size:=by have:=hx4.size;omega
 have k0:=hx4.at k0 (fun h=>h);have k1:=hx4.at k1 (fun h=>h);have k2:=hx4.at k2 (fun h=>h);clear hx3 hx4;have c0:w4.cell? ⟨R,0,none⟩=some (.slice none 0 0):=cell_of' k0 0;have c1:w4.cell? ⟨R+1,0,none⟩=some (.int .i64 0):=cell_of' k1 0;have c2:w4.cell? ⟨R+1+1,0,none⟩=some (.int .i64 0):=cell_of' k2 0;have z0:=free_of' k0;have z1:=free_of' k1;have z2:=free_of' k2;replace k0:=hid k0;replace k1:=hid k1;replace k2:=hid k2;cases ht:tokens s.data.toList with
 | error a=>
  rw [ht] at h4;replace ht:=hid ht;simp only at h4;subst h4;go_wp2_with fail
  have k0:=k0.out;have k1:=put1 (v:=.int .i64 (a:Nat)) k1.out;have k2:=put1 (v:=.int .i64 90) ((put_ne w4 (b:=R+1) 0 (.int .i64 (a:Nat)) (by omega)).trans k2.out);have k0:=(put_ne _ (b:=R+1+1) 0 (.int .i64 90) (by omega)).trans ((put_ne w4 (b:=R+1) 0 (.int .i64 (a:Nat)) (by omega)).trans k0);have k1:=(put_ne _ (b:=R+1+1) 0 (.int .i64 90) (by omega)).trans k1;have hm5:=hid ((hm4.out.setCell (a:=⟨R+1,0,none⟩) (fun e=>by have:=hR.out;simp only at e;omega) (.int .i64 (a:Nat))).setCell (a:=⟨R+1+1,0,none⟩) (fun e=>by have:=hR.out;simp only at e;omega) (.int .i64 90));generalize ((w4.setCell ⟨R+1,0,none⟩ (.int .i64 (a:Nat))).setCell ⟨R+1+1,0,none⟩ (.int .i64 90))=w5 at k0 k1 k2 hm5 ⊢;clear c0 c1 c2 z0 z1 z2;refine wp_region_sched (fun w'=>w'.cell? ⟨R+1,0,none⟩=some (.int .i64 (a:Nat))/\w'.cell? ⟨R+1+1,0,none⟩=some (.int .i64 90)) [(0,true),(1,true),(2,false),(3,false),(4,false)] (by as_aux_lemma=>kernel_rfl) (by as_aux_lemma=>kernel_rfl) (by as_aux_lemma=>kernel_rfl) (by decide) ⟨cell_of' (((Mod.drew0 (fun _=>False) _).at k1 (fun h=>h))) 0,cell_of' (((Mod.drew0 (fun _=>False) _).at k2 (fun h=>h))) 0⟩ ?_;have hm5:=hid hm5.out.drew;have k0:=(Mod.drew0 (fun _=>False) _).at k0 (fun h=>h);have k1:=(Mod.drew0 (fun _=>False) _).at k1 (fun h=>h);have k2:=(Mod.drew0 (fun _=>False) _).at k2 (fun h=>h);generalize w5.drew=w6 at hm5 k0 k1 k2 ⊢;simp only [schedOps,List.map_cons,List.map_nil,List.getD_cons_zero,List.getD_cons_succ];repeat (first | (refine qT ?_))
  have c0:w6.cell? ⟨R,0,none⟩=some (.slice none 0 0):=cell_of' k0 0;have z0:=free_of' k0;refine wpS_c (by rfl) (fun K hK=>?_);go_simp;clear c0 z0;have j0:=put1 (v:=.slice none 0 0) k0;have j1:=(put_ne w6 (b:=R) 0 (.slice none 0 0) (by omega)).trans k1;have j2:=(put_ne w6 (b:=R) 0 (.slice none 0 0) (by omega)).trans k2;have hm6:=hid (hm5.out.setCell (a:=⟨R,0,none⟩) (fun e=>by have:=hR.out;simp only at e;omega) (.slice none 0 0));refine hK.out _ _ ⟨cell_of' j1 0,cell_of' j2 0⟩ ?_;clear hK K k0 k1 k2;generalize (w6.setCell ⟨R,0,none⟩ (.slice none 0 0))=w7 at hm6 j0 j1 j2 ⊢;try simp only [Act.put,sA,sZ,sS]
  have c1:w7.cell? ⟨R+1,0,none⟩=some (.int .i64 (a:Nat)):=cell_of' j1 0;have z1:=free_of' j1;refine wpS_c (by rfl) (fun K hK=>?_);go_simp;clear c1 z1;have k1:=put1 (v:=.int .i64 (a:Nat)) j1;have k0:=(put_ne w7 (b:=R+1) 0 (.int .i64 (a:Nat)) (by omega)).trans j0;have k2:=(put_ne w7 (b:=R+1) 0 (.int .i64 (a:Nat)) (by omega)).trans j2;have hm7:=hid (hm6.out.setCell (a:=⟨R+1,0,none⟩) (fun e=>by have:=hR.out;simp only at e;omega) (.int .i64 (a:Nat)));refine hK.out _ _ ⟨cell_of' k1 0,cell_of' k2 0⟩ ?_;clear hK K j0 j1 j2;generalize (w7.setCell ⟨R+1,0,none⟩ (.int .i64 (a:Nat)))=w8 at hm7 k0 k1 k2 ⊢;try simp only [Act.put,sA,sZ,sS]
  have c2:w8.cell? ⟨R+1+1,0,none⟩=some (.int .i64 90):=cell_of' k2 0;have z2:=free_of' k2;refine wpS_c (by rfl) (fun K hK=>?_);go_simp;clear c2 z2;have j2:=put1 (v:=.int .i64 90) k2;have j0:=(put_ne w8 (b:=R+1+1) 0 (.int .i64 90) (by omega)).trans k0;have j1:=(put_ne w8 (b:=R+1+1) 0 (.int .i64 90) (by omega)).trans k1;have hm8:=hid (hm7.out.setCell (a:=⟨R+1+1,0,none⟩) (fun e=>by have:=hR.out;simp only at e;omega) (.int .i64 90));refine hK.out _ _ ⟨cell_of' j1 0,cell_of' j2 0⟩ ?_;clear hK K k0 k1 k2;generalize (w8.setCell ⟨R+1+1,0,none⟩ (.int .i64 90))=w9 at hm8 j0 j1 j2 ⊢;try simp only [Act.put,sA,sZ,sS]
  refine wpS_nil ?_;go_wp2_with fail
  refine ⟨_,ret_cells3 rfl _ _ ⟨R,0,none⟩ ⟨R+1,0,none⟩ ⟨R+1+1,0,none⟩ (.slice none 0 0) (.int .i64 (a:Nat)) (.int .i64 90) rfl rfl rfl Tryz.underlying516 Tryz.underlying3 Tryz.underlying26 rfl rfl rfl
   (cell_of' j0 0) (cell_of' j1 0) (cell_of' j2 0),?_⟩
  rw [hpost.out];refine ⟨hm8.out,?_⟩;unfold parse;rw [ht.out]
 | ok ts=>
  rw [ht] at h4;obtain ⟨hnum,hlen,hsz⟩:=tokens_num ht;replace ht:=hid ht;obtain ⟨v,rfl,hown⟩:=h4;obtain ⟨ao,cap,rfl,hr,hb⟩:=hown.row;have hbl:∀ b off,ao=some ⟨b,off,none⟩ -> R+3<=b/\b < w4.heap.size:=fun b off e=>by have:=hown.block b (hb b off e);omega
  replace hbl:=hid hbl;replace hr:=hid hr;clear hb hown;replace hnum:=hid hnum;go_wp2_with fail
  clear c0 c1 c2 z0 z1 z2;have hmA:=(((Mod.refl (fun j=>j=R+1 \/ j=R+1+1) w4).setCell (a:=⟨R+1,0,none⟩) (fun _=>.inl rfl) (.int .i64 0)).setCell (a:=⟨R+1+1,0,none⟩) (fun _=>.inr rfl) (.int .i64 0));have k1:=put1 (v:=.int .i64 0) k1.out;have k2:=put1 (v:=.int .i64 0) ((put_ne w4 (b:=R+1) 0 (.int .i64 0) (by omega)).trans k2.out);have k0:=(put_ne _ (b:=R+1+1) 0 (.int .i64 0) (by omega)).trans ((put_ne w4 (b:=R+1) 0 (.int .i64 0) (by omega)).trans k0.out);have k1:=(put_ne _ (b:=R+1+1) 0 (.int .i64 0) (by omega)).trans k1;have hsA:((w4.setCell ⟨R+1,0,none⟩ (.int .i64 0)).setCell ⟨R+1+1,0,none⟩ (.int .i64 0)).heap.size=w4.heap.size:=by simp [World.setCell]
  generalize ((w4.setCell ⟨R+1,0,none⟩ (.int .i64 0)).setCell ⟨R+1+1,0,none⟩ (.int .i64 0))=w5 at hmA k0 k1 k2 hsA ⊢;have hxB:=Mod.alloc (Mod.refl (fun _=>False) w5) (.cells #[.slice ao ts.length cap,.int .i64 0,.int .i64 s.size] 605);have hQ:=heap_alloc_new w5 (.cells #[.slice ao ts.length cap,.int .i64 0,.int .i64 s.size] 605);have hsB:(w5.alloc (.cells #[.slice ao ts.length cap,.int .i64 0,.int .i64 s.size] 605)).heap.size=w5.heap.size+1:=World.size_alloc _ _;rw [<- hsA];generalize hQe:w5.heap.size=Q at hQ hsB hsA ⊢;generalize (w5.alloc (.cells #[.slice ao ts.length cap,.int .i64 0,.int .i64 s.size] 605))=w6 at hxB hQ hsB ⊢;have hrd:Rd Q ao cap ts s.size 0 w6:=⟨hQ,(hr.out.mod hmA (fun b off e e'=>by have:=hbl.out b off e;omega)).ext hxB,fun b off e=>by have:=hbl.out b off e;omega,Nat.zero_le _,by have:s.data.toList.length=s.size:=rfl;omega,hsz⟩;have hm6:=hid ((hm4.out.then hmA (fun j hj e=>by have:=hR.out;omega)).then hxB (fun _ _ h=>h.elim));have k0:=hxB.at k0 (fun h=>h);have k1:=hxB.at k1 (fun h=>h);have k2:=hxB.at k2 (fun h=>h);replace hQe:=hid hQe;refine (list_any (3*ts.length+3) Q ao cap ts s.size 0 0 (.slice none 0 0) [] w6 hrd hnum.out (by omega) (StrsAt.nil _ _) (by decide) (by omega)).mono ?_;rw [List.drop_zero];rintro e w7 (⟨l,wd',k',v,hl,hkk,rfl,hnv,hrd7,hm7⟩ | ⟨a,ha,rfl,hm7⟩)
  ·obtain ⟨aov,nv,capv,rfl⟩:=hnv.slice
   have k0:=hm7.at k0 (by omega);have k1:=hm7.at k1 (by omega);have k2:=hm7.at k2 (by omega);have c0:w7.cell? ⟨R,0,none⟩=some (.slice none 0 0):=cell_of' k0 0;have c1:w7.cell? ⟨R+1,0,none⟩=some (.int .i64 0):=cell_of' k1 0;have c2:w7.cell? ⟨R+1+1,0,none⟩=some (.int .i64 0):=cell_of' k2 0;have z0:=free_of' k0;have z1:=free_of' k1;have z2:=free_of' k2;replace k0:=hid k0;replace k1:=hid k1;replace k2:=hid k2;replace hl:=hid hl;replace hnv:=hid hnv;replace hrd7:=hid hrd7;replace hm7:=hid hm7;replace hsB:=hid hsB;replace hsA:=hid hsA;go_wp2_with fail
   clear c0 c1 c2 z0 z1 z2;have q0:=put1 (v:=.slice aov nv capv) (put1 (v:=.slice aov nv capv) k0.out);have q1:=(put_ne _ (b:=R) 0 (.slice aov nv capv) (by omega)).trans ((put_ne w7 (b:=R) 0 (.slice aov nv capv) (by omega)).trans k1.out);have q2:=(put_ne _ (b:=R) 0 (.slice aov nv capv) (by omega)).trans ((put_ne w7 (b:=R) 0 (.slice aov nv capv) (by omega)).trans k2.out);have q1:=put1 (v:=.int .i64 0) q1;have q0:=(put_ne _ (b:=R+1) 0 (.int .i64 0) (by omega)).trans q0;have q2:=(put_ne _ (b:=R+1) 0 (.int .i64 0) (by omega)).trans q2;have q2:=put1 (v:=.int .i64 0) q2;have q0:=(put_ne _ (b:=R+1+1) 0 (.int .i64 0) (by omega)).trans q0;have q1:=(put_ne _ (b:=R+1+1) 0 (.int .i64 0) (by omega)).trans q1;have hm8:=((((Mod.refl (fun j=>R<=j/\j < R+3) w7).setCell (a:=⟨R,0,none⟩) (fun _=>⟨by simp,by simp⟩) (.slice aov nv capv)).setCell (a:=⟨R,0,none⟩) (fun _=>⟨by simp,by simp⟩) (.slice aov nv capv)).setCell (a:=⟨R+1,0,none⟩) (fun _=>⟨by simp,by simp⟩) (.int .i64 0)).setCell (a:=⟨R+1+1,0,none⟩) (fun _=>⟨by simp;omega,by simp⟩) (.int .i64 0);generalize ((((w7.setCell ⟨R,0,none⟩ (.slice aov nv capv)).setCell ⟨R,0,none⟩ (.slice aov nv capv)).setCell ⟨R+1,0,none⟩ (.int .i64 0)).setCell ⟨R+1+1,0,none⟩ (.int .i64 0))=w8 at q0 q1 q2 hm8 ⊢;refine leaves_cons (f:=398) (args:=#[.pointer (some ⟨R,0,none⟩),.pointer (some ⟨R+1,0,none⟩),.pointer (some ⟨R+1+1,0,none⟩)]) (by simp) (by simp [go_sem]) ?_;refine (catch_idle R (R+1) (R+1+1) _).mono ?_;rintro e u' w'' ⟨rfl,rfl,rfl⟩
   refine ⟨_,ret_cells3 rfl _ _ ⟨R,0,none⟩ ⟨R+1,0,none⟩ ⟨R+1+1,0,none⟩ (.slice aov nv capv) (.int .i64 0) (.int .i64 0) rfl rfl rfl Tryz.underlying516 Tryz.underlying3 Tryz.underlying26 rfl rfl rfl
    (cell_of' q0 0) (cell_of' q1 0) (cell_of' q2 0),?_⟩
   rw [hpost.out];have hRR:=hR.out;have hQQ:=hQe.out;have h11:=hsA.out;have h12:=hsB.out;have h13:=hm7.out.size;have h14:=hm8.size;refine ⟨((hm6.out.then hm7.out (fun j hj e=>by omega)).then hm8 (fun j hj e=>by omega)),?_⟩;unfold parse;rw [ht.out];simp only [show s.data.toList.length=s.size from rfl,hl.out];exact ⟨_,rfl,(hnv.out.mod hm8 (fun j hj e=>by have:=hj.1;omega)).mono (fun j hj=>⟨by have:=hj.1;omega,by have:=hj.2;omega⟩)⟩
  ·go_wp2_with fail
   have k0:=hm7.at k0 (by omega);have k1:=hm7.at k1 (by omega);have k2:=hm7.at k2 (by omega);refine leaves_cons (f:=398) (args:=#[.pointer (some ⟨R,0,none⟩),.pointer (some ⟨R+1,0,none⟩),.pointer (some ⟨R+1+1,0,none⟩)]) (by simp) (by simp [go_sem]) ?_;refine (catch_panicking R (R+1) (R+1+1) _ _ _ a [] _ k0 k1 k2 (by omega) (by omega) (by omega)).mono ?_;rintro e u' w'' ⟨rfl,rfl,rfl⟩;have q0:=put1 (v:=.slice none 0 0) k0;have q1:=put1 (v:=.int .i64 (a:Nat)) ((put_ne w7 (b:=R) 0 (.slice none 0 0) (by omega)).trans k1);have q0:=(put_ne _ (b:=R+1) 0 (.int .i64 (a:Nat)) (by omega)).trans q0;have q2:=put1 (v:=.int .i64 100) ((put_ne _ (b:=R+1) 0 (.int .i64 (a:Nat)) (by omega)).trans ((put_ne w7 (b:=R) 0 (.slice none 0 0) (by omega)).trans k2));have q0:=(put_ne _ (b:=R+1+1) 0 (.int .i64 100) (by omega)).trans q0;have q1:=(put_ne _ (b:=R+1+1) 0 (.int .i64 100) (by omega)).trans q1;have hm8:=(((Mod.refl (fun j=>R<=j/\j < R+3) w7).setCell (a:=⟨R,0,none⟩) (fun _=>⟨by simp,by simp⟩) (.slice none 0 0)).setCell (a:=⟨R+1,0,none⟩) (fun _=>⟨by simp,by simp⟩) (.int .i64 (a:Nat))).setCell (a:=⟨R+1+1,0,none⟩) (fun _=>⟨by simp;omega,by simp⟩) (.int .i64 100);generalize (((w7.setCell ⟨R,0,none⟩ (.slice none 0 0)).setCell ⟨R+1,0,none⟩ (.int .i64 (a:Nat))).setCell ⟨R+1+1,0,none⟩ (.int .i64 100))=w8 at q0 q1 q2 hm8 ⊢
   refine ⟨_,ret_cells3 rfl _ _ ⟨R,0,none⟩ ⟨R+1,0,none⟩ ⟨R+1+1,0,none⟩ (.slice none 0 0) (.int .i64 (a:Nat)) (.int .i64 100) rfl rfl rfl Tryz.underlying516 Tryz.underlying3 Tryz.underlying26 rfl rfl rfl
    (cell_of' q0 0) (cell_of' q1 0) (cell_of' q2 0),?_⟩
   rw [hpost.out];have hRR:=hR.out;have hQQ:=hQe.out;refine ⟨((hm6.out.then hm7 (fun j hj e=>by omega)).then hm8 (fun j hj e=>by omega)),?_⟩;unfold parse;rw [ht.out];simp only [show s.data.toList.length=s.size from rfl,ha]
end Go.Proofs.YtcopgcdhkgenkaaGreatDoor.Ps
namespace Go.Proofs.YtcopgcdhkgenkaaGreatDoor
open Go.Shelf Go.RowKit Cdk Scr
def kfn (f:Nat):Value:=.func (.func f) #[] #[]
def kindD:List (Int × Value):=[(1,kfn 492),(2,kfn 493),(3,kfn 494),(4,kfn 495),(5,kfn 496)]
theorem kinds_any (w:World):Calls Tryz.prog 401 #[] w fun e w'=>e=.returned (.map (some w.heap.size))/\MapAt w' (Value.int .i64) w.heap.size kindD/\Ext w w':=by
 have hmm:=@run_makeMap Tryz.prog;have h0:Hid (MapAt (w.alloc (.map #[] 0)) (Value.int .i64) w.heap.size ([]:List (Int × Value))/\Mod (Eq w.heap.size) w (w.alloc (.map #[] 0))):=hid ⟨MapAt.made w _,(Mod.refl _ w).alloc _⟩;go_enter Tryz.func401,Tryz.ntmps401
 go_wp2_with (first
  | (refine wpList_insert rfl _ _ _ 614 678 rfl (keyOk_int Tryz.underlying3) Tryz.underlying614 H3.out.1 _ _ rfl rfl rfl (fun w3 H4=>?_);replace H3:=hid (⟨H4.out.1,H3.out.2.trans H4.out.2.1⟩:_/\_);clear H4)
  | (refine wpList_insert rfl _ _ _ 614 678 rfl (keyOk_int Tryz.underlying3) Tryz.underlying614 h0.out.1 _ _ rfl rfl rfl (fun w3 H4=>?_);have H3:=hid (⟨H4.out.1,h0.out.2.trans H4.out.2.1⟩:_/\_);clear H4))
 go_ret;exact ⟨rfl,H3.out.1,H3.out.2.mono' (fun k hk e=>by omega)⟩
structure EvS where
 tx:Bs
 d:List (ByteArray × Value)
 st:Nat
structure EvC where
 a1:Option Addr
 a2:Option Addr
 c1:Nat
 c2:Nat
 k:Int
 url:ByteArray
 word:ByteArray
 rd:Nat
 mm:Nat
 e:Nat
 km:Nat
 sv:Value
structure EvAt (w:World) (c:EvC) (s:EvS):Prop where
 rdr:RdrAt w c.a1 c.a2 c.c1 c.c2 c.k c.url c.word c.rd c.mm s.d
 kinds:MapAt w (Value.int .i64) c.km kindD
 at_:∃ tv,w.heap[c.e]?=some (.cells #[tv,c.sv,.map (some c.km),.int .i64 s.st,.int .i64 0] 619 (0,0))/\w.ownsRow (c.e+1) 5 1 tv s.tx.length (Lib.byteCells s.tx)
 ord:c.rd < c.e/\c.mm < c.e/\c.km < c.e/\c.rd ≠ c.mm/\c.km ≠ c.mm/\12<=c.mm
 gl:Gl w
def EvM (c:EvC) (k:Nat):Prop:=k=c.mm \/ c.e<=k
theorem u8info:(Tryz.prog.info? 5).map (fun i=>(i.zero,i.size,i.bytes))=some (some (.int .u8 0),1,1):=by kernel_rfl
theorem EvAt.next {c:EvC} {s s':EvS} {w w':World} (h:EvAt w c s) (hd:s'.d=s.d) (hm:Cdk.Mod (fun k=>c.e<=k) w w')
  (ha:∃ tv,w'.heap[c.e]?=some (.cells #[tv,c.sv,.map (some c.km),.int .i64 s'.st,.int .i64 0] 619 (0,0))/\w'.ownsRow (c.e+1) 5 1 tv s'.tx.length (Lib.byteCells s'.tx)):EvAt w' c s' where
 rdr:=by rw [hd];exact h.rdr.mod hm (by have:=h.ord;omega) (by have:=h.ord;omega)
 kinds:=h.kinds.mod hm (by have:=h.ord;omega)
 at_:=ha
 ord:=h.ord
 gl:=h.gl.mod hm (fun k hk=>by have:=h.ord;omega)
theorem EvAt.ext {c:EvC} {s:EvS} {w w':World} (h:EvAt w c s) (hx:Ext w w'):EvAt w' c s where
 rdr:=h.rdr.mod hx (fun h=>h) (fun h=>h)
 kinds:=h.kinds.mod hx (fun h=>h)
 at_:=by
  obtain ⟨tv,h1,h2⟩:=h.at_;exact ⟨tv,hx.at h1 (fun h=>h),h2.kept (row:=none) ⟨hx.os,hx.tape,hx.output,hx.size,fun k hk _=>hx.block k hk (fun h=>h)⟩ (Classical.em _)⟩
 ord:=h.ord
 gl:=h.gl.ext hx
theorem own_off {w:World} {B:Nat} {e:TypeId} {size n:Nat} {v:Value} {xs:List Value} {a:Addr} {u:Value} (h:w.ownsRow B e size v n xs) (hne:∀ k,v.ownBlock=some k -> k ≠ a.block):(w.setCell a u).ownsRow B e size v n xs:=by
 refine ⟨h.1,?_⟩;rcases h.2 with h2 | ⟨g,cap,cur,rfl,h3,h4,h5⟩
 ·exact .inl h2
 ·exact .inr ⟨g,cap,cur,rfl,h3,by rw [Below.heap_setCell w a u g (hne g rfl)];exact h4,h5⟩
theorem evPut_any (x:ByteArray) {c:EvC} {s:EvS} (w:World) (h:EvAt w c s) (hlen:s.tx.length+x.size<=8192):
  Calls Tryz.prog 563 #[.pointer (some ⟨c.e,0,none⟩),.string x] w fun e w'=>e=.returned (.tuple #[])/\EvAt w' c { s with tx:=s.tx++x.data.toList }/\Cdk.Mod (fun k=>c.e<=k) w w':=by
 obtain ⟨i0,hi,hz0,hz1,hz2⟩:=info_parts u8info;have h0:=hid h;obtain ⟨tv,hat,hown⟩:=h.at_;obtain ⟨tx,d,st⟩:=s;simp only at hat hown hlen ⊢;obtain ⟨ao,cap,rfl⟩:∃ ao cap,tv=.slice ao tx.length cap:=by
  rcases hown.2 with ⟨hv,hn⟩ | ⟨g,cap,cur,hv,_⟩
  ·exact ⟨_,_,by rw [hn];exact hv⟩
  ·exact ⟨_,_,hv⟩
 obtain ⟨n,hn⟩:∃ n,n=tx.length:=⟨_,rfl⟩;rw [<- hn] at hat hlen hown;have c0:w.cell? ⟨c.e,0,none⟩=some (.slice ao n cap):=cellN hat 0;have hle:(n:Int)+(x.size:Int)<=8192:=by omega
 have hng:¬ (8192:Int) - (n:Int) < (x.size:Int):=by omega
 have hlw:=hid (lt_of_at hat);have hlb:=hid (Lib.byteCells_length tx);have hb:=hid (fun k (e:_=some k)=>(hown.lt k e).1);have hn':=hid hn;have hl2:=hid hlen;clear h hlen hn;go_enter Tryz.func563,Tryz.ntmps563;go_wp2_with (at_builtin;refine Lib.wpList_append_own_string _ rfl _ _ 38 9 rfl (c.e+1) 5 i0 Tryz.underlying38 Tryz.underlying9 hi hz0 hz1 hz2 _ _ _ rfl hown x rfl ?c3 ?c4 ?c5 ?_)
 case c3=>have:=hl2.out;unfold maxLen;omega
 case c4=>have:=hlb.out;have:=hn'.out;omega
 case c5=>have:=hlw.out;omega
 intro v' w2 hown' hgrow _;have hm2:Cdk.Mod (fun k=>c.e<=k) w w2:=Mod.ofGrown hgrow (fun k hk=>by have:=hb.out k hk;omega);have hat2:w2.heap[c.e]?=some (.cells #[.slice ao n cap,c.sv,.map (some c.km),.int .i64 st,.int .i64 0] 619 (0,0)):=by
  rw [hgrow.block c.e hlw.out (fun e=>by have:=hb.out _ e.symm;omega)];exact hat
 have hfz:=freeN hat2 0;have hm3:=hid (hm2.setCell (a:=⟨c.e,0,none⟩) (fun _=>Nat.le_refl _) v');have hat3:=hid (put_at' hat2 0 v');have hb3:=hid (fun k (e:_=some k)=>(hown'.lt k e).1);have d0:w2.cell? ⟨c.e,0,none⟩=some (.slice ao n cap):=cellN hat2 0;clear hown hat hm2 hgrow c0;replace hown':=hid hown';obtain ⟨ao',n',cap',rfl⟩:∃ ao n' cap,v'=.slice ao n' cap:=by
  rcases hown'.out.2 with ⟨hv,_⟩ | ⟨g,cap,cur,hv,_⟩
  ·exact ⟨_,_,_,hv⟩
  ·exact ⟨_,_,_,hv⟩
 replace hat2:=hid hat2;go_wp2_with fail
 go_end0
 refine ⟨rfl,h0.out.next rfl hm3.out ⟨_,hat3.out,?_⟩,hm3.out⟩;have e1:Lib.byteCells (tx++x.data.toList)=Lib.byteCells tx++Lib.strCells x:=by simp [Lib.byteCells,Lib.strCells]
 simp only [e1];have e2:(tx++x.data.toList).length=n+x.size:=by rw [hn'.out,List.length_append];rfl
 rw [e2];exact own_off hown'.out (fun k hk=>by have:=hb3.out k hk;show k ≠ c.e;omega)
def NodeSpec (fn:Nat) (c:EvC) (nd:Array Value) (s s':EvS):Prop:=∀ w,EvAt w c s -> Calls Tryz.prog fn #[.pointer (some ⟨c.e,0,none⟩),.agg nd,.int .i64 0] w fun e w'=>e=.returned (.tuple #[])/\EvAt w' c s'/\Cdk.Mod (EvM c) w w'
theorem literal_any (c:EvC) (s:EvS) (x x2 x3:ByteArray) (i0 i4:Int) (o5 o6 o7:Option Addr) (n5 c5 n6 c6 n7 c7:Nat) (hlen:s.tx.length+x.size<=8192):
  NodeSpec 492 c #[.int .i64 i0,.string x,.string x2,.string x3,.int .i64 i4,.slice o5 n5 c5,.slice o6 n6 c6,.slice o7 n7 c7] s { s with tx:=s.tx++x.data.toList }:=by
 intro w h;obtain ⟨nc,hnc⟩:∃ nc:Array Value,nc=#[.int .i64 i0,.string x,.string x2,.string x3,.int .i64 i4,.slice o5 n5 c5,.slice o6 n6 c6,.slice o7 n7 c7]:=⟨_,rfl⟩;have hxA:=Mod.alloc (Mod.refl (fun _=>False) w) (.cells #[.int .i64 i0,.string x,.string x2,.string x3,.int .i64 i4,.slice o5 n5 c5,.slice o6 n6 c6,.slice o7 n7 c7] 673);have hA:=heap_alloc_new w (.cells #[.int .i64 i0,.string x,.string x2,.string x3,.int .i64 i4,.slice o5 n5 c5,.slice o6 n6 c6,.slice o7 n7 c7] 673);obtain ⟨A,hAe⟩:∃ A,A=w.heap.size:=⟨_,rfl⟩;rw [<- hAe] at hA;replace hAe:=hid hAe;have h0:=hid h;have hpt:=hid (fun W (h:EvAt W c s)=>evPut_any x W h hlen);clear h hlen hnc;go_enter Tryz.func492,Tryz.ntmps492;go_upto_region 1 with fail
 try simp only [<- hAe.out]
 generalize w.alloc (.cells #[.int .i64 i0,.string x,.string x2,.string x3,.int .i64 i4,.slice o5 n5 c5,.slice o6 n6 c6,.slice o7 n7 c7] 673)=wA at hxA hA ⊢;have b1:wA.cell? ⟨A,1,none⟩=some (.string x):=cellN hA 1;have hx1:=hid hxA;clear hA hxA;refine wp_region_tree (.s (.q 0 (.q 1 (.q 2 (.q 3 (.c1 4 (.c1 5 .done))))))) (by as_aux_lemma=>kernel_rfl) (by as_aux_lemma=>kernel_rfl) (by as_aux_lemma=>kernel_rfl) (by decide) ?_;have hv0:=hid (Mod.drew0 (fun _=>False) wA);refine wpTr_s (fun Wx=>Cdk.Mod (fun k=>c.e<=k) wA Wx) (fun _ _=>trivial) (hv0.out.mono (fun _ h=>h.elim)) ?_;have d1:wA.drew.cell? ⟨A,1,none⟩=some (.string x):=hv0.out.cell b1 (fun h=>h);generalize hWd:World.drew wA=V0 at hv0 d1 ⊢;clear b1
 iterate 4 (refine wpTr_q _ (by simp only [List.getD_cons_succ,List.getD_cons_zero];rfl) (by rfl) ?_ (fun w' hC=>?_) ?_;rotate_left;(go_simp;first | done | with_reducible rfl | exact rfl);try simp only [Act.put,sA,sZ,sS])
 refine wpTr_c1 _ (by simp only [List.getD_cons_succ,List.getD_cons_zero];rfl) ?_;refine wpN_c (by rfl) (fun K hK=>?_);go_simp;refine hK.out _ _ (hv0.out.mono (fun _ h=>h.elim)) ?_;clear hK K;try simp only [Act.put,sA,sZ,sS]
 refine wpTr_c1 _ (by simp only [List.getD_cons_succ,List.getD_cons_zero];rfl) ?_;refine wpN_c (by rfl) (fun K hK=>?_);go_simp;refine (hpt.out V0 (h0.out.ext (hx1.out.trans hv0.out))).mono ?_;rintro e V1 ⟨rfl,h1,hm⟩;refine hK.out _ _ (Mod.trans (hv0.out.mono (fun _ h=>h.elim)) hm) ?_;clear hK K;try simp only [Act.put,sA,sZ,sS]
 refine wpTr_done ?_;go_wp2_with fail
 go_end0
 exact ⟨rfl,h1,(((hx1.out.trans hv0.out).mono (fun _ h=>h.elim)).trans hm).mono (fun _ h=>.inr h)⟩
structure NV where
 kd:Int
 tx:ByteArray
 nm:ByteArray
 ar:ByteArray
 ct:Int
 o5:Option Addr
 n5:Nat
 c5:Nat
 o6:Option Addr
 n6:Nat
 c6:Nat
 o7:Option Addr
 n7:Nat
 c7:Nat
def NV.row (N:NV):Array Value:=#[.int .i64 N.kd,.string N.tx,.string N.nm,.string N.ar,.int .i64 N.ct,.slice N.o5 N.n5 N.c5,.slice N.o6 N.n6 N.c6,.slice N.o7 N.n7 N.c7]
theorem zero_kind (w:World):(zeroValue 678).run Tryz.prog w=.ok .nilFunc w:=by kernel_rfl
def EvS.step (s:EvS):EvS:={ s with st:=s.st+1 }
theorem list_any (c:EvC) (ao:Option Addr) (n cap:Nat) (nd:Nat -> NV) (kf:Nat -> Nat) (σ:Nat -> EvS) (w:World) (hn:n<=100)
  (hrow:0 < n -> ∃ b off,ao=some ⟨b,off,none⟩/\b < c.e/\b ≠ c.mm/\∀ i,i < n -> ∀ j,j < 8 -> w.cell? ⟨b,off+i*8+j,none⟩=(nd i).row[j]?)
  (hk:∀ i,i < n -> assoc kindD (nd i).kd=some (kfn (kf i))/\(∀ args w,(callFunc (kf i) args).run Tryz.prog w=.ok (.enter (kf i) args) w))
  (hs:∀ i,i < n -> (σ i).st < 2000/\NodeSpec (kf i) c (nd i).row (σ i).step (σ (i+1))) (h:EvAt w c (σ 0)):
  Calls Tryz.prog 402 #[.pointer (some ⟨c.e,0,none⟩),.slice ao n cap,.int .i64 0] w fun e w'=>e=.returned (.tuple #[])/\EvAt w' c (σ n)/\Cdk.Mod (EvM c) w w':=by
 have hrow':=hid hrow;have hk':=hid hk;have hs':=hid hs;have h':=hid h;clear hrow hk hs h;go_enter Tryz.func402,Tryz.ntmps402;go_wp2_with fail
 go_loopg [12] n (fun g i wr=>∃ k:Nat,k+g=n/\i=.int .i64 k/\EvAt wr c (σ k)/\Cdk.Mod (EvM c) w wr)
 case atStart=>exact ⟨0,by omega,rfl,h'.out,Mod.refl _ _⟩
 case round=>
  obtain ⟨k,hkn,rfl,hE,hxr⟩:=hrel;replace hkn:=hid hkn
  by_cases hlt:k < n
  ·have hli:(k:Int) < (n:Int):=by omega
   have hd:decide ((k:Int) < (n:Int))=true:=decide_eq_true hli;obtain ⟨b,off,rfl,hbe,hbm,hcl⟩:=hrow'.out (by omega);obtain ⟨hst,hsp⟩:=hs'.out k hlt;obtain ⟨hkf,hen⟩:=hk'.out k hlt;have hnb:¬ EvM c b:=by unfold EvM;omega
   have hcl':=fun j hj=>hcl k hlt j hj
   have hsn:=hid hsp;clear hsp hcl;generalize hN:nd k=N at hcl' hkf hsn;generalize hF:kf k=f at hkf hen hsn;have hv:∀ (j:Nat) (v:Value),j < 8 -> N.row[j]?=some v -> wr.cell? ⟨b,off+k*8+j,none⟩=some v:=fun j v hj hv=>hxr.cell ((hcl' j hj).trans hv) hnb
   have z0:wr.cell? ⟨b,off+k*8,none⟩=some (.int .i64 N.kd):=hv 0 _ (by decide) rfl;have z1:wr.cell? ⟨b,off+k*8+1,none⟩=some (.string N.tx):=hv 1 _ (by decide) rfl;have z2:wr.cell? ⟨b,off+k*8+2,none⟩=some (.string N.nm):=hv 2 _ (by decide) rfl;have z3:wr.cell? ⟨b,off+k*8+3,none⟩=some (.string N.ar):=hv 3 _ (by decide) rfl;have z4:wr.cell? ⟨b,off+k*8+4,none⟩=some (.int .i64 N.ct):=hv 4 _ (by decide) rfl;have z5:wr.cell? ⟨b,off+k*8+5,none⟩=some (.slice N.o5 N.n5 N.c5):=hv 5 _ (by decide) rfl;have z6:wr.cell? ⟨b,off+k*8+6,none⟩=some (.slice N.o6 N.n6 N.c6):=hv 6 _ (by decide) rfl;have z7:wr.cell? ⟨b,off+k*8+7,none⟩=some (.slice N.o7 N.n7 N.c7):=hv 7 _ (by decide) rfl;clear hcl' hv hN hF;have hE0:=hid hE;have hxr0:=hid hxr;have hkf:=hid hkf;replace hnb:=hid hnb;have hxM:=Mod.alloc (Mod.refl (fun _=>False) wr) (.cells #[.int .i64 N.kd,.string N.tx,.string N.nm,.string N.ar,.int .i64 N.ct,.slice N.o5 N.n5 N.c5,.slice N.o6 N.n6 N.c6,.slice N.o7 N.n7 N.c7] 673);have hM:=heap_alloc_new wr (.cells #[.int .i64 N.kd,.string N.tx,.string N.nm,.string N.ar,.int .i64 N.ct,.slice N.o5 N.n5 N.c5,.slice N.o6 N.n6 N.c6,.slice N.o7 N.n7 N.c7] 673);clear hE hxr hbe hbm;go_upto_region 3 with fail
   obtain ⟨M,hMe⟩:∃ M,M=wr.heap.size:=⟨_,rfl⟩;rw [<- hMe] at hM ⊢;have hEA:=hE0.out.ext hxM;have hxA:=hid (hxr0.out.trans (hxM.mono (fun _ h=>h.elim)));have hMe2:=hid (show c.e < M by obtain ⟨tv,h1,-⟩:=hE0.out.at_;have:=lt_of_at h1;omega);replace hMe:=hid hMe;replace hM:=hid hM;generalize wr.alloc (.cells #[.int .i64 N.kd,.string N.tx,.string N.nm,.string N.ar,.int .i64 N.ct,.slice N.o5 N.n5 N.c5,.slice N.o6 N.n6 N.c6,.slice N.o7 N.n7 N.c7] 673)=wA at hxM hM hxA hEA ⊢;clear hxM z0 z1 z2 z3 z4 z5 z6 z7 hE0 hxr0;have hEA':=hid hEA;obtain ⟨tv,hat,hown⟩:=hEA.at_;have e0:wA.cell? ⟨c.e,3,none⟩=some (.int .i64 (σ k).st):=cellN hat 3;have hng:¬ (2000:Int)<=((σ k).st:Int):=by omega
   have hat1:=hid (put_at' hat 3 (.int .i64 (((σ k).st:Int)+1)));have hown1:=hid (own_off (a:=⟨c.e,3,none⟩) (u:=.int .i64 (((σ k).st:Int)+1)) hown (fun j hj=>by have:=(hown.lt j hj).1;show j ≠ c.e;omega));have hm1:=hid ((Mod.refl (fun k=>c.e<=k) wA).setCell (a:=⟨c.e,3,none⟩) (fun _=>Nat.le_refl _) (.int .i64 (((σ k).st:Int)+1)));have hE1:Hid (EvAt (wA.setCell ⟨c.e,3,none⟩ (.int .i64 (((σ k).st:Int)+1))) c (σ k).step):=hid (hEA'.out.next rfl hm1.out ⟨_,hat1.out,hown1.out⟩);have hM1:=hid ((put_ne' (b':=c.e) (b:=M) wA 3 (.int .i64 (((σ k).st:Int)+1)) (by have:=hMe2.out;omega)).trans hM.out);have hfz:=freeN hat 3;clear hat hown hEA hEA' hM hown1;replace hat1:=hid hat1.out;go_upto_region 6 with fail
   generalize wA.setCell ⟨c.e,3,none⟩ (.int .i64 (((σ k).st:Int)+1))=W1 at hE1 hM1 hat1 hm1 ⊢;have e2:=hid (show W1.cell? ⟨c.e,2,none⟩=some (.map (some c.km)) from cellN hat1 2);have b0:=hid (show W1.cell? ⟨M,0,none⟩=some (.int .i64 N.kd) from cellN hM1.out 0);have hkm:=hid hE1.out.kinds;have hx1:=hid (hxA.out.trans (hm1.out.mono (fun _ h=>.inr h)));clear hat1 hfz e0 hm1 hxA hng;refine wp_region_sched (fun Wx=>Ext W1 Wx) [(0,true),(1,true),(2,true),(3,true),(4,true),(5,true),(6,true),(7,true),(8,true),(9,true),(10,true),(11,true)]
    (by as_aux_lemma=>kernel_rfl) (by as_aux_lemma=>kernel_rfl) (by as_aux_lemma=>kernel_rfl) (by decide) (Mod.drew0 (fun _=>False) W1) ?_
   simp only [schedOps,List.map_cons,List.map_nil,List.getD_cons_zero,List.getD_cons_succ];have hd0:=hid (Mod.drew0 (fun _=>False) W1);generalize hWd:World.drew W1=V0 at hd0 ⊢
   iterate 12 (refine wpS_q (by rfl) ?_ (fun w' hC=>?_) ?_;rotate_left;(have q0:=hC.cell b0.out (fun h=>h);have q1:=hC.cell e2.out (fun h=>h);have ql:=run_lookupM (P:=Tryz.prog) (t:=614) (keyOk_int Tryz.underlying3) Tryz.underlying614 (hkm.out.mod hC (fun h=>h)) N.kd (zero_kind w') true;rw [hkf.out] at ql;simp only [Option.getD_some,Option.isSome_some,if_true] at ql;go_simp;first | done | with_reducible rfl | exact rfl);try simp only [Act.put,sA,sZ,sS])
   refine wpS_nil ?_;have hM2:=hd0.out.at hM1.out (fun h=>h);have y0:V0.cell? ⟨M,0,none⟩=some (.int .i64 N.kd):=cellN hM2 0;have y1:V0.cell? ⟨M,1,none⟩=some (.string N.tx):=cellN hM2 1;have y2:V0.cell? ⟨M,2,none⟩=some (.string N.nm):=cellN hM2 2;have y3:V0.cell? ⟨M,3,none⟩=some (.string N.ar):=cellN hM2 3;have y4:V0.cell? ⟨M,4,none⟩=some (.int .i64 N.ct):=cellN hM2 4;have y5:V0.cell? ⟨M,5,none⟩=some (.slice N.o5 N.n5 N.c5):=cellN hM2 5;have y6:V0.cell? ⟨M,6,none⟩=some (.slice N.o6 N.n6 N.c6):=cellN hM2 6;have y7:V0.cell? ⟨M,7,none⟩=some (.slice N.o7 N.n7 N.c7):=cellN hM2 7;have hE2:=hid (hE1.out.ext hd0.out);have hx2:=hid (hx1.out.trans (hd0.out.mono (fun _ h=>h.elim)));have hcall:=hid (hsn.out V0 hE2.out);unfold NV.row at hcall;clear hM2 hE1 hx1 hM1 b0 e2 hkm hd0 hE2 hsn;unfold kfn;go_wp2_with fail
   refine hcall.out.mono ?_;rintro e w3 ⟨rfl,hE3,hm3⟩;have hE3':=hid hE3;have hx3:=hid (hx2.out.trans hm3);clear hE3 hm3 y0 y1 y2 y3 y4 y5 y6 y7 hcall;go_wp2_with fail
   go_roundg (gk - 1)
   case measure=>have:=hkn.out;omega
   case rel=>exact ⟨k+1,by have:=hkn.out;omega,by go_num,hE3'.out,hx3.out⟩
  ·have hndi:¬ (k:Int) < (n:Int):=by omega
   have hd:decide ((k:Int) < (n:Int))=false:=decide_eq_false hndi;have hkk:k=n:=by have:=hkn.out;omega
   have hE0:=hid hE;have hxr0:=hid hxr;clear hE hxr;go_wp2_with fail
   try go_end0
   exact ⟨rfl,hkk ▸ hE0.out,hxr0.out⟩
def llB (k:Int):Bs:=[108,97,116,101,115,116,47,47]++numB k
theorem topic_any (c:EvC) (hk:c.k=1 \/ c.k=6) (w:World) (rd mm:Nat) (d:List (ByteArray × Value)) (h:RdrAt w c.a1 c.a2 c.c1 c.c2 c.k c.url c.word rd mm d):Calls Tryz.prog 715 #[.pointer (some ⟨rd,0,none⟩)] w fun e w'=>e=.returned (.string .empty)/\w=w':=by
 have s2:w.cell? ⟨rd,2,none⟩=some (.int .i64 c.k):=cellN h.at_ 2;have hk3:(c.k==3)=false:=by rcases hk with e | e <;> rw [e] <;> rfl
 have hk5:(c.k==5)=false:=by rcases hk with e | e <;> rw [e] <;> rfl
 clear hk h;generalize c.k=k at s2 hk3 hk5;go_enter Tryz.func715,Tryz.ntmps715;go_wp2_with fail
 go_ret;exact ⟨rfl,rfl⟩
theorem listKey_any (c:EvC) (hk:c.k=1 \/ c.k=6) (w:World) (hG:Gl w) (rd mm:Nat) (d:List (ByteArray × Value)) (h:RdrAt w c.a1 c.a2 c.c1 c.c2 c.k c.url c.word rd mm d):
  Calls Tryz.prog 703 #[.pointer (some ⟨rd,0,none⟩),.int .i64 0,.string ⟨#[108,97,116,101,115,116]⟩,.string ⟨#[]⟩,.int .i64 (numV c.k)] w fun e w'=>e=.returned (.string ⟨(llB c.k).toArray⟩)/\Ext w w':=by
 have hn0:(numV c.k==0)=false:=by rcases hk with e | e <;> rw [e] <;> rfl
 have hio:=hid (fun W (h:Gl W)=>itoa_any (numV c.k) (by rcases hk with e | e <;> rw [e] <;> (unfold I64 numV;decide)) W h);have hit:(⟨(itoa (numV c.k)).toArray⟩:ByteArray)=⟨(numB c.k).toArray⟩:=by rcases hk with e | e <;> rw [e] <;> kernel_rfl
 rw [hit] at hio;have htp:=hid (fun W (hx:Ext w W)=>topic_any c hk W rd mm d (h.mod hx (fun h=>h) (fun h=>h)));have hfin:(⟨(llB c.k).toArray⟩:ByteArray)=(⟨#[108,97,116,101,115,116,47,47]⟩:ByteArray)++⟨(numB c.k).toArray⟩:=by rcases hk with e | e <;> rw [e] <;> kernel_rfl
 rw [hfin];obtain ⟨n,hn⟩:∃ n,n=numV c.k:=⟨_,rfl⟩;obtain ⟨S,hS⟩:∃ S,S=(⟨(numB c.k).toArray⟩:ByteArray):=⟨_,rfl⟩;have hSz:S.size<=10:=by rw [hS];rcases hk with e | e <;> rw [e] <;> decide
 rw [<- hn] at hn0 hio ⊢;rw [<- hS] at hio ⊢;replace hn:=hid hn;replace hS:=hid hS;clear hk h hit hfin;go_enter Tryz.func703,Tryz.ntmps703;go_wp2_with fail
 refine (hio.out w hG).mono ?_;rintro e w1 ⟨rfl,hx1⟩;replace hx1:=hid hx1;go_wp2_with fail
 refine (htp.out w1 hx1.out).mono ?_;rintro e w2 ⟨rfl,rfl⟩;go_wp2_with fail
 go_ret;exact ⟨rfl,hx1.out⟩
theorem own_mod {S:Nat -> Prop} {w w':World} {B:Nat} {e:TypeId} {size n:Nat} {v:Value} {xs:List Value} (h:w.ownsRow B e size v n xs) (hm:Cdk.Mod S w w') (hne:∀ k,v.ownBlock=some k -> ¬ S k):w'.ownsRow B e size v n xs:=by
 refine ⟨h.1,?_⟩;rcases h.2 with h2 | ⟨g,cap,cur,rfl,h3,h4,h5⟩
 ·exact .inl h2
 ·exact .inr ⟨g,cap,cur,rfl,h3,hm.at h4 (hne g rfl),h5⟩
theorem EvAt.read {c:EvC} {s:EvS} {w w':World} {d:List (ByteArray × Value)} (h:EvAt w c s) (hm:Cdk.Mod (Eq c.mm) w w') (hr:RdrAt w' c.a1 c.a2 c.c1 c.c2 c.k c.url c.word c.rd c.mm d):EvAt w' c { s with d:=d } where
 rdr:=hr
 kinds:=h.kinds.mod hm (fun e=>by have:=h.ord;omega)
 at_:=by
  obtain ⟨tv,h1,h2⟩:=h.at_;exact ⟨tv,hm.at h1 (fun e=>by have:=h.ord;omega),own_mod h2 hm (fun k hk e=>by have:=(h2.lt k hk).1;have:=h.ord;omega)⟩
 ord:=h.ord
 gl:=h.gl.mod hm (fun k e=>by have:=h.ord;omega)
theorem rdList_any (c:EvC) (hk:c.k=1 \/ c.k=6) {d:List (ByteArray × Value)} (hv:ValSpec c.a1 c.a2 ⟨(llB c.k).toArray⟩ .empty) (hd:assoc d (⟨(llB c.k).toArray⟩:ByteArray)=none) (w:World) (hG:Gl w) (h12:12<=c.mm) (h:RdrAt w c.a1 c.a2 c.c1 c.c2 c.k c.url c.word c.rd c.mm d):
  Calls Tryz.prog 698 #[.pointer (some ⟨c.rd,0,none⟩),.int .i64 0,.string ⟨#[108,97,116,101,115,116]⟩,.string ⟨#[]⟩,.int .i64 (numV c.k)] w fun e w'=>e=.returned (.slice none 0 0)/\RdrAt w' c.a1 c.a2 c.c1 c.c2 c.k c.url c.word c.rd c.mm (upd d ⟨(llB c.k).toArray⟩ (.string .empty))/\Cdk.Mod (Eq c.mm) w w':=by
 have hlk:=hid (listKey_any c hk w hG c.rd c.mm d h);have hrn:=hid (fun W (hx:Ext w W)=>read_new (⟨(llB c.k).toArray⟩:ByteArray) .empty hv hd W (hG.ext hx) h12 (h.mod hx (fun h=>h) (fun h=>h)));have hnz:((⟨(llB c.k).toArray⟩:ByteArray).toList==[])=false:=by rcases hk with e | e <;> rw [e] <;> kernel_rfl
 have hem:(⟨(llB c.k).toArray⟩:ByteArray).isEmpty=false:=by rcases hk with e | e <;> rw [e] <;> kernel_rfl
 have hsz:((⟨(llB c.k).toArray⟩:ByteArray).size==0)=false:=by rcases hk with e | e <;> rw [e] <;> kernel_rfl
 obtain ⟨mx,hmx⟩:=hG.mx;have hct:=hid (fun W (hx:W.cell? ⟨4,0,none⟩=some (.int .i64 mx))=>Tryz.strings_Cut .empty ⟨#[32,111,102,32]⟩ mx W (by decide) hx);have hcv:Lib.cut (ByteArray.empty).data.toList (⟨#[32,111,102,32]⟩:ByteArray).data.toList=([],[],false):=by kernel_rfl
 rw [hcv] at hct;obtain ⟨K,hK⟩:∃ K,K=(⟨(llB c.k).toArray⟩:ByteArray):=⟨_,rfl⟩;rw [<- hK] at hlk hrn hnz hem hsz ⊢;obtain ⟨n,hn⟩:∃ n,n=numV c.k:=⟨_,rfl⟩;rw [<- hn] at hlk ⊢;replace hK:=hid hK;replace hn:=hid hn;have hmm:=hid h12;have hmx':=hid hmx;clear hk hv hd h h12 hcv hmx;go_enter Tryz.func698,Tryz.ntmps698;go_wp2_with fail
 refine hlk.out.mono ?_;rintro e w1 ⟨rfl,hx1⟩;replace hx1:=hid hx1;go_wp2_with fail
 refine (hrn.out w1 hx1.out).mono ?_;rintro e w2 ⟨rfl,hr2,hm2⟩;have hr2':=hid hr2;have hm2':=hid hm2;clear hr2 hm2;go_wp2_with fail
 refine (hct.out w2 (hm2'.out.cell (hx1.out.cell hmx'.out (fun h=>h)) (fun e=>by have:=hmm.out;simp only at e;omega))).mono ?_;rintro e w3 ⟨rfl,m,rfl⟩;have hx3:=hid (Mod.ofDrewN (Mod.refl (fun _=>False) w2) m);generalize w2.drewN m=w3 at hx3 ⊢;go_wp2_with fail
 go_ret;exact ⟨rfl,hr2'.out.mod hx3.out (fun h=>h) (fun h=>h),(hx1.out.mono (fun _ h=>h.elim)).trans (hm2'.out.trans (hx3.out.mono (fun _ h=>h.elim)))⟩
theorem loop_any (c:EvC) (hk:c.k=1 \/ c.k=6) (hsv:c.sv=.iface 459 (.pointer (some ⟨c.rd,0,none⟩))) (s:EvS) (hv:ValSpec c.a1 c.a2 ⟨(llB c.k).toArray⟩ .empty) (hd:assoc s.d (⟨(llB c.k).toArray⟩:ByteArray)=none) (x:ByteArray) (i0:Int) (o5 o6 o7:Option Addr) (n5 c5 n6 c6 c7:Nat):
  NodeSpec 494 c #[.int .i64 i0,.string x,.string ⟨#[108,97,116,101,115,116]⟩,.string ⟨#[]⟩,.int .i64 (numV c.k),.slice o5 n5 c5,.slice o6 n6 c6,.slice o7 0 c7] s { s with d:=upd s.d ⟨(llB c.k).toArray⟩ (.string .empty) }:=by
 intro w h;have hls:=hid (fun W (h:EvAt W c s)=>rdList_any c hk hv hd W h.gl h.ord.2.2.2.2.2 h.rdr);have hl0:=hid (fun s' W (h:EvAt W c s')=>list_any c o7 0 c7 (fun _=>⟨0,.empty,.empty,.empty,0,none,0,0,none,0,0,none,0,0⟩) (fun _=>0) (fun _=>s') W (by decide) (fun h=>absurd h (Nat.lt_irrefl 0)) (fun i hi=>absurd hi (Nat.not_lt_zero i)) (fun i hi=>absurd hi (Nat.not_lt_zero i)) h);have hxA:=Mod.alloc (Mod.refl (fun _=>False) w) (.cells #[.int .i64 i0,.string x,.string ⟨#[108,97,116,101,115,116]⟩,.string ⟨#[]⟩,.int .i64 (numV c.k),.slice o5 n5 c5,.slice o6 n6 c6,.slice o7 0 c7] 673);have hA:=heap_alloc_new w (.cells #[.int .i64 i0,.string x,.string ⟨#[108,97,116,101,115,116]⟩,.string ⟨#[]⟩,.int .i64 (numV c.k),.slice o5 n5 c5,.slice o6 n6 c6,.slice o7 0 c7] 673);obtain ⟨A,hAe⟩:∃ A,A=w.heap.size:=⟨_,rfl⟩;rw [<- hAe] at hA;have hne1:=hid (show c.mm ≠ c.e by have:=h.ord;omega);have hne2:=hid (show c.mm ≠ A by obtain ⟨tv,h1,-⟩:=h.at_;have:=lt_of_at h1;have:=h.ord;omega);replace hAe:=hid hAe;have h0:=hid h;obtain ⟨n,hn⟩:∃ n,n=numV c.k:=⟨_,rfl⟩;rw [<- hn] at hls hxA hA ⊢;obtain ⟨rd,hrd⟩:∃ rd,rd=c.rd:=⟨_,rfl⟩;rw [<- hrd] at hls hsv;replace hn:=hid hn;replace hrd:=hid hrd;clear h hv hd hk;go_enter Tryz.func494,Tryz.ntmps494;go_upto_region 1 with fail
 try simp only [<- hAe.out]
 generalize w.alloc (.cells #[.int .i64 i0,.string x,.string ⟨#[108,97,116,101,115,116]⟩,.string ⟨#[]⟩,.int .i64 n,.slice o5 n5 c5,.slice o6 n6 c6,.slice o7 0 c7] 673)=wA at hxA hA ⊢;have hEA:=h0.out.ext hxA;obtain ⟨tv,hat,hown⟩:=hEA.at_;rw [hsv] at hat;have e1:=hid (show wA.cell? ⟨c.e,1,none⟩=some (.iface 459 (.pointer (some ⟨rd,0,none⟩))) from cellN hat 1);have b2:=hid (show wA.cell? ⟨A,2,none⟩=some (.string ⟨#[108,97,116,101,115,116]⟩) from cellN hA 2);have b3:=hid (show wA.cell? ⟨A,3,none⟩=some (.string ⟨#[]⟩) from cellN hA 3);have b4:=hid (show wA.cell? ⟨A,4,none⟩=some (.int .i64 n) from cellN hA 4);have b7:=hid (show wA.cell? ⟨A,7,none⟩=some (.slice o7 0 c7) from cellN hA 7);have hEA':=hid hEA;have hx1:=hid hxA;clear hA hxA hEA hat hown;refine wp_region_tree (.s (.q 0 (.q 1 (.q 2 (.q 3 (.q 4 (.q 5 (.q 6 (.q 7 (.q 8 (.q 9 (.q 10 (.c1 11 (.q 12 .done)))))))))))))) (by as_aux_lemma=>kernel_rfl) (by as_aux_lemma=>kernel_rfl) (by as_aux_lemma=>kernel_rfl) (by decide) ?_;have hv0:=hid (Mod.drew0 (fun _=>False) wA);refine wpTr_s (fun Wx=>Cdk.Mod (Eq c.mm) wA Wx) (fun _ _=>trivial) (hv0.out.mono (fun _ h=>h.elim)) ?_;generalize hWd:World.drew wA=V0 at hv0 ⊢
 iterate 11 (refine wpTr_q _ (by simp only [List.getD_cons_succ,List.getD_cons_zero];rfl) (by rfl) ?_ (fun w' hC=>?_) ?_;rotate_left;(have q0:=hC.cell e1.out (fun h=>hne1.out h);have q1:=hC.cell b2.out (fun h=>hne2.out h);have q2:=hC.cell b3.out (fun h=>hne2.out h);have q3:=hC.cell b4.out (fun h=>hne2.out h);go_simp;first | done | with_reducible rfl | exact rfl);try simp only [Act.put,sA,sZ,sS])
 refine wpTr_c1 _ (by simp only [List.getD_cons_succ,List.getD_cons_zero];rfl) ?_;refine wpN_c (by rfl) (fun K hK=>?_);go_simp;refine (hls.out V0 (hEA'.out.ext hv0.out)).mono ?_;rintro e V1 ⟨rfl,hr1,hm1⟩;have hc1:Cdk.Mod (Eq c.mm) wA V1:=(hv0.out.mono (fun _ h=>h.elim)).trans hm1;refine hK.out _ _ hc1 ?_;rw [hrd.out] at hr1;have hE1:=hid ((hEA'.out.ext hv0.out).read hm1 hr1);have hm1':=hid hc1;clear hK K hr1 hm1 hc1;try simp only [Act.put,sA,sZ,sS]
 iterate 1 (refine wpTr_q _ (by simp only [List.getD_cons_succ,List.getD_cons_zero];rfl) (by rfl) ?_ (fun w' hC=>?_) ?_;rotate_left;(have q0:=hC.cell e1.out (fun h=>hne1.out h);have q1:=hC.cell b2.out (fun h=>hne2.out h);have q2:=hC.cell b3.out (fun h=>hne2.out h);have q3:=hC.cell b4.out (fun h=>hne2.out h);go_simp;first | done | with_reducible rfl | exact rfl);try simp only [Act.put,sA,sZ,sS])
 refine wpTr_done ?_;have y7:V1.cell? ⟨A,7,none⟩=some (.slice o7 0 c7):=hm1'.out.cell b7.out (fun h=>hne2.out h);have hm2:=hid ((hx1.out.mono (fun _ h=>h.elim)).trans (hm1'.out.mono (fun _ h=>Or.inl h.symm):Cdk.Mod (EvM c) _ _));clear e1 b2 b3 b4 b7;go_wp2_with fail
 refine (hl0.out _ V1 hE1.out).mono ?_;rintro e V2 ⟨rfl,hE2,hm3⟩;have hm4:=hid (hm2.out.trans hm3);have hE2':=hid hE2;clear hE2 hm3;go_wp2_with fail
 exact bodyPost_ret (results_none rfl _ _ _) rfl ⟨rfl,hE2'.out,hm4.out⟩
end Go.Proofs.YtcopgcdhkgenkaaGreatDoor
