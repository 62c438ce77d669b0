import Derived.Test.YtcopgcdhkgenkaaGreatDoorV41
import Derived.Lib.BufferRead
import Derived.Shelf.SlSortCmp.SmallK
set_option linter.all false
set_option maxRecDepth 100000
set_option maxHeartbeats 16000000
namespace Go.Proofs.YtcopgcdhkgenkaaGreatDoor
open Go.Shelf Go.RowKit Cdk Scr
theorem row_text {W:World} {B:Nat} {v:Value} {l:Bs} (h:W.ownsRow B 5 1 v l.length (Lib.byteCells l)):∃ ao cap,v=.slice ao l.length cap/\(convert 38 9 v).run Tryz.prog W=.ok (.string ⟨l.toArray⟩) W:=by
 rcases h.2 with ⟨rfl,hn⟩ | ⟨g,cap,cur,rfl,h3,h4,h5,h6,h7,h8⟩
 ·have:l=[]:=List.eq_nil_of_length_eq_zero hn
  subst this;exact ⟨none,0,rfl,Lib.run_convert_nil_bytes W _ _ _ 0 Tryz.underlying38 Tryz.underlying5 Tryz.underlying9⟩
 ·refine ⟨some ⟨g,0,none⟩,cap,rfl,run_convert_bytes_back W _ _ _ ⟨g,0,none⟩ cap l Tryz.underlying38 Tryz.underlying5 Tryz.underlying9 (fun j hj=>?_)⟩
  rw [Addr.add_lit,Nat.zero_add,cellN h4 j];have hj2:(cur.toList.take (l.length*1))[j]?=some (.int .u8 (l[j].toNat:Int)):=by rw [h8];unfold Lib.byteCells;rw [List.getElem?_map,List.getElem?_eq_getElem hj];rfl
  rw [List.getElem?_take_of_lt (by omega)] at hj2;simpa using hj2
theorem ecatch_idle (p q:Nat) (w:World):
  CallsD Tryz.prog 400 #[.pointer (some ⟨p,0,none⟩),.pointer (some ⟨q,0,none⟩)] .returning w fun e u' w'=>e=.returned (.tuple #[])/\u'=.returning/\w'=w:=by
 refine callsD_of_wpS Tryz.func400 rfl fun c₀ cs hu=>?_
 apply wpS_seq;apply wpS_region;simp [wpOpsS,go_sem,recoverD,hu,Tryz.ntmps400,Exit.thenS];refine wpS_of_wp ?_;simp only [Array.replicate_succ,Array.replicate_zero,List.push_toArray,List.setIfInBounds_toArray,List.set_cons_zero,List.set_cons_succ,List.append_toArray,List.nil_append,List.cons_append];go_wp2_with fail
 cases c₀
 simp_all [bodyPostS,results,Tryz.results400]
theorem evalRun_any (a1 a2:Option Addr) (c1 c2:Nat) (k:Int) (url word:ByteArray) (rd mm:Nat) (d:List (ByteArray × Value)) (ao:Option Addr) (n cap:Nat) (nd:Nat -> NV) (kf:Nat -> Nat) (σ:Nat -> EvS) (w:World) (hn:n<=100)
  (hG:Gl w) (hR:RdrAt w a1 a2 c1 c2 k url word rd mm d) (hlt:rd < w.heap.size/\mm < w.heap.size/\12<=mm)
  (hrow:0 < n -> ∃ b off,ao=some ⟨b,off,none⟩/\b < w.heap.size/\b ≠ mm/\∀ i,i < n -> ∀ j,j < 8 -> w.cell? ⟨b,off+i*8+j,none⟩=(nd i).row[j]?)
  (hk:∀ i,i < n -> assoc kindD (nd i).kd=some (kfn (kf i))/\(∀ args w,(callFunc (kf i) args).run Tryz.prog w=.ok (.enter (kf i) args) w))
  (hσ0:σ 0=⟨[],d,0⟩) (hlen:(σ n).tx.length<=8192)
  (hs:∀ e km,∀ i,i < n -> (σ i).st < 2000/\NodeSpec (kf i) ⟨a1,a2,c1,c2,k,url,word,rd,mm,e,km,.iface 459 (.pointer (some ⟨rd,0,none⟩))⟩ (nd i).row (σ i).step (σ (i+1))):
  Calls Tryz.prog 314 #[.slice ao n cap,.iface 459 (.pointer (some ⟨rd,0,none⟩)),.int .i64 0] w fun e w'=>e=.returned (.tuple #[.string ⟨(σ n).tx.toArray⟩,.int .i64 0])/\RdrAt w' a1 a2 c1 c2 k url word rd mm (σ n).d/\Cdk.Mod (Eq mm) w w':=by
 have hmf:∀ (fn:Fn) (first cap:Array Value) (w:World),(Instr.makeFunc fn first cap).run Tryz.prog w=.ok (.func fn first cap) w:=fun _ _ _ _=>rfl
 obtain ⟨U,hU⟩:∃ U,U=w.heap.size:=⟨_,rfl⟩;have hx0:=allocs_ext (S:=fun _=>False) [.cells #[.string ⟨#[]⟩] 9,.cells #[.int .i64 0] 26] w;have hg:=allocs_get [.cells #[.string ⟨#[]⟩] 9,.cells #[.int .i64 0] 26] w;have hz:=allocs_size [.cells #[.string ⟨#[]⟩] 9,.cells #[.int .i64 0] 26] w;have k0:=hg 0 (by simp);have k1:=hg 1 (by simp);simp only [allocs,<- hU,Nat.add_zero,List.length_cons,List.length_nil] at hx0 k0 k1 hz;clear hg;have hU':=hid hU;have hR0:=hid hR;have hrow':=hid hrow;have hk':=hid hk;have hs':=hid hs;have hG0:=hid hG;have hlt':=hid hlt;have hlen':=hid hlen;have hσ':=hid hσ0;replace hx0:=hid hx0;replace k0:=hid k0;replace k1:=hid k1;replace hz:=hid hz;clear hR hrow hk hs hG hlt hlen hσ0 hU
 go_enter_defers Tryz.func314,Tryz.ntmps314
 go_wp2_with fail
 simp only [<- hU'.out];replace hlt':=hid (hU'.out ▸ hlt'.out);generalize (w.alloc (.cells #[.string ⟨#[]⟩] 9)).alloc (.cells #[.int .i64 0] 26)=w2 at hx0 k0 k1 hz ⊢;refine (kinds_any w2).mono ?_;rintro e w3 ⟨rfl,hk3,hx3⟩;obtain ⟨km,hkm⟩:∃ km,km=w2.heap.size:=⟨_,rfl⟩;rw [<- hkm] at hk3 ⊢;have hkU:Hid (U+1 < km):=hid (by have:=hz.out;omega);have hU3:=hid (hx3.at k0.out (fun h=>h));have hC3:=hid (hx3.at k1.out (fun h=>h));have hx03:=hid (hx0.out.trans hx3);have hk3':=hid hk3;have hkl:Hid (km < w3.heap.size):=hid (by obtain ⟨es,cl,hh,_⟩:=hk3;exact lt_of_at hh);replace hkm:=hid hkm;clear hk3 hx3 k0 k1 hx0;have hxE:=Mod.alloc (Mod.refl (fun _=>False) w3) (.cells #[.slice none 0 0,.iface 459 (.pointer (some ⟨rd,0,none⟩)),.map (some km),.int .i64 0,.int .i64 0] 619);have hE:=heap_alloc_new w3 (.cells #[.slice none 0 0,.iface 459 (.pointer (some ⟨rd,0,none⟩)),.map (some km),.int .i64 0,.int .i64 0] 619);obtain ⟨E,hEe⟩:∃ E,E=w3.heap.size:=⟨_,rfl⟩;go_upto_region 5 with fail
 rw [<- hEe] at hE ⊢;have hkE:Hid (km < E):=hid (by have:=hkl.out;omega);have hEw:Hid (w3.heap.size<=E):=hid (Nat.le_of_eq hEe.symm);replace hEe:=hid hEe;generalize w3.alloc (.cells #[.slice none 0 0,.iface 459 (.pointer (some ⟨rd,0,none⟩)),.map (some km),.int .i64 0,.int .i64 0] 619)=w4 at hxE hE ⊢;have hx4:=hid (hx03.out.trans hxE)
 have hEA:Hid (EvAt w4 ⟨a1,a2,c1,c2,k,url,word,rd,mm,E,km,.iface 459 (.pointer (some ⟨rd,0,none⟩))⟩ (σ 0)):=hid (by
  rw [hσ'.out];have h1:=hlt'.out;have h2:=hkU.out;have h3:=hkE.out
  exact ⟨hR0.out.mod hx4.out (fun h=>h) (fun h=>h),hk3'.out.mod hxE (fun h=>h),⟨_,hE,rfl,.inl ⟨rfl,rfl⟩⟩,⟨by show rd < E;omega,by show mm < E;omega,h3,hR0.out.ne,by show km ≠ mm;omega,h1.2.2⟩,hG0.out.ext hx4.out⟩)
 have hls:=hid (list_any ⟨a1,a2,c1,c2,k,url,word,rd,mm,E,km,.iface 459 (.pointer (some ⟨rd,0,none⟩))⟩ ao n cap nd kf σ w4 hn (fun h=>by
  obtain ⟨b,off,e,h1,h2,h3⟩:=hrow'.out h;have h4:=hU'.out;have h5:=hkU.out;have h6:=hkE.out;refine ⟨b,off,e,by show b < E;omega,h2,fun i hi j hj=>?_⟩;have h7:=h3 i hi j hj;obtain ⟨u,hu⟩:∃ u,((nd i).row)[j]?=some u:=⟨_,Array.getElem?_eq_getElem (show j < 8 from hj)⟩;rw [hu] at h7 ⊢
  exact hx4.out.cell h7 (fun h=>h)) hk'.out (hs'.out E km) hEA.out)
 have hU4:=hid (hxE.at hU3.out (fun h=>h));have hC4:=hid (hxE.at hC3.out (fun h=>h));clear hxE hE hEA hx03 hU3 hC3 hk3' hrow' hk' hs';go_wp2_with fail
 refine hls.out.mono ?_;rintro e w5 ⟨rfl,hE5,hm5⟩;obtain ⟨tv,hat,hown⟩:=hE5.at_;have hr5:=hid hE5.rdr;obtain ⟨ao5,cap5,rfl,hcv⟩:=row_text hown;obtain ⟨T,hT⟩:∃ T,T=(σ n).tx:=⟨_,rfl⟩;rw [<- hT] at hcv hat hown;replace hT:=hid hT;have c0:w5.cell? ⟨E,0,none⟩=some (.slice ao5 T.length cap5):=cellN hat 0;have hnU:¬ EvM ⟨a1,a2,c1,c2,k,url,word,rd,mm,E,km,.iface 459 (.pointer (some ⟨rd,0,none⟩))⟩ U:=fun h=>by have h1:=hlt'.out;have h2:=hkU.out;have h3:=hkE.out;rcases h with h | h <;> simp only at h <;> omega
 have hnC:¬ EvM ⟨a1,a2,c1,c2,k,url,word,rd,mm,E,km,.iface 459 (.pointer (some ⟨rd,0,none⟩))⟩ (U+1):=fun h=>by have h1:=hlt'.out;have h2:=hkU.out;have h3:=hkE.out;rcases h with h | h <;> simp only at h <;> omega
 have hU5:=hm5.at hU4.out hnU;have hC5:=hm5.at hC4.out hnC;have hm5':Hid (Cdk.Mod (Eq mm) w w5):=hid ((hx4.out.mono (fun _ h=>h.elim)).then hm5 (fun q hq h=>by have h1:=hU'.out;have h2:=hkU.out;have h3:=hkE.out;rcases h with h | h <;> simp only at h <;> omega));have u0:w5.cell? ⟨U,0,none⟩=some (.string ⟨#[]⟩):=cellN hU5 0;have z0:=freeN hU5 0;have hUA:=put1 (v:=.string ⟨T.toArray⟩) hU5;have hCA:=(put_ne w5 (b:=U) (k:=U+1) 0 (.string ⟨T.toArray⟩) (by omega)).trans hC5;have u1:(w5.setCell ⟨U,0,none⟩ (.string ⟨T.toArray⟩)).cell? ⟨U+1,0,none⟩=some (.int .i64 0):=cellN hCA 0;have z1:=freeN hCA 0;have hCC:=hid (put1 (v:=.int .i64 0) hCA);have hUC:=hid ((put_ne (w5.setCell ⟨U,0,none⟩ (.string ⟨T.toArray⟩)) (b:=U+1) (k:=U) 0 (.int .i64 0) (by omega)).trans hUA);have hxs:Hid (Cdk.Mod (fun q=>U<=q/\q<=U+1) w5 ((w5.setCell ⟨U,0,none⟩ (.string ⟨T.toArray⟩)).setCell ⟨U+1,0,none⟩ (.int .i64 0))):=hid (((Mod.refl _ w5).setCell (a:=⟨U,0,none⟩) (fun _=>⟨Nat.le_refl _,Nat.le_succ _⟩) _).setCell (a:=⟨U+1,0,none⟩) (fun _=>⟨Nat.le_succ _,Nat.le_refl _⟩) _);clear hat hown hE5 hm5 hU5 hC5 hUA hCA hnU hnC hls;go_wp2_with fail
 generalize (w5.setCell ⟨U,0,none⟩ (.string ⟨T.toArray⟩)).setCell ⟨U+1,0,none⟩ (.int .i64 0)=wC at hUC hCC hxs ⊢;refine leaves_cons (f:=400) (args:=#[.pointer (some ⟨U,0,none⟩),.pointer (some ⟨U+1,0,none⟩)]) (by simp) (by simp [go_sem]) ?_;refine (ecatch_idle U (U+1) _).mono ?_;rintro e u' w'' ⟨rfl,rfl,rfl⟩;have v0:w''.cell? ⟨U,0,none⟩=some (.string ⟨T.toArray⟩):=cellN hUC.out 0;have v1:w''.cell? ⟨U+1,0,none⟩=some (.int .i64 0):=cellN hCC.out 0;refine ⟨_,results_cells2 rfl _ _ ⟨U,0,none⟩ ⟨U+1,0,none⟩ (.string ⟨T.toArray⟩) (.int .i64 0) rfl rfl (by go_simp) (by go_simp),?_⟩;have h1:=hlt'.out;exact ⟨by rw [hT.out],hr5.out.mod hxs.out (by show ¬ (U<=rd/\rd<=U+1);omega) (by show ¬ (U<=mm/\mm<=U+1);omega),hm5'.out.then hxs.out (fun q hq h=>by have h2:=hU'.out;omega)⟩
def dk (k:Int):List (ByteArray × Value):=[(⟨(akB k).toArray⟩,.string ⟨#[49]⟩),(⟨(tkB k).toArray⟩,.string .empty)]
def dF (k:Int):List (ByteArray × Value):=if k=1 then dk 1++[(⟨(llB 1).toArray⟩,.string .empty)] else dk 6++[(fnB 8,.string .empty),(fnB 9,.string .empty),(⟨(llB 6).toArray⟩,.string .empty)]
theorem evalPage1_any (a1 a2:Option Addr) (c1 c2:Nat) (url word:ByteArray) (rd mm:Nat) {F:Nat -> Prop} {v:Value} (w:World) (hG:Gl w) (hN:Ps.NodesAt F w v (ndL 1)) (hF:∀ b,F b -> b < w.heap.size/\b ≠ mm) (hR:RdrAt w a1 a2 c1 c2 1 url word rd mm (dk 1)) (hlt:rd < w.heap.size/\mm < w.heap.size/\12<=mm):
  Calls Tryz.prog 314 #[v,.iface 459 (.pointer (some ⟨rd,0,none⟩)),.int .i64 0] w fun e w'=>(∃ t,e=.returned (.tuple #[.string t,.int .i64 0]))/\RdrAt w' a1 a2 c1 c2 1 url word rd mm (dF 1)/\Cdk.Mod (Eq mm) w w':=by
 have hk:(1:Int)=1 \/ (1:Int)=6:=by decide
 obtain ⟨ao,cap,nd,rfl,hrow,hfit⟩:=nodes_view hN;have f0:=hfit 0 (by decide);have f1:=hfit 1 (by decide);let σ0:EvS:=⟨[],dk 1,0⟩
 let σ1:EvS:=⟨[70,114,111,110,116,32,112,97,103,101,10],dk 1,1⟩
 let σ2:EvS:=⟨[70,114,111,110,116,32,112,97,103,101,10],upd (dk 1) ⟨(llB 1).toArray⟩ (.string .empty),2⟩
 have S0:∀ e km,NodeSpec 492 ⟨a1,a2,c1,c2,1,url,word,rd,mm,e,km,.iface 459 (.pointer (some ⟨rd,0,none⟩))⟩ (nd 0).row (σ0).step σ1:=fun e km=>by
   have h:=literal_any ⟨a1,a2,c1,c2,1,url,word,rd,mm,e,km,.iface 459 (.pointer (some ⟨rd,0,none⟩))⟩ (σ0).step (nd 0).tx (nd 0).nm (nd 0).ar (nd 0).kd (nd 0).ct (nd 0).o5 (nd 0).o6 (nd 0).o7 (nd 0).n5 (nd 0).c5 (nd 0).n6 (nd 0).c6 (nd 0).n7 (nd 0).c7 (by rw [f0.tx];decide);have e:({ (σ0).step with tx:=(σ0).step.tx++(nd 0).tx.data.toList }:EvS)=σ1:=by rw [f0.tx];rfl
   rw [e] at h;exact h
 have S1:∀ e km,NodeSpec 494 ⟨a1,a2,c1,c2,1,url,word,rd,mm,e,km,.iface 459 (.pointer (some ⟨rd,0,none⟩))⟩ (nd 1).row (σ1).step σ2:=fun e km=>by
   have hrw:(nd 1).row=#[.int .i64 (nd 1).kd,.string (nd 1).tx,.string ⟨#[108,97,116,101,115,116]⟩,.string ⟨#[]⟩,.int .i64 (numV 1),.slice (nd 1).o5 (nd 1).n5 (nd 1).c5,.slice (nd 1).o6 (nd 1).n6 (nd 1).c6,.slice (nd 1).o7 0 (nd 1).c7]:=by unfold NV.row;rw [f1.nm,f1.ar,f1.ct,f1.n7];rfl
   rw [hrw];exact loop_any ⟨a1,a2,c1,c2,1,url,word,rd,mm,e,km,.iface 459 (.pointer (some ⟨rd,0,none⟩))⟩ hk rfl (σ1).step (valLatest_any 1 hk a1 a2) (by kernel_rfl) (nd 1).tx (nd 1).kd (nd 1).o5 (nd 1).o6 (nd 1).o7 (nd 1).n5 (nd 1).c5 (nd 1).n6 (nd 1).c6 (nd 1).c7
 have hev:=evalRun_any a1 a2 c1 c2 1 url word rd mm (dk 1) ao 2 cap nd (fun i=>[492,494].getD i 0) (fun i=>[σ0,σ1,σ2].getD i σ0) w (by decide) hG hR hlt
  (fun _=>by
   obtain ⟨b,off,e,hb,hc⟩:=hrow (by decide)
   exact ⟨b,off,e,(hF b hb).1,(hF b hb).2,hc⟩)
  (fun i hi=>by
   match i,hi with
   | 0,_=>exact ⟨by rw [f0.kd];rfl,enters_of Tryz.func492 (by kernel_rfl) rfl⟩
   | 1,_=>exact ⟨by rw [f1.kd];rfl,enters_of Tryz.func494 (by kernel_rfl) rfl⟩
   | i+2,hi=>omega)
  rfl (by decide)
  (fun e km i hi=>by
   match i,hi with
   | 0,_=>exact ⟨by decide,S0 e km⟩
   | 1,_=>exact ⟨by decide,S1 e km⟩
   | i+2,hi=>omega)
 refine hev.mono ?_;rintro e w' ⟨rfl,h1,h2⟩;have hd:([σ0,σ1,σ2].getD 2 σ0).d=dF 1:=by kernel_rfl
 rw [hd] at h1;exact ⟨⟨_,rfl⟩,h1,h2⟩
theorem evalPage6_any (a1 a2:Option Addr) (c1 c2:Nat) (url word:ByteArray) (rd mm:Nat) {F:Nat -> Prop} {v:Value} (w:World) (hG:Gl w) (hN:Ps.NodesAt F w v (ndL 6)) (hF:∀ b,F b -> b < w.heap.size/\b ≠ mm) (hR:RdrAt w a1 a2 c1 c2 6 url word rd mm (dk 6)) (hlt:rd < w.heap.size/\mm < w.heap.size/\12<=mm):
  Calls Tryz.prog 314 #[v,.iface 459 (.pointer (some ⟨rd,0,none⟩)),.int .i64 0] w fun e w'=>(∃ t,e=.returned (.tuple #[.string t,.int .i64 0]))/\RdrAt w' a1 a2 c1 c2 6 url word rd mm (dF 6)/\Cdk.Mod (Eq mm) w w':=by
 have hk:(6:Int)=1 \/ (6:Int)=6:=by decide
 obtain ⟨ao,cap,nd,rfl,hrow,hfit⟩:=nodes_view hN;have f0:=hfit 0 (by decide);have f1:=hfit 1 (by decide);have f2:=hfit 2 (by decide);have f3:=hfit 3 (by decide);have f4:=hfit 4 (by decide);let σ0:EvS:=⟨[],dk 6,0⟩
 let σ1:EvS:=⟨[],upd (dk 6) (fnB 8) (.string .empty),1⟩
 let σ2:EvS:=⟨[10],upd (dk 6) (fnB 8) (.string .empty),2⟩
 let σ3:EvS:=⟨[10],upd (upd (dk 6) (fnB 8) (.string .empty)) (fnB 9) (.string .empty),3⟩
 let σ4:EvS:=⟨[10,10],upd (upd (dk 6) (fnB 8) (.string .empty)) (fnB 9) (.string .empty),4⟩
 let σ5:EvS:=⟨[10,10],upd (upd (upd (dk 6) (fnB 8) (.string .empty)) (fnB 9) (.string .empty)) ⟨(llB 6).toArray⟩ (.string .empty),5⟩
 have S0:∀ e km,NodeSpec 493 ⟨a1,a2,c1,c2,6,url,word,rd,mm,e,km,.iface 459 (.pointer (some ⟨rd,0,none⟩))⟩ (nd 0).row (σ0).step σ1:=fun e km=>by
   have hrw:(nd 0).row=#[.int .i64 (nd 0).kd,.string (nd 0).tx,.string (fnB 8),.string (nd 0).ar,.int .i64 (nd 0).ct,.slice (nd 0).o5 0 (nd 0).c5,.slice (nd 0).o6 (nd 0).n6 (nd 0).c6,.slice (nd 0).o7 (nd 0).n7 (nd 0).c7]:=by unfold NV.row;rw [f0.nm,f0.n5];rfl
   rw [hrw];exact field_any ⟨a1,a2,c1,c2,6,url,word,rd,mm,e,km,.iface 459 (.pointer (some ⟨rd,0,none⟩))⟩ hk rfl (σ0).step 8 (by decide) (valTopics_any a1 a2) (by kernel_rfl) (by decide) (nd 0).tx (nd 0).ar (nd 0).kd (nd 0).ct (nd 0).o5 (nd 0).o6 (nd 0).o7 (nd 0).c5 (nd 0).n6 (nd 0).c6 (nd 0).n7 (nd 0).c7
 have S1:∀ e km,NodeSpec 492 ⟨a1,a2,c1,c2,6,url,word,rd,mm,e,km,.iface 459 (.pointer (some ⟨rd,0,none⟩))⟩ (nd 1).row (σ1).step σ2:=fun e km=>by
   have h:=literal_any ⟨a1,a2,c1,c2,6,url,word,rd,mm,e,km,.iface 459 (.pointer (some ⟨rd,0,none⟩))⟩ (σ1).step (nd 1).tx (nd 1).nm (nd 1).ar (nd 1).kd (nd 1).ct (nd 1).o5 (nd 1).o6 (nd 1).o7 (nd 1).n5 (nd 1).c5 (nd 1).n6 (nd 1).c6 (nd 1).n7 (nd 1).c7 (by rw [f1.tx];decide);have e:({ (σ1).step with tx:=(σ1).step.tx++(nd 1).tx.data.toList }:EvS)=σ2:=by rw [f1.tx];rfl
   rw [e] at h;exact h
 have S2:∀ e km,NodeSpec 493 ⟨a1,a2,c1,c2,6,url,word,rd,mm,e,km,.iface 459 (.pointer (some ⟨rd,0,none⟩))⟩ (nd 2).row (σ2).step σ3:=fun e km=>by
   have hrw:(nd 2).row=#[.int .i64 (nd 2).kd,.string (nd 2).tx,.string (fnB 9),.string (nd 2).ar,.int .i64 (nd 2).ct,.slice (nd 2).o5 0 (nd 2).c5,.slice (nd 2).o6 (nd 2).n6 (nd 2).c6,.slice (nd 2).o7 (nd 2).n7 (nd 2).c7]:=by unfold NV.row;rw [f2.nm,f2.n5];rfl
   rw [hrw];exact field_any ⟨a1,a2,c1,c2,6,url,word,rd,mm,e,km,.iface 459 (.pointer (some ⟨rd,0,none⟩))⟩ hk rfl (σ2).step 9 (by decide) (valAuthors_any a1 a2) (by kernel_rfl) (by decide) (nd 2).tx (nd 2).ar (nd 2).kd (nd 2).ct (nd 2).o5 (nd 2).o6 (nd 2).o7 (nd 2).c5 (nd 2).n6 (nd 2).c6 (nd 2).n7 (nd 2).c7
 have S3:∀ e km,NodeSpec 492 ⟨a1,a2,c1,c2,6,url,word,rd,mm,e,km,.iface 459 (.pointer (some ⟨rd,0,none⟩))⟩ (nd 3).row (σ3).step σ4:=fun e km=>by
   have h:=literal_any ⟨a1,a2,c1,c2,6,url,word,rd,mm,e,km,.iface 459 (.pointer (some ⟨rd,0,none⟩))⟩ (σ3).step (nd 3).tx (nd 3).nm (nd 3).ar (nd 3).kd (nd 3).ct (nd 3).o5 (nd 3).o6 (nd 3).o7 (nd 3).n5 (nd 3).c5 (nd 3).n6 (nd 3).c6 (nd 3).n7 (nd 3).c7 (by rw [f3.tx];decide);have e:({ (σ3).step with tx:=(σ3).step.tx++(nd 3).tx.data.toList }:EvS)=σ4:=by rw [f3.tx];rfl
   rw [e] at h;exact h
 have S4:∀ e km,NodeSpec 494 ⟨a1,a2,c1,c2,6,url,word,rd,mm,e,km,.iface 459 (.pointer (some ⟨rd,0,none⟩))⟩ (nd 4).row (σ4).step σ5:=fun e km=>by
   have hrw:(nd 4).row=#[.int .i64 (nd 4).kd,.string (nd 4).tx,.string ⟨#[108,97,116,101,115,116]⟩,.string ⟨#[]⟩,.int .i64 (numV 6),.slice (nd 4).o5 (nd 4).n5 (nd 4).c5,.slice (nd 4).o6 (nd 4).n6 (nd 4).c6,.slice (nd 4).o7 0 (nd 4).c7]:=by unfold NV.row;rw [f4.nm,f4.ar,f4.ct,f4.n7];rfl
   rw [hrw];exact loop_any ⟨a1,a2,c1,c2,6,url,word,rd,mm,e,km,.iface 459 (.pointer (some ⟨rd,0,none⟩))⟩ hk rfl (σ4).step (valLatest_any 6 hk a1 a2) (by kernel_rfl) (nd 4).tx (nd 4).kd (nd 4).o5 (nd 4).o6 (nd 4).o7 (nd 4).n5 (nd 4).c5 (nd 4).n6 (nd 4).c6 (nd 4).c7
 have hev:=evalRun_any a1 a2 c1 c2 6 url word rd mm (dk 6) ao 5 cap nd (fun i=>[493,492,493,492,494].getD i 0) (fun i=>[σ0,σ1,σ2,σ3,σ4,σ5].getD i σ0) w (by decide) hG hR hlt
  (fun _=>by
   obtain ⟨b,off,e,hb,hc⟩:=hrow (by decide)
   exact ⟨b,off,e,(hF b hb).1,(hF b hb).2,hc⟩)
  (fun i hi=>by
   match i,hi with
   | 0,_=>exact ⟨by rw [f0.kd];rfl,enters_of Tryz.func493 (by kernel_rfl) rfl⟩
   | 1,_=>exact ⟨by rw [f1.kd];rfl,enters_of Tryz.func492 (by kernel_rfl) rfl⟩
   | 2,_=>exact ⟨by rw [f2.kd];rfl,enters_of Tryz.func493 (by kernel_rfl) rfl⟩
   | 3,_=>exact ⟨by rw [f3.kd];rfl,enters_of Tryz.func492 (by kernel_rfl) rfl⟩
   | 4,_=>exact ⟨by rw [f4.kd];rfl,enters_of Tryz.func494 (by kernel_rfl) rfl⟩
   | i+5,hi=>omega)
  rfl (by decide)
  (fun e km i hi=>by
   match i,hi with
   | 0,_=>exact ⟨by decide,S0 e km⟩
   | 1,_=>exact ⟨by decide,S1 e km⟩
   | 2,_=>exact ⟨by decide,S2 e km⟩
   | 3,_=>exact ⟨by decide,S3 e km⟩
   | 4,_=>exact ⟨by decide,S4 e km⟩
   | i+5,hi=>omega)
 refine hev.mono ?_;rintro e w' ⟨rfl,h1,h2⟩;have hd:([σ0,σ1,σ2,σ3,σ4,σ5].getD 5 σ0).d=dF 6:=by kernel_rfl
 rw [hd] at h1;exact ⟨⟨_,rfl⟩,h1,h2⟩
theorem evalPage_any (k:Int) (hk:k=1 \/ k=6) (a1 a2:Option Addr) (c1 c2:Nat) (url word:ByteArray) (rd mm:Nat) {F:Nat -> Prop} {v:Value} (w:World) (hG:Gl w) (hN:Ps.NodesAt F w v (ndL k)) (hF:∀ b,F b -> b < w.heap.size/\b ≠ mm) (hR:RdrAt w a1 a2 c1 c2 k url word rd mm (dk k)) (hlt:rd < w.heap.size/\mm < w.heap.size/\12<=mm):
  Calls Tryz.prog 314 #[v,.iface 459 (.pointer (some ⟨rd,0,none⟩)),.int .i64 0] w fun e w'=>(∃ t,e=.returned (.tuple #[.string t,.int .i64 0]))/\RdrAt w' a1 a2 c1 c2 k url word rd mm (dF k)/\Cdk.Mod (Eq mm) w w':=by
 rcases hk with rfl | rfl
 ·exact evalPage1_any a1 a2 c1 c2 url word rd mm w hG hN hF hR hlt
 ·exact evalPage6_any a1 a2 c1 c2 url word rd mm w hG hN hF hR hlt
theorem run_any (k:Int) (hk:k=1 \/ k=6) (a1 a2:Option Addr) (c1 c2:Nat) (url word:ByteArray) (rd mm:Nat) (w:World) (hG:Gl w) (hR:RdrAt w a1 a2 c1 c2 k url word rd mm (dk k)) (h12:12<=mm):
  Calls Tryz.prog 248 #[.pointer (some ⟨rd,0,none⟩),.string ⟨(ktB k).toArray⟩,.int .i64 0] w fun e w'=>(∃ t,e=.returned (.string t))/\RdrAt w' a1 a2 c1 c2 k url word rd mm (dF k)/\Cdk.Mod (Eq mm) w w':=by
 have hps:=hid (Ps.Parse_any ⟨(ktB k).toArray⟩ w);have hml:mm < w.heap.size:=by obtain ⟨es,cl,hh,_⟩:=hR.map;exact lt_of_at hh
 have hrl:rd < w.heap.size:=lt_of_at hR.at_;have hev:=hid (fun (v:Value) (W:World) (hx:Ext w W) (hN:Ps.NodesAt (Ps.Since w W) W v (ndL k))=>evalPage_any k hk a1 a2 c1 c2 url word rd mm W (hG.ext hx) hN (fun b hb=>⟨hb.2,by have:=hb.1;omega⟩) (hR.mod hx (fun h=>h) (fun h=>h)) ⟨by have:=hx.size;omega,by have:=hx.size;omega,h12⟩);have hpk:=parse_ktB k hk;obtain ⟨S,hS⟩:∃ S,S=(⟨(ktB k).toArray⟩:ByteArray):=⟨_,rfl⟩;have hSl:S.data.toList=ktB k:=by rw [hS]
 rw [<- hS] at hps ⊢;rw [hSl] at hps;replace hS:=hid hS;replace hpk:=hid hpk;clear hR hG hml hrl hSl;go_enter Tryz.func248,Tryz.ntmps248;go_wp2_with fail
 refine hps.out.mono ?_;rintro e w1 ⟨hx1,h1⟩;rw [hpk.out] at h1;obtain ⟨v,rfl,hN⟩:=h1;have hx1':=hid hx1;have hcall:=hid (hev.out v w1 hx1 hN);obtain ⟨ao,cap,rfl⟩:=nodes_slice hN;clear hx1 hN hev;go_wp2_with fail
 refine hcall.out.mono ?_;rintro e w2 ⟨⟨t,rfl⟩,hr2,hm2⟩;have hr2':=hid hr2;have hm2':=hid ((hx1'.out.mono (fun _ h=>h.elim)).trans hm2);clear hr2 hm2 hcall;go_wp2_with fail
 go_ret;exact ⟨⟨_,rfl⟩,hr2'.out,hm2'.out⟩
end Go.Proofs.YtcopgcdhkgenkaaGreatDoor
namespace Go.Proofs
open Go.Shelf
def Tryz.sortRd_ren:Go.Shelf.Ren:=⟨fun | 6=>316 | 15=>263 | 14=>404 | 28=>337 | 29=>338 | 20=>499 | 21=>500 | 22=>501 | 23=>502 | 24=>503 | 25=>504 | 26=>505 | 27=>506 | 46=>569 | 47=>420 | 48=>421 | 49=>570 | 50=>571 | 57=>614 | n=>n,fun | 22=>333 | 24=>387 | 25=>521 | 3=>3 | 39=>96 | 0=>0 | 53=>95 | 55=>175 | 4=>4 | 46=>537 | 45=>536 | 50=>541 | 5=>5 | 9=>9 | 66=>629 | 70=>486 | 76=>692 | 77=>283 | n=>n,fun | n=>n⟩
theorem Tryz.sortRd:Go.Proofs.SlLaysF0.n6 Tryz.prog Tryz.sortRd_ren:={
 mixed:=by kernel_rfl
 f6:=⟨Tryz.f316.name,by decide,Tryz.func316.trans (congrArg some (by kernel_rfl))⟩
 f14:=⟨Tryz.f404.name,by decide,Tryz.func404.trans (congrArg some (by kernel_rfl))⟩
 f15:=Tryz.func263.trans (congrArg some (by kernel_rfl))
 f20:=⟨Tryz.f499.name,by decide,Tryz.func499.trans (congrArg some (by kernel_rfl))⟩
 f21:=⟨Tryz.f500.name,by decide,Tryz.func500.trans (congrArg some (by kernel_rfl))⟩
 f22:=⟨Tryz.f501.name,by decide,Tryz.func501.trans (congrArg some (by kernel_rfl))⟩
 f23:=⟨Tryz.f502.name,by decide,Tryz.func502.trans (congrArg some (by kernel_rfl))⟩
 f24:=⟨Tryz.f503.name,by decide,Tryz.func503.trans (congrArg some (by kernel_rfl))⟩
 f25:=⟨Tryz.f504.name,by decide,Tryz.func504.trans (congrArg some (by kernel_rfl))⟩
 f26:=⟨Tryz.f505.name,by decide,Tryz.func505.trans (congrArg some (by kernel_rfl))⟩
 f27:=⟨Tryz.f506.name,by decide,Tryz.func506.trans (congrArg some (by kernel_rfl))⟩
 f28:=Tryz.func337.trans (congrArg some (by kernel_rfl))
 f29:=Tryz.func338.trans (congrArg some (by kernel_rfl))
 f46:=⟨Tryz.f569.name,by decide,Tryz.func569.trans (congrArg some (by kernel_rfl))⟩
 f47:=Tryz.func420.trans (congrArg some (by kernel_rfl))
 f48:=Tryz.func421.trans (congrArg some (by kernel_rfl))
 f49:=⟨Tryz.f570.name,by decide,Tryz.func570.trans (congrArg some (by kernel_rfl))⟩
 f50:=⟨Tryz.f571.name,by decide,Tryz.func571.trans (congrArg some (by kernel_rfl))⟩
 f57:=⟨Tryz.f614.name,by decide,Tryz.func614.trans (congrArg some (by kernel_rfl))⟩
 t0:=Tryz.underlying0
 a0:=Tryz.isAgg0
 z0:=Tryz.sizeOf0
 v0:=Tryz.zeroValue0
 t3:=Tryz.underlying3
 a3:=Tryz.isAgg3
 z3:=Tryz.sizeOf3
 v3:=Tryz.zeroValue3
 t4:=Tryz.underlying4
 a4:=Tryz.isAgg4
 z4:=Tryz.sizeOf4
 v4:=Tryz.zeroValue4
 t5:=Tryz.underlying5
 a5:=Tryz.isAgg5
 z5:=Tryz.sizeOf5
 v5:=Tryz.zeroValue5
 t9:=Tryz.underlying9
 a9:=Tryz.isAgg9
 z9:=Tryz.sizeOf9
 v9:=Tryz.zeroValue9
 t22:=Tryz.underlying333
 a22:=Tryz.isAgg333
 z22:=Tryz.sizeOf333
 v22:=Tryz.zeroValue333
 t25:=Tryz.underlying521
 a25:=Tryz.isAgg521
 z25:=Tryz.sizeOf521
 v25:=Tryz.zeroValue521
 t39:=Tryz.underlying96
 a39:=Tryz.isAgg96
 z39:=Tryz.sizeOf96
 v39:=Tryz.zeroValue96
 t45:=Tryz.underlying536
 a45:=Tryz.isAgg536
 z45:=Tryz.sizeOf536
 v45:=Tryz.zeroValue536
 t46:=Tryz.underlying537
 a46:=Tryz.isAgg537
 z46:=Tryz.sizeOf537
 v46:=Tryz.zeroValue537
 t50:=Tryz.underlying541
 a50:=Tryz.isAgg541
 z50:=Tryz.sizeOf541
 v50:=Tryz.zeroValue541
 t53:=Tryz.underlying95
 a53:=Tryz.isAgg95
 z53:=Tryz.sizeOf95
 v53:=Tryz.zeroValue95
 t55:=Tryz.underlying175
 a55:=Tryz.isAgg175
 z55:=Tryz.sizeOf175
 v55:=Tryz.zeroValue175
 t66:=Tryz.underlying629
 a66:=Tryz.isAgg629
 z66:=Tryz.sizeOf629
 v66:=Tryz.zeroValue629
 t70:=Tryz.underlying486
 a70:=Tryz.isAgg486
 z70:=Tryz.sizeOf486
 v70:=Tryz.zeroValue486
 t76:=Tryz.underlying692
 a76:=Tryz.isAgg692
 z76:=Tryz.sizeOf692
 v76:=Tryz.zeroValue692
 t77:=Tryz.underlying283
 a77:=Tryz.isAgg283
 z77:=Tryz.sizeOf283
 v77:=Tryz.zeroValue283 }
end Go.Proofs
namespace Go.Proofs.YtcopgcdhkgenkaaGreatDoor
open Go.Shelf Go.RowKit Cdk Scr Go.Sort
def cmpS (x y:ByteArray):Int:=if Op.bytesLess x.toList y.toList then -1 else if x.toList==y.toList then 0 else 1
theorem compareS_any (x y:ByteArray) (w:World):Calls Tryz.prog 256 #[.string x,.string y] w fun e w'=>e=.returned (.int .i64 (cmpS x y))/\w=w':=by
 unfold cmpS;generalize ha:Op.bytesLess x.toList y.toList=a;generalize hb:(x.toList==y.toList)=b;cases a <;> cases b <;> simp only [Bool.false_eq_true,if_false,if_true] <;>
  (go_enter Tryz.func256,Tryz.ntmps256
   go_wp2_with fail
   refine (isNaN_str _ _).mono ?_;rintro e w1 ⟨rfl,rfl⟩;go_wp2_with fail
   refine (isNaN_str _ _).mono ?_;rintro e w1 ⟨rfl,rfl⟩;go_wp2_with fail
   go_ret
   exact ⟨rfl,rfl⟩)
theorem rdsCmp_any (x y:ByteArray × Int) (w:World):Calls Tryz.prog 317 #[.agg #[.string x.1,.int .i64 x.2],.agg #[.string y.1,.int .i64 y.2]] w fun e w'=>e=.returned (.int .i64 (cmpS x.1 y.1))/\∃ q os',w'=grow (w.drewN q) os':=by
 have hcs:=hid (fun W=>compareS_any x.1 y.1 W);go_enter Tryz.func317,Tryz.ntmps317;go_wp2_with fail
 refine (hcs.out _).mono ?_;rintro e w1 ⟨rfl,rfl⟩;go_wp2_with fail
 go_ret;exact ⟨rfl,0,_,by rw [alloc_eq_grow,alloc_eq_grow,grow_grow];rfl⟩
theorem swp_sz {α:Type} [Inhabited α] (d:Array α) (i j:Nat):(swp d i j).size=d.size:=by unfold swp;simp
theorem insInner_sz {α:Type} [Inhabited α] (lt:α -> α -> Bool) (a:Nat):∀ (j:Nat) (d:Array α),(insInner lt a j d).size=d.size:=fun j=>by
 induction j with
 | zero=>intro d;rfl
 | succ j ih=>
  intro d
  unfold insInner
  split
  ·rw [ih,swp_sz]
  ·rfl
theorem insOuter_sz {α:Type} [Inhabited α] (lt:α -> α -> Bool) (a b:Nat):∀ (n i:Nat) (d:Array α),b - i=n -> (insOuter lt a b i d).size=d.size:=fun n=>by
 induction n with
 | zero=>intro i d h;unfold insOuter;rw [if_neg (by omega)]
 | succ n ih=>intro i d h;unfold insOuter;rw [if_pos (by omega),ih _ _ (by omega),insInner_sz]
theorem sortWorld_mod {α:Type} [Inhabited α] (enc:α -> List Value) (k:Nat) (w:World) (blk off n:Nat) (d:Array α) (os:Array Obj):Cdk.Mod (Eq blk) w (sortWorldK enc k w blk off n d os):=by
 refine ⟨rfl,rfl,rfl,by unfold sortWorldK;rw [size_grow];unfold putRowK;rw [size_putRow];show w.heap.size<=w.heap.size+_;omega,fun j hj hne=>?_⟩;unfold sortWorldK;have h1:j < (putRowK enc k (Go.Sort.ahead w n) blk off d).heap.size:=by unfold putRowK;rw [size_putRow];exact hj
 rw [show (grow (putRowK enc k (Go.Sort.ahead w n) blk off d) os).heap[j]?=(putRowK enc k (Go.Sort.ahead w n) blk off d).heap[j]? from by unfold grow;exact Array.getElem?_append_left h1];unfold putRowK putRow mapBlock;show (w.heap.modify blk _)[j]?=w.heap[j]?
 rw [Array.getElem?_modify,if_neg hne]
theorem sortRds_any (blk off cap:Nat) (rs:List (ByteArray × Int)) (hn:rs.length<=12) (w:World) (hblk:blk < w.heap.size) (hH:HoldsK rdC 2 w blk off rs.toArray):
  Calls Tryz.prog 316 #[.slice (some ⟨blk,off,none⟩) rs.length cap,.func (.func 317) #[] #[]] w fun e w'=>e=.returned (.tuple #[])/\(∃ d':Array (ByteArray × Int),d'.size=rs.length/\HoldsK rdC 2 w' blk off d')/\Cdk.Mod (Eq blk) w w':=by
 have h:=AnyQ.slices_SortFunc_small Tryz.sortRd 2 (fun _=>by kernel_rfl) (fun _=>by kernel_rfl) rdC rdC_len (fun x v hv=>by simp only [rdC,List.mem_cons,List.mem_nil_iff,or_false] at hv;rcases hv with rfl | rfl <;> rfl) (fun x y=>cmpS x.1 y.1) 317 #[] blk off cap rs.toArray w (enters_of Tryz.func317 (by kernel_rfl) rfl) (fun m os dk _ x y=>rdsCmp_any x y _) hH hblk (by simpa using hn) (fun n W hn=>by
  refine (Tryz.bits_Len (n:Int) W (by omega) (by omega)).mono ?_;rintro e w' ⟨rfl,rfl⟩
  exact ⟨⟨_,rfl⟩,rfl⟩)
 have hsz:rs.toArray.size=rs.length:=by simp
 rw [hsz] at h;refine h.mono ?_;rintro e w' ⟨rfl,n,os,rfl⟩;have h2:(insertionSort (ltOf fun x y:ByteArray × Int=>cmpS x.1 y.1) rs.toArray 0 rs.length).size=rs.toArray.size:=insOuter_sz _ _ _ _ _ _ rfl;exact ⟨rfl,⟨_,h2.trans hsz,holdsK_sortWorldK_c rdC 2 w blk off rs.toArray _ n os hH hblk h2⟩,sortWorld_mod _ _ _ _ _ _ _ _⟩
end Go.Proofs.YtcopgcdhkgenkaaGreatDoor
