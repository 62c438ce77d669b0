import Derived.Test.YtcopgcdhkgenkaaGreatDoorLift
set_option linter.all false
set_option maxRecDepth 100000
set_option maxHeartbeats 16000000
namespace Go.Proofs.YtcopgcdhkgenkaaGreatDoor
open Go.Shelf Go.RowKit Cdk Scr
set_option maxRecDepth 100000 in
theorem partner_nil (k:Int) (w:World):Calls Tryz.prog 25 #[.pointer none,.int .i64 k] w fun e w'=>e=.returned (.tuple #[.pointer none,.bool false])/\w=w':=by
 have hm:=hid (missing_nil w);go_enter Tryz.func25,Tryz.ntmps25;go_wp2_with fail
 refine hm.out.mono ?_;rintro e w1 ⟨rfl,rfl⟩;go_wp2_with fail
 go_ret2
 exact ⟨rfl,rfl⟩
end Go.Proofs.YtcopgcdhkgenkaaGreatDoor
namespace Go.Proofs.YtcopgcdhkgenkaaGreatDoor
open Go.Shelf Go.RowKit Cdk Scr Nt
set_option maxRecDepth 100000 in
theorem pending_nil (w:World):Calls Tryz.prog 21 #[.pointer none] w fun e w'=>e=.returned (.slice none 0 0)/\w=w':=by
 have hm:=hid (missing_nil w);go_enter Tryz.func21,Tryz.ntmps21;go_wp2_with fail
 refine hm.out.mono ?_;rintro e w1 ⟨rfl,rfl⟩;go_wp2_with fail
 go_ret;exact ⟨rfl,rfl⟩
end Go.Proofs.YtcopgcdhkgenkaaGreatDoor
namespace Go.Proofs.YtcopgcdhkgenkaaGreatDoor
open Go.Shelf Go.RowKit Cdk Scr
set_option maxRecDepth 100000 in
theorem setFates_nil (v:Value) (w:World):Calls Tryz.prog 14 #[.pointer none,v] w fun e w'=>e=.returned (.int .i64 1)/\w=w':=by
 have hm:=hid (fun W=>missing_nil W);go_enter Tryz.func14,Tryz.ntmps14;go_wp2_with fail
 refine (hm.out _).mono ?_;rintro e w1 ⟨rfl,rfl⟩;go_wp2_with fail
 go_ret;exact ⟨rfl,rfl⟩
set_option maxRecDepth 100000 in
theorem inject_nil (x:ByteArray) (w:World):Calls Tryz.prog 15 #[.pointer none,.string x] w fun e w'=>e=.returned (.int .i64 1)/\w=w':=by
 have hm:=hid (fun W=>missing_nil W);go_enter Tryz.func15,Tryz.ntmps15;go_wp2_with fail
 refine (hm.out _).mono ?_;rintro e w1 ⟨rfl,rfl⟩;go_wp2_with fail
 go_ret;exact ⟨rfl,rfl⟩
set_option maxRecDepth 100000 in
theorem now_nil (w:World):Calls Tryz.prog 23 #[.pointer none] w fun e w'=>e=.returned (.int .i64 0)/\w=w':=by
 have hm:=hid (fun W=>missing_nil W);go_enter Tryz.func23,Tryz.ntmps23;go_wp2_with fail
 refine (hm.out _).mono ?_;rintro e w1 ⟨rfl,rfl⟩;go_wp2_with fail
 go_ret;exact ⟨rfl,rfl⟩
set_option maxRecDepth 100000 in
theorem time_nil (w:World):Calls Tryz.prog 24 #[.pointer none] w fun e w'=>e=.returned (.int .i64 0)/\w=w':=by
 have hm:=hid (fun W=>missing_nil W);go_enter Tryz.func24,Tryz.ntmps24;go_wp2_with fail
 refine (hm.out _).mono ?_;rintro e w1 ⟨rfl,rfl⟩;go_wp2_with fail
 go_ret;exact ⟨rfl,rfl⟩
set_option maxRecDepth 100000 in
theorem clock_nil (x:Int) (w:World):Calls Tryz.prog 22 #[.pointer none,.int .i64 x] w fun e w'=>e=.returned (.tuple #[])/\w=w':=by
 have hm:=hid (fun W=>missing_nil W);go_enter Tryz.func22,Tryz.ntmps22;go_wp2_with fail
 refine (hm.out _).mono ?_;rintro e w1 ⟨rfl,rfl⟩;go_wp2_with fail
 refine bodyPost_ret (results_none rfl _ _ _) rfl ?_;exact ⟨rfl,rfl⟩
set_option maxRecDepth 100000 in
theorem crash_nil (v:Value) (x:Int) (w:World):Calls Tryz.prog 29 #[.pointer none,v,.int .i64 x] w fun e w'=>e=.returned (.int .i64 1)/\w=w':=by
 have hm:=hid (fun W=>missing_nil W);go_enter Tryz.func29,Tryz.ntmps29;go_wp2_with fail
 refine (hm.out _).mono ?_;rintro e w1 ⟨rfl,rfl⟩;go_wp2_with fail
 go_ret;exact ⟨rfl,rfl⟩
set_option maxRecDepth 100000 in
theorem cutN_nil (x:Int) (w:World):Calls Tryz.prog 30 #[.pointer none,.int .i64 x] w fun e w'=>e=.returned (.int .i64 1)/\w=w':=by
 have hm:=hid (fun W=>missing_nil W);go_enter Tryz.func30,Tryz.ntmps30;go_wp2_with fail
 refine (hm.out _).mono ?_;rintro e w1 ⟨rfl,rfl⟩;go_wp2_with fail
 go_ret;exact ⟨rfl,rfl⟩
set_option maxRecDepth 100000 in
theorem newsroomN_nil (w:World):Calls Tryz.prog 28 #[.pointer none] w fun e w'=>e=.returned (.pointer none)/\w=w':=by
 have hm:=hid (fun W=>missing_nil W);go_enter Tryz.func28,Tryz.ntmps28;go_wp2_with fail
 refine (hm.out _).mono ?_;rintro e w1 ⟨rfl,rfl⟩;go_wp2_with fail
 go_ret;exact ⟨rfl,rfl⟩
set_option maxRecDepth 100000 in
theorem doN_nil (cs:Array Value) (w:World):Calls Tryz.prog 27 #[.pointer none,.agg cs] w fun e w'=>e=.returned (.tuple #[.int .i64 0,.int .i64 1])/\Ext w w':=by
 have hm:=hid (fun W=>missing_nil W);go_enter Tryz.func27,Tryz.ntmps27;go_wp2_with fail
 refine (hm.out _).mono ?_;rintro e w1 ⟨rfl,rfl⟩;go_wp2_with fail
 go_ret2
 exact ⟨rfl,(Mod.refl _ w).alloc _⟩
end Go.Proofs.YtcopgcdhkgenkaaGreatDoor
namespace Go.Proofs.YtcopgcdhkgenkaaGreatDoor
open Go.Shelf Go.RowKit Cdk Scr Nt
theorem cut_law (s:ByteArray) (n:Nat) (hs:s.size<=140737488351232) (hn:n<=100000) (w:World):Calls Tryz.prog 11 #[.string s,.int .i64 n] w fun e w'=>e=.returned (.string (s.extract 0 (min s.size n)))/\w=w':=by
 have hm:min (s.size:Int) (n:Int)=((min s.size n:Nat):Int):=by omega
 have hl:((min s.size n:Nat):Int)<=(s.size:Int):=by omega
 go_enter Tryz.func11,Tryz.ntmps11;go_wp2_with fail
 go_ret;exact ⟨rfl,rfl⟩
theorem cut_bytes (s:ByteArray):∃ x:Bs,s.extract 0 (min s.size 300)=⟨x.toArray⟩/\x.length<=300:=by
 refine ⟨(s.extract 0 (min s.size 300)).data.toList,rfl,?_⟩;have:(s.extract 0 (min s.size 300)).size<=300:=by rw [ByteArray.size_extract];omega
 exact this
end Go.Proofs.YtcopgcdhkgenkaaGreatDoor
namespace Go.Proofs.YtcopgcdhkgenkaaGreatDoor
open Go.Shelf Go.RowKit Cdk Scr Nt
def mcode (D:Except Int Ms):Int:=match D with
 | .ok _=>0
 | .error c=>c
theorem decode_code (x:Bs) (hx:x.length<=1000000) (w:World) (hG:Gl w):Calls Tryz.prog 26 #[.string ⟨x.toArray⟩] w fun e w'=>(∃ (k0 k1 k2 k3 k4 k5:Int) (t:ByteArray),e=.returned (.tuple #[.agg #[.int .i64 k0,.int .i64 k1,.int .i64 k2,.int .i64 k3,.int .i64 k4,.int .i64 k5,.string t],.int .i64 (mcode (decM x))]))/\Ext w w':=by
 refine (msgDecode_any x hx w hG).mono ?_;rintro e w' ⟨hxt,h⟩;refine ⟨?_,hxt⟩;cases hD:decM x with
 | ok m=>rw [hD] at h;exact ⟨_,_,_,_,_,_,_,h⟩
 | error c=>rw [hD] at h;exact ⟨_,_,_,_,_,_,_,h.2⟩
theorem net_injectAny {U b:Nat} {n:Ns} (tx:Bs) (htx:tx.length<=1000000) (w:World) (hG:Gl w) (h:Net U w b n) (hs:n.s<=1000000) (ht:n.t<=1000000):
  Calls Tryz.prog 15 #[.pointer (some ⟨b,0,none⟩),.string ⟨tx.toArray⟩] w fun e w'=>e=.returned (.int .i64 (mcode (decM tx)))/\Mod (fun k=>U<=k) w w':=by
 obtain ⟨hU,Z,qa,d,r,m,f0,f1,fa,pf,lo,h1,h2,⟨a1,a2,a3,a4,a5,a6,a7⟩,h4,h5,h6,h7,h8⟩:=h;have hb1:=h4.base;have hl1:=h4.mono 1 9 (by decide) (by decide) (by decide);have hqb:=fun k e=>(h7.block k e).1
 refine (inject_any (F:=fun k=>f0<=k/\k < f1) Z tx htx w hG h1 h7 (by omega) h5 (fun k hk=>⟨by omega,fun e=>by have:=h6 k e;omega,by omega⟩) ⟨hs,by rw [List.length_map];exact h8.ql⟩ ⟨h8.t,ht⟩ h8.fs).mono ?_;intro e w' hI;cases hD:decM tx with
 | error c=>rw [hD] at hI;exact ⟨hI.1,hI.2.2.mono (fun _ h=>h.elim)⟩
 | ok m=>rw [hD] at hI;exact ⟨hI.1,hI.2.2.2.mono (fun k h=>by rcases h with rfl | h;omega;have:=hqb k h;omega)⟩
theorem row_take {F:Nat -> Prop} {w:World} {ao:Option Addr} {cap:Nat} {l:List Int} {M:Nat} (hM:M<=l.length) (h:RowAt F w intC (.slice ao l.length cap) l):RowAt F w intC (.slice ao M cap) (l.take M):=by
 obtain ⟨ao',cap',e,hr,hf,h1,⟨h2,h3⟩,h4⟩:=h;injection e with e1 e2 e3
 subst e1 e3;have hl:(l.take M).length=M:=by rw [List.length_take];omega
 refine ⟨ao,cap,by rw [hl],fun j u hj=>hr j u ?_,hf,by rw [hl];omega,⟨by rw [hl];omega,h3⟩,h4⟩;rw [flat_ints] at hj ⊢;rw [List.map_take,List.getElem?_take] at hj;split at hj
 ·exact hj
 ·cases hj
theorem okF_take (l:List Int) (k:Nat) (hk:k < l.length) (p:Int -> Bool):(l.take (k+1)).all p=((l.take k).all p && p l[k]):=by
 rw [List.take_succ_eq_append_getElem hk,List.all_append];simp
theorem refuses_walk {F:Nat -> Prop} (v:Value) (l:List Int) (a1:Int) (s:ByteArray) (h1:I64 a1) (hs:s.size<=140737488351232) (w:World) (hG:Gl w) (hv:RowAt F w intC v l):
  Calls Tryz.prog 8 #[v,.int .i64 a1,.string s] w fun e w'=>e=.returned (.bool true)/\Ext w w':=by
 have hsn:=hid (sane_law w hG);have hG0:=hid hG;have hv0:=hid hv;obtain ⟨av,cv,rfl,-,-,hlc,⟨hl1,hl2⟩,hn⟩:=hv;obtain ⟨N,hN⟩:∃ N,N=l.length:=⟨_,rfl⟩;rw [<- hN] at hlc hl1 ⊢;replace hN:=hid hN;have pc:=hid (fun W=>cut_law s 300 hs (by decide) W);obtain ⟨x,hx,hxl⟩:=cut_bytes s;rw [hx] at pc;obtain ⟨M,hM⟩:∃ M,M=min N 100:=⟨_,rfl⟩;have hmn:min (N:Int) 100=(M:Int):=by omega
 have hM1:M<=N:=by omega
 have hM2:M<=100:=by omega
 clear hG hx hM;go_enter Tryz.func8,Tryz.ntmps8;go_wp2_with fail
 refine hsn.out.mono ?_;rintro e wa ⟨rfl,hx0⟩;have hx1:=hid hx0;have hnew:=hid (net_new wa (hG0.out.ext hx0));obtain ⟨U,hU⟩:∃ U,U=wa.heap.size:=⟨_,rfl⟩;rw [<- hU] at hnew;have hUw:Hid (w.heap.size<=U/\12<=U):=hid (by have:=hx0.size;have:=hG0.out.size;omega);clear hx0 hsn hU;go_wp2_with fail
 refine (pc.out wa).mono ?_;rintro e w0 ⟨rfl,hw0⟩;obtain rfl:wa=w0:=hw0;go_wp2_with fail
 refine hnew.out.mono ?_;rintro e wb ⟨⟨b,rfl,hN0,-⟩,hx0⟩;have hx2:=hid (hx1.out.trans hx0);have hN2:=hid hN0;clear hx0 hN0 hx1 hnew pc;have hvL:=hid (row_take (M:=M) (by have:=hN.out;omega) hv0.out);obtain ⟨L,hL⟩:∃ L,L=l.take M:=⟨_,rfl⟩;rw [<- hL] at hvL;have hLl:L.length=M:=by rw [hL,List.length_take];have:=hN.out;omega
 replace hLl:=hid hLl;obtain ⟨pF,hpF⟩:∃ pF:Int -> Bool,pF=fun x=>decide (0<=x) && decide (x<=24):=⟨_,rfl⟩
 replace hpF:=hid hpF;obtain ⟨BB,hBB⟩:∃ BB:Nat -> Bool,BB=fun k=>decide (M<=64) && (L.take k).all pF:=⟨_,rfl⟩
 have hB0:decide ((M:Int)<=64)=BB 0:=by rw [hBB];show _=(decide (M<=64) && true);rw [Bool.and_true];exact decide_eq_decide.2 (by omega)
 have hBs:Hid (∀ k (h:k < L.length),BB (k+1)=(BB k && pF L[k])):=hid (fun k h=>by rw [hBB];show (decide (M<=64) && (L.take (k+1)).all pF)=((decide (M<=64) && (L.take k).all pF) && pF L[k]);rw [okF_take L k h,Bool.and_assoc]);have hBM:Hid (BB M=okF L):=hid (by rw [hBB];show (decide (M<=64) && (L.take M).all pF)=_;unfold okF;rw [hLl.out,<- hLl.out,List.take_length,hpF.out]);replace hBB:=hid hBB;clear hL hN hv0;go_wp2_with fail
 go_loopg [10,11] M (fun g s10 i wr=>∃ k:Nat,k+g=M/\i=.int .i64 k/\s10=.bool (BB k)/\Net U wr b Ns.new/\Ext w wr)
 case atStart=>exact ⟨0,by omega,rfl,by first | rfl | exact congrArg Value.bool hB0 | simp,hN2.out,hx2.out⟩
 case round=>
  clear hN2 hx2 hB0;obtain ⟨k,hk,rfl,rfl,hNk,hx⟩:=hrel;replace hk:=hid hk;have hNk':=hid hNk
  by_cases hkM:k < M
  ·have hki:(k:Int) < (M:Int):=by omega
   have hd1:decide ((k:Int) < (M:Int))=true:=decide_eq_true hki;have hkl:k < L.length:=by have:=hLl.out;omega
   obtain ⟨b1,o1,c1,e1,-,hc⟩:=hvL.out.get 1 (fun _=>rfl) (by decide) hkl;injection e1 with e1 e2 e3
   subst e1;have hc0:=hc 0 (.int .i64 L[k]) (by decide) rfl;simp only [Nat.mul_one,Nat.add_zero] at hc0;have hnx:=hBs.out k hkl;generalize L[k]=y at hc0 hnx;have hck:=hx.cell hc0 (fun h=>h);have hx':=hid hx;clear hc hc0 e2 e3 hNk hx;have hpy:pF y=(decide (0<=y) && decide (y<=24)):=by rw [hpF.out]
   rw [hpy] at hnx;clear hpy;obtain ⟨B,hB⟩:∃ B,B=BB k:=⟨_,rfl⟩;obtain ⟨B',hB'⟩:∃ B',B'=BB (k+1):=⟨_,rfl⟩;rw [<- hB,<- hB'] at hnx;rw [<- hB];replace hB':=hid hB';clear hB;rcases (show B=false \/ (B=true/\¬ 0<=y) \/ (B=true/\0<=y/\¬ y<=24) \/ (B=true/\0<=y/\y<=24) by cases B <;> simp <;> omega) with rfl | ⟨rfl,h⟩ | ⟨rfl,h,h'⟩ | ⟨rfl,h,h'⟩
   case' inl=>have hB2:B'=false:=by rw [hnx];rfl
   case' inr.inl=>
    have z1:decide (0<=y)=false:=decide_eq_false h;have hB2:B'=false:=by rw [hnx,z1];rfl
   case' inr.inr.inl=>
    have z1:decide (0<=y)=true:=decide_eq_true h;have z2:decide (y<=24)=false:=decide_eq_false h';have hB2:B'=false:=by rw [hnx,z1,z2];rfl
   case' inr.inr.inr=>
    have z1:decide (0<=y)=true:=decide_eq_true h;have z2:decide (y<=24)=true:=decide_eq_true h';have hB2:B'=true:=by rw [hnx,z1,z2];rfl
   all_goals
    clear hnx;replace hB2:=hid hB2;go_wp2_with fail
    go_roundg (gk - 1)
    case measure=>have:=hk.out;omega
    case rel=>exact ⟨k+1,by have:=hk.out;omega,by go_num,by rw [<- hB'.out,hB2.out],hNk'.out,hx'.out⟩
  ·obtain rfl:k=M:=by have:=hk.out;omega
   have hki:¬ (k:Int) < (k:Int):=by omega
   have hd1:decide ((k:Int) < (k:Int))=false:=decide_eq_false hki;have hx':=hid hx;have hcode:=hid (decode_code x (by omega));obtain ⟨C,hC⟩:∃ C,C=mcode (decM x):=⟨_,rfl⟩;have hinj:=hid (fun (n:Ns) (W:World) (hG:Gl W) (h:Net U W b n) (hs:n.s<=1000000) (ht:n.t<=1000000)=>net_injectAny x (by omega) W hG h hs ht);rw [<- hC] at hcode hinj;replace hC:=hid hC;obtain ⟨X,hX⟩:∃ X,X=(⟨x.toArray⟩:ByteArray):=⟨_,rfl⟩;rw [<- hX] at hcode hinj ⊢;replace hX:=hid hX
   have hpt:Hid (∃ (pv:Value) (kn:Bool),Calls Tryz.prog 25 #[.pointer (some ⟨b,0,none⟩),.int .i64 a1] wr (fun e w'=>e=.returned (.tuple #[pv,.bool kn])/\wr=w')/\((1<=a1/\a1<=8/\kn=true/\∃ p:Nat,pv=.pointer (some ⟨p,0,none⟩)) \/ ((a1 < 1 \/ 8 < a1)/\kn=false/\pv=.pointer none))):=hid (by
    by_cases h:1<=a1/\a1<=8
    ·obtain ⟨hU,Z,qa,d,r,m,f0,f1,fa,pf,lo,g1,g2,hb,g4,-⟩:=hNk
     obtain ⟨id,rfl⟩:∃ id:Nat,a1=id:=⟨a1.toNat,by omega⟩;exact ⟨_,_,partner_any id ⟨by omega,by omega⟩ wr g1 g4,.inl ⟨by omega,by omega,rfl,_,rfl⟩⟩
    ·exact ⟨_,_,net_partnerNone a1 (by omega) wr hNk,.inr ⟨by omega,rfl,rfl⟩⟩)
   have hset:=hid (net_set (.slice av k cv) L wr hNk (hvL.out.mod hx (fun _ _ h=>h)) (by rw [hLl.out];omega));clear hNk hx;obtain ⟨pv,kn,hpc,hpk⟩:=hpt.out;replace hpc:=hid hpc;obtain ⟨G,hGe⟩:∃ G,G=okF L:=⟨_,rfl⟩;have hBG:=hBM.out.trans hGe.symm;rw [hBG];unfold SetP at hset;rw [<- hGe] at hset;obtain ⟨FV,hFV⟩:∃ FV:Int,FV=if G then 0 else 270:=⟨_,rfl⟩
   have hset2:Hid (Calls Tryz.prog 14 #[.pointer (some ⟨b,0,none⟩),.slice av k cv] wr fun e w'=>e=.returned (.int .i64 FV)/\(∃ n,Net U w' b n/\n.s=0/\n.t=0)/\Mod (fun k=>U<=k) wr w'):=hid (hset.out.mono (fun e w' h=>by
    cases G with
    | true=>simp only [if_true] at h hFV;obtain ⟨a,b,c⟩:=h;exact ⟨by rw [hFV];exact a,⟨_,b,rfl,rfl⟩,c⟩
    | false=>simp only [Bool.false_eq_true,if_false] at h hFV;obtain ⟨a,rfl⟩:=h;exact ⟨by rw [hFV];exact a,⟨_,hNk'.out,rfl,rfl⟩,Mod.refl _ _⟩))
   clear hset hGe hBG hpt;replace hFV:=hid hFV;replace hpk:=hid hpk;go_wp2_with fail
   refine hpc.out.mono ?_;rintro e w0 ⟨rfl,hw0⟩;obtain rfl:wr=w0:=hw0;go_wp2_with fail
   refine hset2.out.mono ?_;rintro e w3 ⟨rfl,⟨n,hN,hns,hnt⟩,hm⟩;have hN3:=hid hN;have hx3:Hid (Ext w w3):=hid (hx'.out.then hm (fun q hq e=>by have e:U<=q:=e;have:=hUw.out;omega));have hn3:=hid (And.intro hns hnt);clear hN hns hnt hm hset2 hx' hNk';go_wp2_with fail
   refine (hcode.out w3 (hG0.out.ext hx3.out)).mono ?_;rintro e w4 ⟨⟨k0,k1,k2,k3,k4,k5,t,rfl⟩,hx0⟩;have hx4:=hid (hx3.out.trans hx0);have hN4:=hid (hN3.out.ext hx0);clear hx0 hcode hN3 hx3;have hxA:=hid (Mod.alloc (Mod.refl (fun _=>False) w4) (.cells #[.int .i64 k0,.int .i64 k1,.int .i64 k2,.int .i64 k3,.int .i64 k4,.int .i64 k5,.string t] 45));go_wp2_with fail
   refine (hinj.out n _ (hG0.out.ext (hx4.out.trans hxA.out)) (hN4.out.ext hxA.out) (by rw [hn3.out.1];decide) (by rw [hn3.out.2];decide)).mono ?_;rintro e w6 ⟨rfl,hm⟩;have hx_w6:Hid (Ext w w6):=hid ((hx4.out.trans hxA.out).then hm (fun q hq e=>by have e:U<=q:=e;have:=hUw.out;omega));clear hm hinj hN4 hx4 hxA hn3;go_wp2_with fail
   refine (doN_nil _ w6).mono ?_;rintro e w7 ⟨rfl,hx0⟩;have hx_w7:=hid (hx_w6.out.trans hx0);clear hx0 hx_w6;go_wp2_with fail
   refine (partner_nil 1 w7).mono ?_;rintro e w0 ⟨rfl,hw0⟩;obtain rfl:w7=w0:=hw0;go_wp2_with fail
   refine (clock_nil 5 w7).mono ?_;rintro e w0 ⟨rfl,hw0⟩;obtain rfl:w7=w0:=hw0;go_wp2_with fail
   refine (newsroomN_nil w7).mono ?_;rintro e w0 ⟨rfl,hw0⟩;obtain rfl:w7=w0:=hw0;go_wp2_with fail
   refine (now_nil w7).mono ?_;rintro e w0 ⟨rfl,hw0⟩;obtain rfl:w7=w0:=hw0;go_wp2_with fail
   refine (time_nil w7).mono ?_;rintro e w0 ⟨rfl,hw0⟩;obtain rfl:w7=w0:=hw0;go_wp2_with fail
   refine (pending_nil w7).mono ?_;rintro e w0 ⟨rfl,hw0⟩;obtain rfl:w7=w0:=hw0;go_wp2_with fail
   refine (setFates_nil _ w7).mono ?_;rintro e w0 ⟨rfl,hw0⟩;obtain rfl:w7=w0:=hw0;go_wp2_with fail
   refine (tick_nil w7).mono ?_;rintro e w8 ⟨rfl,hx0⟩;have hx_w8:=hid (hx_w7.out.trans hx0);clear hx0 hx_w7;go_wp2_with fail
   refine (crash_nil _ a1 w8).mono ?_;rintro e w0 ⟨rfl,hw0⟩;obtain rfl:w8=w0:=hw0;go_wp2_with fail
   refine (cutN_nil a1 w8).mono ?_;rintro e w0 ⟨rfl,hw0⟩;obtain rfl:w8=w0:=hw0;have hfv:(G=true/\FV=0) \/ (G=false/\FV=270):=by rw [hFV.out];cases G <;> simp
   have hkn:(kn=true/\1<=a1/\a1<=8/\∃ p:Nat,pv=.pointer (some ⟨p,0,none⟩)) \/ (kn=false/\a1 < 1/\pv=.pointer none) \/ (kn=false/\8 < a1/\pv=.pointer none):=by
    rcases hpk.out with ⟨a,b,c,d⟩ | ⟨a | a,b,c⟩
    ·exact .inl ⟨c,a,b,d⟩
    ·exact .inr (.inl ⟨b,a,c⟩)
    ·exact .inr (.inr ⟨b,a,c⟩)
   clear hpk hFV;rcases hkn with ⟨rfl,h,h',pq,rfl⟩ | ⟨rfl,h,rfl⟩ | ⟨rfl,h,rfl⟩
   case' inl=>
    have z1:decide (1<=a1)=true:=decide_eq_true h;have z2:decide (a1<=8)=true:=decide_eq_true h'
   case' inr.inl=>
    have z0:¬ 1<=a1:=by omega
    have z1:decide (1<=a1)=false:=decide_eq_false z0
   case' inr.inr=>
    have z3:1<=a1:=by omega
    have z1:decide (1<=a1)=true:=decide_eq_true z3;have z0:¬ a1<=8:=by omega
    have z2:decide (a1<=8)=false:=decide_eq_false z0
   all_goals
    rcases hfv with ⟨rfl,rfl⟩ | ⟨rfl,rfl⟩
    all_goals
     go_wp2_with fail
     refine (inject_nil _ w8).mono ?_;rintro e w0 ⟨rfl,hw0⟩;obtain rfl:w8=w0:=hw0;go_wp2_with fail
     go_ret;exact ⟨by first | rfl | simp,hx_w8.out⟩
end Go.Proofs.YtcopgcdhkgenkaaGreatDoor
