import Derived.Test.YtcopgcdhkgenkaaGreatDoorLift
set_option linter.all false
set_option maxRecDepth 100000
set_option maxHeartbeats 16000000
namespace Go.Proofs.YtcopgcdhkgenkaaGreatDoor
open Go.Shelf Go.RowKit Cdk Scr Nt
theorem clock_law {F:Nat -> Prop} (v:Value) (l:List Int) (w:World) (hG:Gl w) (hv:RowAt F w intC v l):
  Calls Tryz.prog 7 #[v] w fun e w'=>e=.returned (.bool true)/\Ext w w':=by
 have hsn:=hid (sane_law w hG);have hG0:=hid hG;have hv0:=hid hv;obtain ⟨av,cv,rfl,-⟩:=hv;have hlb:(l.length:Int)<=140737488355328:=by obtain ⟨ao,cap,-,h1,h2,h3,h4,h5⟩:=hv0.out;omega
 obtain ⟨N,hN⟩:∃ N,N=l.length:=⟨_,rfl⟩;rw [<- hN] at hlb ⊢;replace hN:=hid hN;have hcl:=hid (fun (U b:Nat) (n:Ns) (x:Int) (W:World) (h:Net U W b n)=>net_clock x W h);have htk:=hid (fun (U b:Nat) (n:Ns) (W:World) (hG:Gl W) (h:Net U W b n) (hs:n.s<=990000) (ht:n.t<=999000)=>net_tick W hG h hs ht);have hnw:=hid (fun (U b:Nat) (n:Ns) (W:World) (h:Net U W b n)=>net_now W h);have htm:=hid (fun (U b:Nat) (n:Ns) (W:World) (h:Net U W b n)=>net_time W h);clear hG;go_enter Tryz.func7,Tryz.ntmps7;go_wp2_with fail
 refine hsn.out.mono ?_;rintro e w1 ⟨rfl,hx⟩;have hx1:=hid hx;have hnew:=hid (net_new w1 (hG0.out.ext hx));obtain ⟨U,hU⟩:∃ U,U=w1.heap.size:=⟨_,rfl⟩;rw [<- hU] at hnew;have hUw:Hid (w.heap.size<=U):=hid (by have:=hx.size;omega);clear hx hsn hU;go_wp2_with fail
 refine hnew.out.mono ?_;rintro e w2 ⟨⟨b,rfl,hN0,-⟩,hx⟩;have hx2:=hid (hx1.out.trans hx);have hN2:=hid hN0;clear hx hN0 hx1 hnew;go_wp2_with fail
 go_loopg [6,7,8] 20 (fun g s6 s7 i wr=>∃ (k:Nat) (n:Ns),k+g=20/\i=.int .i64 k/\s6=.int .i64 n.c/\s7=.int .i64 n.t/\Net U wr b n/\n.s<=2048*k/\n.t<=k/\Ext w wr)
 case atStart=>exact ⟨0,Ns.new,rfl,rfl,rfl,rfl,hN2.out,by decide,by decide,hx2.out⟩
 case round=>
  obtain ⟨k,n,hk,rfl,rfl,rfl,hNk,hs,ht,hx⟩:=hrel;replace hk:=hid hk;have hNk':=hid hNk;have hx':=hid hx;have hgd:=hNk.good;have hs':=hid hs;have ht':=hid ht;clear hNk hx hs ht
  by_cases hkn:k < N
  ·by_cases hk20:k < 20
   ·have hki:(k:Int) < (N:Int):=by omega
    have hki2:(k:Int) < 20:=by omega
    have hd1:decide ((k:Int) < (N:Int))=true:=decide_eq_true hki;have hd2:decide ((k:Int) < 20)=true:=decide_eq_true hki2;have hkl:k < l.length:=by have:=hN.out;omega
    obtain ⟨b1,o1,c1,e1,-,hc⟩:=hv0.out.get 1 (fun _=>rfl) (by decide) hkl;injection e1 with e1 e2 e3
    subst e1;have hc0:=hc 0 (.int .i64 l[k]) (by decide) rfl;simp only [Nat.mul_one,Nat.add_zero] at hc0;generalize hxe:l[k]=x at hc0;have hxk:=hid hxe;have hck:=hx'.out.cell hc0 (fun h=>h);have hc0':=hid hc0;clear hc e2 e3 hxe hc0;go_wp2_with fail
    refine (hcl.out U b n x wr hNk'.out).mono ?_;rintro e w3 ⟨rfl,hN3,hm⟩;have hN3':=hid hN3;have hx3:Hid (Ext w w3):=hid (hx'.out.then hm (fun q hq e=>by have:=hUw.out;omega));have hck3:=hx3.out.cell hc0'.out (fun h=>h);clear hN3 hm hck;have hE:Hid (clampT x=max 0 (min x 1000000000)):=hid (by unfold clampT;omega);have htn:=hgd.t;have htk1:=ht'.out;have hsk1:=hs'.out
    by_cases hev:(x.tmod 2==0)=true
    ·have hwr:IntKind.i64.wrap (max 0 (min x 1000000000)+1)=max 0 (min x 1000000000)+1:=IntWalk.i64_in _ (by omega)
     have hwt:IntKind.i64.wrap (n.t+1)=n.t+1:=IntWalk.i64_in _ (by omega);have htc:=hid (htk.out U b { n with c:=clampT x } w3 (hG0.out.ext hx3.out) hN3'.out (by show n.s<=990000;omega) (by show n.t<=999000;omega));have hs4:=hid (tickP_s hN3'.out.good);have hq1:(tickP { n with c:=clampT x }).c=min (max 0 (min x 1000000000)+1) 1000000000:=by rw [(tickP_t _).2];simp only [hE.out]
     have hq2:(tickP { n with c:=clampT x }).t=n.t+1:=(tickP_t _).1;generalize tickP { n with c:=clampT x }=M at htc hs4 hq1 hq2;have ht4':=hid (And.intro hq2 hq1);clear hq1 hq2 hsk1 htk1;go_wp2_with fail
     refine htc.out.mono ?_;rintro e w4 ⟨rfl,hN4,hm⟩;have hN4':=hid hN4;have hx4:Hid (Ext w w4):=hid (hx3.out.then hm (fun q hq e=>by have:=hUw.out;omega));have hc4:=hid (hnw.out U b _ w4 hN4);have hd4:=hid (htm.out U b _ w4 hN4);rw [ht4'.out.2] at hc4;rw [ht4'.out.1] at hd4;clear hN4 hm htc hck3 hN3';go_wp2_with fail
     refine hc4.out.mono ?_;rintro e w0 ⟨rfl,hw0⟩;obtain rfl:w4=w0:=hw0;go_wp2_with fail
     refine hd4.out.mono ?_;rintro e w0 ⟨rfl,hw0⟩;obtain rfl:w4=w0:=hw0;go_wp2_with fail
     go_roundg (gk - 1)
     case measure=>have:=hk.out;omega
     case rel=>
      refine ⟨k+1,_,by have:=hk.out;omega,by go_num,?_,?_,hN4'.out,?_,?_,hx4.out⟩
      ·rw [ht4'.out.2]
      ·rw [ht4'.out.1]
      ·have h1:M.s<=n.s+2048:=hs4.out
       have h2:=hs'.out;omega
      ·have h1:=ht'.out;rw [ht4'.out.1];omega
    ·have hev0:(x.tmod 2==0)=false:=by simpa using hev
     have hc3:=hid (hnw.out U b _ w3 hN3'.out);have hd3:=hid (htm.out U b _ w3 hN3'.out);simp only [hE.out] at hc3 hd3;clear hev hsk1 htk1;go_wp2_with fail
     refine hc3.out.mono ?_;rintro e w0 ⟨rfl,hw0⟩;obtain rfl:w3=w0:=hw0;go_wp2_with fail
     refine hd3.out.mono ?_;rintro e w0 ⟨rfl,hw0⟩;obtain rfl:w3=w0:=hw0;go_wp2_with fail
     go_roundg (gk - 1)
     case measure=>have:=hk.out;omega
     case rel=>
      refine ⟨k+1,{ n with c:=clampT x },by have:=hk.out;omega,by go_num,?_,rfl,hN3'.out,?_,?_,hx3.out⟩
      ·show Value.int .i64 _=Value.int .i64 (clampT x);rw [hE.out]
      ·have h2:=hs'.out;show n.s<=2048*(k+1);omega
      ·have h2:=ht'.out;show n.t<=((k+1:Nat):Int);omega
   ·have hki:(k:Int) < (N:Int):=by omega
    have hki2:¬ (k:Int) < 20:=by omega
    have hd1:decide ((k:Int) < (N:Int))=true:=decide_eq_true hki;have hd2:decide ((k:Int) < 20)=false:=decide_eq_false hki2;clear hgd;go_wp2_with fail
    go_ret;exact ⟨rfl,hx'.out⟩
  ·have hki:¬ (k:Int) < (N:Int):=by omega
   have hd1:decide ((k:Int) < (N:Int))=false:=decide_eq_false hki;clear hgd;go_wp2_with fail
   go_ret;exact ⟨rfl,hx'.out⟩
end Go.Proofs.YtcopgcdhkgenkaaGreatDoor
