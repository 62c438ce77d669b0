import Derived.Test.YtjjfphalcibjfaaGreatDoorH3
import Derived.Test.YtjjfphalcibjfaaGreatDoorB12
set_option maxRecDepth 100000
set_option maxHeartbeats 16000000
namespace Go.Proofs.YtjjfphalcibjfaaGreatDoor
open Go.Shelf Go.RowKit Cdk Scr
def zol (m:Ms):List Int:=[m.kd,m.pa,m.sq,m.st,m.ba,m.ve]
theorem zj4 (m:Ms) (w:World) (hd:m.da.length<=16384):
  Calls Tryz.prog 157 #[.agg (msC m).toArray] w fun e w'=>e=.returned (.string ⟨(zbV m).toArray⟩)/\Ext w w':=by
 obtain ⟨tz,htz⟩:∃ tz,tz=zbV m:=⟨_,rfl⟩;rw [<- htz];obtain ⟨L,hL⟩:∃ L,L=zol m:=⟨_,rfl⟩;have hL6:L.length=6:=by rw [hL];rfl
 replace htz:Hid (tz=zaE L++zeL m.da):=hid (by rw [htz,hL];rfl);obtain ⟨T,hT⟩:∃ T,T=w.heap.size:=⟨_,rfl⟩;have hbx:=zaY w #[.int .i64 m.kd,.int .i64 m.pa,.int .i64 m.sq,.int .i64 m.st,.int .i64 m.ba,.int .i64 m.ve,.string ⟨m.da.toArray⟩] #[.int .i64 m.kd,.int .i64 m.pa,.int .i64 m.sq,.int .i64 m.st,.int .i64 m.ba,.int .i64 m.ve] 30 3;have hcs:(#[.int .i64 m.kd,.int .i64 m.pa,.int .i64 m.sq,.int .i64 m.st,.int .i64 m.ba,.int .i64 m.ve]:Array Value)=(L.flatMap zd1).toArray:=by rw [hL];rfl
 have nX:=hid (fun W=>zcS m.da (by omega) W);have zX:(zeL m.da).length<=20000:=by have:=zbS m.da;omega
 obtain ⟨kd,pa,sq,st,ba,ve,da⟩:=m;unfold msC zbR;simp only at hbx hcs htz nX zX ⊢;clear hL hd;replace hbx:=hid hbx;replace hcs:=hid hcs;go_enter Tryz.func157,Tryz.ntmps157;go_wp2_with fail
 have hbx2:=hbx.out;rw [hcs.out] at hbx2 ⊢;obtain ⟨hx0,hA,hB,-⟩:=hbx2;rw [<- hT] at hA hB ⊢;generalize ((w.alloc _).alloc _)=W at hx0 hA hB ⊢;have hsz:=hx0.size;replace hA:=hid hA;replace hB:=hid hB;replace hx0:=hid hx0;replace hT:=hid hT;clear hbx hcs;go_loopg [4,5] 6 (fun g o i wr=>∃ (j:Nat) (tt:Bs),j+g=6/\i=.int .i64 j/\o=.string ⟨tt.toArray⟩/\tt=zaE (L.take j)/\Ext W wr)
 case atStart=>exact ⟨0,[],by omega,rfl,rfl,by simp [zaE],Mod.refl _ _⟩
 case round=>
  obtain ⟨j,tt,hj,rfl,rfl,htt,hx⟩:=hrel;replace hj:=hid hj;have hlt:tt.length<=60:=by
   rw [htt];have:=zaI (L.take j);have h2:(L.take j).length<=6:=by rw [List.length_take];omega
   omega
  by_cases h6:j < 6
  ·have hdi:(j:Int) < 6:=by omega
   have hd:decide ((j:Int) < 6)=true:=decide_eq_true hdi;have hjl:j < L.length:=by omega
   have hRow:=zaR.block (hx.at hB.out (fun h=>h))
   obtain ⟨b,off,e0,hc⟩:=hRow j (.int .i64 L[j]) (by
    have:=flat_get zd1 1 zbb L j 0 L[j] (List.getElem?_eq_getElem hjl) (by decide)
    simpa [zd1] using this)
   injection e0 with e0;injection e0 with e1 e2
   subst e1 e2;simp only [Nat.zero_add] at hc;have nNi:=hid (fun W=>zch L[j] W);have zN:=zau L[j];have htk:zaE (L.take (j+1))=zaE (L.take j)++zbs L[j]:=by
    rw [List.take_succ_eq_append_getElem hjl,zgG];simp [zaE]
   generalize L[j]=yi at hc nNi zN htk;generalize zbs yi=tN at nNi zN htk;generalize zkD yi=eN at nNi;have hnx:Hid (tt++tN=zaE (L.take (j+1))):=hid (by rw [htk,htt]);have hc1:(⟨tt.toArray⟩:ByteArray).size+(⟨tN.toArray⟩:ByteArray).size<=1000000:=by rw [zaS,zaS];omega
   have hfin:Hid ((⟨tt.toArray⟩:ByteArray)++⟨tN.toArray⟩=⟨(tt++tN).toArray⟩):=hid (zba _ _);replace htt:=hid htt;replace htk:=hid htk;replace hx:=hid hx;clear hRow;go_wp2_with fail
   refine (nNi.out _).mono ?_;rintro e wn ⟨rfl,hxn⟩;have hx2:=hid (hx.out.trans hxn);clear hxn hx hc;go_wp2_with fail
   go_roundg (gk - 1)
   case measure=>have:=hj.out;omega
   case rel=>exact ⟨j+1,tt++tN,by have:=hj.out;omega,by go_num,by rw [hfin.out],hnx.out,hx2.out⟩
  ·obtain rfl:j=6:=by have:=hj.out;omega
   have hdi:¬ (6:Int) < 6:=by omega
   rw [List.take_of_length_le (by omega)] at htt;have q6:wr.cell? ⟨T,6,none⟩=some (.string ⟨da.toArray⟩):=zaa (hx.at hA.out (fun h=>h)) 6;replace htt:=hid htt;replace hx:=hid hx;generalize zeL da=tX at nX zX htz;generalize hda:(⟨da.toArray⟩:ByteArray)=D at nX q6;replace hda:=hid hda;go_wp2_with fail
   refine (nX.out _).mono ?_;rintro e wn ⟨rfl,hxn⟩;have hx2:=hid (hx.out.trans hxn);clear hxn hx q6;have hc1:(⟨tt.toArray⟩:ByteArray).size+(⟨tX.toArray⟩:ByteArray).size<=1000000:=by rw [zaS,zaS];omega
   have hfin:Hid ((⟨tt.toArray⟩:ByteArray)++⟨tX.toArray⟩=⟨(tt++tX).toArray⟩):=hid (zba _ _);go_wp2_with fail
   go_ret;exact ⟨by rw [hfin.out,htz.out,htt.out];try rfl,hx0.out.trans hx2.out⟩
theorem zeP (m:Ms) (w:World) (hv:vMs m=true):
  Calls Tryz.prog 76 #[.agg (msC m).toArray] w fun e w'=>e=.returned (.tuple #[.string ⟨(zgM m).toArray⟩,.int .i64 0])/\Ext w w':=by
 obtain ⟨tz,htz⟩:∃ tz,tz=zgM m:=⟨_,rfl⟩;rw [<- htz];have hg:=zd0 hv;have hda:=hg.da;have cV:=hid (fun W=>zdb m W (by omega));rw [hv] at cV;have cB:=hid (fun W=>zj4 m W (by omega));have hbl:(zbV m).length<=20000:=by
  unfold zbV;have h1:=zaI [m.kd,m.pa,m.sq,m.st,m.ba,m.ve];have h2:=zbS m.da;simp only [List.length_cons,List.length_nil] at h1;rw [List.length_append];omega
 have cS:=hid (fun W=>zlx (zbV m) W (by omega));have cr:=zjA (zbV m);have cP:=hid (fun W=>zch (crc (zbV m)) W);have hE:zkD (crc (zbV m))=0:=by unfold zkD;rw [if_neg (by omega)]
 have hpl:=zau (crc (zbV m));replace htz:Hid (tz=zbs (crc (zbV m))++zbV m):=hid (by rw [htz,zgM,if_pos hv]);rw [hE] at cP;generalize crc (zbV m)=cc at cS cP htz hpl;generalize zbs cc=tc at cP htz hpl;generalize zbV m=tb at cB cS htz hbl;have hc1:(⟨tc.toArray⟩:ByteArray).size+(⟨tb.toArray⟩:ByteArray).size<=1000000:=by rw [zaS,zaS];omega
 have hfin:Hid ((⟨tc.toArray⟩:ByteArray)++⟨tb.toArray⟩=⟨(tc++tb).toArray⟩):=hid (zba _ _);have hz:=heap_alloc_new w (.cells (msC m).toArray 30);have hxz:=Mod.alloc (Mod.refl (fun _=>False) w) (.cells (msC m).toArray 30);clear hg hE cr hda;obtain ⟨kd,pa,sq,st,ba,ve,da⟩:=m;unfold msC zbR at hz hxz cV cB ⊢;simp only at hz hxz cV cB ⊢;replace hz:=hid hz;replace hxz:=hid hxz;obtain ⟨D,hD⟩:∃ D:ByteArray,D=⟨da.toArray⟩:=⟨_,rfl⟩;rw [<- hD] at hz hxz cV cB ⊢;clear hv;replace hD:=hid hD;go_enter Tryz.func76,Tryz.ntmps76;go_upto_region 1 with fail
 generalize (w.alloc _)=W at hz hxz ⊢;generalize w.heap.size=T at hz ⊢;go_wp2_with (refine zal (by rfl) 30 _ rfl T _ _ _ _ rfl hz.out Tryz.underlying30 rfl (by kernel_rfl) ?_)
 refine (cV.out _).mono ?_;rintro e w1 ⟨rfl,hx1⟩;have hz1:=hid (hx1.at hz.out (fun h=>h));have hx01:=hid (hxz.out.trans hx1);clear hx1;go_wp2_with (refine zal (by rfl) 30 _ rfl T _ _ _ _ rfl hz1.out Tryz.underlying30 rfl (by kernel_rfl) ?_)
 refine (cB.out _).mono ?_;rintro e w2 ⟨rfl,hx2⟩;have hx02:=hid (hx01.out.trans hx2);clear hx2;go_wp2_with fail
 refine (cS.out _).mono ?_;rintro e w3 ⟨rfl,rfl⟩;go_wp2_with fail
 refine (cP.out _).mono ?_;rintro e w4 ⟨rfl,hx4⟩;have hx04:=hid (hx02.out.trans hx4);clear hx4;go_wp2_with fail
 go_ret2
 exact ⟨by rw [hfin.out,htz.out];try rfl,hx04.out⟩
end Go.Proofs.YtjjfphalcibjfaaGreatDoor
