import Derived.Test.YtjjfphalcibjfaaGreatDoorH6
import Derived.Test.YtjjfphalcibjfaaGreatDoorF11
import Derived.Test.YtjjfphalcibjfaaGreatDoorG3
set_option maxRecDepth 100000
set_option maxHeartbeats 16000000
namespace Go.Proofs.YtjjfphalcibjfaaGreatDoor
open Go.Shelf Go.RowKit Cdk Scr
theorem zj5 {l:List Ac} (h:l.length<=100) (h2:l.all vAc=true) (h3:(l.flatMap lnF).length<=65536):print l=some (l.flatMap lnF):=by
 unfold print;rw [if_pos];simp only [Bool.and_eq_true,decide_eq_true_eq];exact ⟨h,h2,h3⟩
theorem ziB {l:List Ac} (h3:65536 < (l.flatMap lnF).length):print l=none:=by
 unfold print;rw [if_neg];simp only [Bool.and_eq_true,decide_eq_true_eq];omega
theorem zh4 (v:Value) (l:List Ac) (w:World) (h:zbK (fun k=>k < w.heap.size) w v l) (hs:∀ a ∈ l,AcSz a):
  Calls Tryz.prog 20 #[v] w fun e w'=>zcd l e/\Ext w w':=by
 obtain ⟨ao,cap,rfl⟩:=h.slice;obtain ⟨n,hn⟩:∃ n,n=l.length:=⟨_,rfl⟩;have hn0:=h.len;rw [<- hn] at h hn0 ⊢;replace hn:=hid hn;replace h:=hid h;replace hs:=hid hs
 by_cases h100:100 < n
 ·have hi:(100:Int) < (n:Int):=by omega
  have hp:=hid (zeq (l:=l) (by rw [<- hn.out];exact h100));go_enter Tryz.func20,Tryz.ntmps20;go_wp2_with fail
  go_ret2
  exact ⟨by unfold zcd;rw [hp.out];rfl,Mod.refl _ _⟩
 have hi:¬ (100:Int) < (n:Int):=by omega
 go_enter Tryz.func20,Tryz.ntmps20;go_wp2_with fail
 go_loopg [4,5] n (fun g o i wr=>∃ (j:Nat) (ty:Bs),j+g=n/\i=.int .i64 j/\o=.string ⟨ty.toArray⟩/\Ext w wr/\ty=(l.take j).flatMap lnF/\((l.take j).all vAc=true)/\ty.length<=100000001*j)
 case atStart=>exact ⟨0,[],by omega,rfl,rfl,Mod.refl _ _,rfl,rfl,by decide⟩
 case round=>
  obtain ⟨j,ty,hj,rfl,rfl,hx,ht,hall,hlen⟩:=hrel;replace hj:=hid hj;have hj100:j<=100:=by have:=hj.out;omega
  have hty:ty.length<=100000001*100:=Nat.le_trans hlen (Nat.mul_le_mul_left _ hj100)
  by_cases hlt:j < n
  ·have hdi:(j:Int) < (n:Int):=by omega
   have hd:decide ((j:Int) < (n:Int))=true:=decide_eq_true hdi;have hjl:j < l.length:=by have:=hn.out;omega
   obtain ⟨b1,o1,cap',sv,e,hFb,hA,hc⟩:=(h.out.ext hx).get hjl;have htk:(l.take (j+1)).flatMap lnF=ty++lnF l[j]:=by rw [List.take_succ_eq_append_getElem hjl,List.flatMap_append,<- ht];simp
   have hall2:(l.take (j+1)).all vAc=((l.take j).all vAc && vAc l[j]):=by rw [List.take_succ_eq_append_getElem hjl,List.all_append];simp
   have hmem:l[j] ∈ l:=List.getElem_mem _;injection e with e1 e2 e3
   subst e1;clear e2 e3;obtain ⟨a1,n1,c1,a2,n2,c2,a3,n3,c3,a4,n4,c4,a5,n5,c5,rfl⟩:=zbF hA;generalize l[j]=a at hA hc htk hall2 hmem;have hsz:=hs.out a hmem;have hbelow:∀ W,Ext wr W -> AcAt (fun k=>k < W.heap.size) W ⟨⟨.slice a1 n1 c1,.slice a2 n2 c2,.slice a3 n3 c3⟩,.slice a4 n4 c4,.slice a5 n5 c5⟩ a:=fun W hX=>(hA.ext hX).mono (fun k hk=>by have:=hx.size;have:=hX.size;omega)
   have cV:=fun W (hX:Ext wr W)=>zfh a1 n1 c1 a2 n2 c2 a3 n3 c3 a4 n4 c4 a5 n5 c5 a W (hbelow W hX) hsz.fc hsz.tx hsz.da
   have cL:=fun W (hX:Ext wr W) (hv:vAc a=true)=>zjM a1 n1 c1 a2 n2 c2 a3 n3 c3 a4 n4 c4 a5 n5 c5 a W (hbelow W hX) hv
   obtain ⟨V,hV⟩:∃ V,V=acA a1 n1 c1 a2 n2 c2 a3 n3 c3 a4 n4 c4 a5 n5 c5 a:=⟨_,rfl⟩;have hr:wr.rangeAt b1 (o1+j*36) V.toList:=fun i u hu=>by
    have hu':(acC (⟨⟨.slice a1 n1 c1,.slice a2 n2 c2,.slice a3 n3 c3⟩,.slice a4 n4 c4,.slice a5 n5 c5⟩,a))[i]?=some u:=by rw [hV] at hu;exact hu
    exact hc i u (List.getElem?_eq_some_iff.1 hu').1 hu'
   have hVi:(Tryz.prog.info? 32).map (·.size)=some V.size:=by rw [hV];kernel_rfl
   rw [<- hV] at cV cL;clear hc hbelow hsz;replace hA:=hid hA;replace hx:=hid hx;replace ht:=hid ht;replace htk:=hid htk;replace hlen:=hid hlen;replace hV:=hid hV;replace hr:=hid hr;replace hVi:=hid hVi;replace hall2:=hid hall2;replace hmem:=hid hmem;obtain ⟨bv,hbv⟩:∃ bv,bv=vAc a:=⟨_,rfl⟩;rw [<- hbv] at cV;replace hbv:=hid hbv;replace cV:=hid cV;replace cL:=hid cL;go_wp2_with (refine zaC (by rfl) 32 _ rfl b1 (o1+j*36) V _ rfl hr.out Tryz.underlying32 rfl hVi.out ?_)
   refine (cV.out _ (Mod.refl _ _)).mono ?_;rintro e w1 ⟨rfl,hx1⟩;have hr1:=hid (zbJ hr.out hx1);have hx01:=hid (hx.out.trans hx1);replace hx1:=hid hx1;cases bv with
   | false=>
    have hp:=hid (zeK hmem.out hbv.out.symm);go_wp2_with fail
    go_ret2
    exact ⟨by unfold zcd;rw [hp.out];rfl,hx01.out⟩
   | true=>
    have hll:=zkp hbv.out.symm;have halln:Hid ((l.take (j+1)).all vAc=true):=hid (by rw [hall2.out,hall,<- hbv.out];rfl);have cL1:=hid (cL.out w1 hx1.out hbv.out.symm);obtain ⟨tl,htl⟩:∃ tl,tl=line a:=⟨_,rfl⟩;rw [<- htl] at cL1 hll;have hnx:Hid (ty++tl++[10]=(l.take (j+1)).flatMap lnF):=hid (by rw [htk.out,htl];simp [lnF]);have hln:Hid ((ty++tl++[10]).length<=100000001*(j+1)):=hid (by have:=hlen.out;simp only [List.length_append,List.length_cons,List.length_nil];omega);have s1:(⟨ty.toArray⟩:ByteArray).size+(⟨tl.toArray⟩:ByteArray).size<=20000000000:=by rw [zaS,zaS];omega
    have s2:((⟨ty.toArray⟩:ByteArray)++(⟨tl.toArray⟩:ByteArray)).size+(⟨#[10]⟩:ByteArray).size<=20000000000:=by rw [ByteArray.size_append,zaS,zaS];show _+1<=_;omega
    have hfin:Hid ((⟨ty.toArray⟩:ByteArray)++⟨tl.toArray⟩++⟨#[10]⟩=⟨(ty++tl++[10]).toArray⟩):=hid (by rw [show (⟨#[10]⟩:ByteArray)=⟨([10]:Bs).toArray⟩ from rfl,zba,zba]);replace htl:=hid htl;go_wp2_with (refine zaC (by rfl) 32 _ rfl b1 (o1+j*36) V _ rfl hr1.out Tryz.underlying32 rfl hVi.out ?_)
    refine cL1.out.mono ?_;rintro e w2 ⟨rfl,hx2⟩;have hx02:=hid (hx01.out.trans hx2);clear hx2 cL1;go_wp2_with fail
    go_roundg (gk - 1)
    case measure=>have:=hj.out;omega
    case rel=>exact ⟨j+1,ty++tl++[10],by have:=hj.out;omega,by go_num,by rw [hfin.out],hx02.out,hnx.out,halln.out,hln.out⟩
  ·obtain rfl:j=n:=by have:=hj.out;omega
   have hdi:¬ (j:Int) < (j:Int):=by omega
   have hd:decide ((j:Int) < (j:Int))=false:=decide_eq_false hdi;have htt:l.take j=l:=List.take_of_length_le (by have:=hn.out;omega);rw [htt] at ht hall;obtain ⟨S,hS⟩:∃ S:ByteArray,S=⟨ty.toArray⟩:=⟨_,rfl⟩;have hSs:S.size=ty.length:=by rw [hS];rfl
   rw [<- hS];replace hx:=hid hx
   by_cases hl:65536 < S.size
   ·have hp:=hid (ziB (l:=l) (by rw [<- ht];omega))
    have hli:(65536:Int) < (S.size:Int):=by omega
    replace ht:=hid ht;replace hS:=hid hS;replace hSs:=hid hSs;go_wp2_with fail
    go_ret2
    exact ⟨by unfold zcd;rw [hp.out];rfl,hx.out⟩
   ·have hp:=hid (zj5 (l:=l) (by have:=hn.out;omega) hall (by rw [<- ht];omega))
    have hli:¬ (65536:Int) < (S.size:Int):=by omega
    replace ht:=hid ht;replace hS:=hid hS;replace hSs:=hid hSs;go_wp2_with fail
    go_ret2
    exact ⟨by unfold zcd;rw [hp.out,hS.out,ht.out];try rfl,hx.out⟩
end Go.Proofs.YtjjfphalcibjfaaGreatDoor
