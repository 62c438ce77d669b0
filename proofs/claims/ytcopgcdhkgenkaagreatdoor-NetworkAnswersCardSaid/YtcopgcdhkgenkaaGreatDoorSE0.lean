import Derived.Test.YtcopgcdhkgenkaaGreatDoorSC4
import Derived.Test.YtcopgcdhkgenkaaGreatDoorRangeB
import Derived.Great.BuildSlice
import Derived.Stop.Asserts
import Derived.RowKitTokens
set_option linter.all false
set_option maxRecDepth 100000
set_option maxHeartbeats 16000000
namespace Go.Proofs.YtcopgcdhkgenkaaGreatDoor
open Go.Shelf Go.RowKit Cdk Scr
theorem idx6_0 (a0 a1 a2 a3 a4 a5:Value) (W:World):(Instr.index 92 (.agg #[a0,a1,a2,a3,a4,a5]) (.int .i64 0)).run Tryz.prog W=.ok a0 W:=by kernel_rfl
theorem idx6_1 (a0 a1 a2 a3 a4 a5:Value) (W:World):(Instr.index 92 (.agg #[a0,a1,a2,a3,a4,a5]) (.int .i64 1)).run Tryz.prog W=.ok a1 W:=by kernel_rfl
theorem idx6_2 (a0 a1 a2 a3 a4 a5:Value) (W:World):(Instr.index 92 (.agg #[a0,a1,a2,a3,a4,a5]) (.int .i64 2)).run Tryz.prog W=.ok a2 W:=by kernel_rfl
theorem idx6_3 (a0 a1 a2 a3 a4 a5:Value) (W:World):(Instr.index 92 (.agg #[a0,a1,a2,a3,a4,a5]) (.int .i64 3)).run Tryz.prog W=.ok a3 W:=by kernel_rfl
theorem idx6_4 (a0 a1 a2 a3 a4 a5:Value) (W:World):(Instr.index 92 (.agg #[a0,a1,a2,a3,a4,a5]) (.int .i64 4)).run Tryz.prog W=.ok a4 W:=by kernel_rfl
theorem idx6_5 (a0 a1 a2 a3 a4 a5:Value) (W:World):(Instr.index 92 (.agg #[a0,a1,a2,a3,a4,a5]) (.int .i64 5)).run Tryz.prog W=.ok a5 W:=by kernel_rfl
theorem msgEncode_any (m:Ms) (w:World) (hG:Gl w) (hv:vMs m=true):Calls Tryz.prog 18 #[.agg (msC m).toArray] w fun e w'=>e=.returned (.tuple #[.string ⟨(encM m).toArray⟩,.int .i64 0])/\Ext w w':=by
 obtain ⟨tz,htz⟩:∃ tz,tz=encM m:=⟨_,rfl⟩;rw [<- htz];have hgood:=vMs_good hv;have hvl:=hid (fun W=>msgValid_any m W);rw [hv] at hvl;replace htz:tz=putI (crc (bodyM m))++bodyM m:=by rw [htz,encM,if_pos hv]
 obtain ⟨L,hL⟩:∃ L,L=[m.kd,m.pa,m.sq,m.st,m.ba,m.ve]:=⟨_,rfl⟩;have hr:∀ x ∈ L,-4611686018427387903<=x/\x<=4611686018427387903:=by
  rw [hL];intro x hx;obtain ⟨g1,g2,g3,g4,g5,g6,g7⟩:=hgood;simp at hx;omega
 have hda:m.da.length<=16384:=hgood.da;obtain ⟨bz,hbz⟩:∃ bz,bz=bodyM m:=⟨_,rfl⟩;have hbz2:bz=putIs L++putS m.da:=by rw [hbz,hL];rfl
 rw [<- hbz] at htz;have hblen:bz.length<=20000:=by
  rw [hbz2];have h1:=putIs_len L;have h2:=putS_len m.da;have h3:L.length=6:=by rw [hL];rfl
  simp only [List.length_append];omega
 clear hgood hbz;obtain ⟨kd,pa,sq,st,ba,ve,da⟩:=m;simp only at hL hda hbz2;unfold msC strV at hvl ⊢;simp only at hvl ⊢;have hx0:=Mod.alloc (Mod.refl (fun _=>False) w) (.cells #[.int .i64 kd,.int .i64 pa,.int .i64 sq,.int .i64 st,.int .i64 ba,.int .i64 ve,.string ⟨da.toArray⟩] 45);have hT:=heap_alloc_new w (.cells #[.int .i64 kd,.int .i64 pa,.int .i64 sq,.int .i64 st,.int .i64 ba,.int .i64 ve,.string ⟨da.toArray⟩] 45);replace htz:=hid htz;replace hr:=hid hr;replace hL:=hid hL;replace hbz2:=hid hbz2;replace hblen:=hid hblen;replace hda:=hid hda;replace hx0:=hid hx0;replace hT:=hid hT;replace hG:=hid hG;go_enter Tryz.func18,Tryz.ntmps18;go_wp2_with fail
 refine (hvl.out _).mono ?_;rintro e w1 ⟨rfl,hx1⟩;have hT1:=hx1.at hT.out (fun h=>h);have hx2:=hx0.out.trans hx1;clear hx0 hx1 hT hvl;generalize w.heap.size=T at hT1 ⊢;have f0:w1.cell? ⟨T,0,none⟩=some (.int .i64 kd):=cell_of' hT1 0;have f1:w1.cell? ⟨T,1,none⟩=some (.int .i64 pa):=cell_of' hT1 1;have f2:w1.cell? ⟨T,2,none⟩=some (.int .i64 sq):=cell_of' hT1 2;have f3:w1.cell? ⟨T,3,none⟩=some (.int .i64 st):=cell_of' hT1 3;have f4:w1.cell? ⟨T,4,none⟩=some (.int .i64 ba):=cell_of' hT1 4;have f5:w1.cell? ⟨T,5,none⟩=some (.int .i64 ve):=cell_of' hT1 5;have f6:w1.cell? ⟨T,6,none⟩=some (.string ⟨da.toArray⟩):=cell_of' hT1 6;replace hx2:=hid hx2;go_wp2_with fail
 go_loopg [4,29] 6 (fun g body i wr=>∃ (j:Nat) (ty:Bs),j+g=6/\i=.int .i64 j/\body=.string ⟨ty.toArray⟩/\Ext w1 wr/\putIs L=ty++putIs (L.drop j)/\ty.length<=10*j)
 case atStart=>exact ⟨0,[],by omega,rfl,rfl,Mod.refl _ _,rfl,by simp⟩
 case round=>
  clear f0 f1 f2 f3 f4 f5 f6;obtain ⟨j,ty,hj,rfl,rfl,hx,ht,hlen⟩:=hrel;have hj6:j=0 \/ j=1 \/ j=2 \/ j=3 \/ j=4 \/ j=5 \/ j=6:=by omega
  replace hx:=hid hx;rcases hj6 with rfl | rfl | rfl | rfl | rfl | rfl | rfl
  ·have e1:L.drop 0=kd::L.drop 1:=by rw [hL.out];rfl
   have hxr:=hr.out kd (by rw [hL.out];simp);have hpi:=hid (putInt_any kd hxr.1 hxr.2);have h10:=putI_len kd;have ht2:putIs L=(ty++putI kd)++putIs (L.drop 1):=by rw [ht,e1];simp [putIs]
   generalize putI kd=ci at*;have hsum:(⟨ty.toArray⟩:ByteArray).size+(⟨ci.toArray⟩:ByteArray).size<=1000000:=by simp only [size_bs];omega
   have hcat:=app_bs ty ci;replace ht2:=hid ht2;replace hlen:=hid hlen;replace h10:=hid h10;replace hj:=hid hj;clear ht e1 hxr;have hix:=idx6_0 (.int .i64 kd) (.int .i64 pa) (.int .i64 sq) (.int .i64 st) (.int .i64 ba) (.int .i64 ve) wr;go_wp2_with fail
   refine (hpi.out _).mono ?_;rintro e w2 ⟨rfl,hx3⟩;have hx3:=hid (hx.out.trans hx3);go_wp2_with fail
   go_roundg 5
   case measure=>have:=hj.out;omega
   case rel=>exact ⟨1,ty++ci,by omega,rfl,by simp,hx3.out,ht2.out,by have:=hlen.out;have:=h10.out;simp only [List.length_append];omega⟩
  ·have e1:L.drop 1=pa::L.drop 2:=by rw [hL.out];rfl
   have hxr:=hr.out pa (by rw [hL.out];simp);have hpi:=hid (putInt_any pa hxr.1 hxr.2);have h10:=putI_len pa;have ht2:putIs L=(ty++putI pa)++putIs (L.drop 2):=by rw [ht,e1];simp [putIs]
   generalize putI pa=ci at*;have hsum:(⟨ty.toArray⟩:ByteArray).size+(⟨ci.toArray⟩:ByteArray).size<=1000000:=by simp only [size_bs];omega
   have hcat:=app_bs ty ci;replace ht2:=hid ht2;replace hlen:=hid hlen;replace h10:=hid h10;replace hj:=hid hj;clear ht e1 hxr;have hix:=idx6_1 (.int .i64 kd) (.int .i64 pa) (.int .i64 sq) (.int .i64 st) (.int .i64 ba) (.int .i64 ve) wr;go_wp2_with fail
   refine (hpi.out _).mono ?_;rintro e w2 ⟨rfl,hx3⟩;have hx3:=hid (hx.out.trans hx3);go_wp2_with fail
   go_roundg 4
   case measure=>have:=hj.out;omega
   case rel=>exact ⟨2,ty++ci,by omega,rfl,by simp,hx3.out,ht2.out,by have:=hlen.out;have:=h10.out;simp only [List.length_append];omega⟩
  ·have e1:L.drop 2=sq::L.drop 3:=by rw [hL.out];rfl
   have hxr:=hr.out sq (by rw [hL.out];simp);have hpi:=hid (putInt_any sq hxr.1 hxr.2);have h10:=putI_len sq;have ht2:putIs L=(ty++putI sq)++putIs (L.drop 3):=by rw [ht,e1];simp [putIs]
   generalize putI sq=ci at*;have hsum:(⟨ty.toArray⟩:ByteArray).size+(⟨ci.toArray⟩:ByteArray).size<=1000000:=by simp only [size_bs];omega
   have hcat:=app_bs ty ci;replace ht2:=hid ht2;replace hlen:=hid hlen;replace h10:=hid h10;replace hj:=hid hj;clear ht e1 hxr;have hix:=idx6_2 (.int .i64 kd) (.int .i64 pa) (.int .i64 sq) (.int .i64 st) (.int .i64 ba) (.int .i64 ve) wr;go_wp2_with fail
   refine (hpi.out _).mono ?_;rintro e w2 ⟨rfl,hx3⟩;have hx3:=hid (hx.out.trans hx3);go_wp2_with fail
   go_roundg 3
   case measure=>have:=hj.out;omega
   case rel=>exact ⟨3,ty++ci,by omega,rfl,by simp,hx3.out,ht2.out,by have:=hlen.out;have:=h10.out;simp only [List.length_append];omega⟩
  ·have e1:L.drop 3=st::L.drop 4:=by rw [hL.out];rfl
   have hxr:=hr.out st (by rw [hL.out];simp);have hpi:=hid (putInt_any st hxr.1 hxr.2);have h10:=putI_len st;have ht2:putIs L=(ty++putI st)++putIs (L.drop 4):=by rw [ht,e1];simp [putIs]
   generalize putI st=ci at*;have hsum:(⟨ty.toArray⟩:ByteArray).size+(⟨ci.toArray⟩:ByteArray).size<=1000000:=by simp only [size_bs];omega
   have hcat:=app_bs ty ci;replace ht2:=hid ht2;replace hlen:=hid hlen;replace h10:=hid h10;replace hj:=hid hj;clear ht e1 hxr;have hix:=idx6_3 (.int .i64 kd) (.int .i64 pa) (.int .i64 sq) (.int .i64 st) (.int .i64 ba) (.int .i64 ve) wr;go_wp2_with fail
   refine (hpi.out _).mono ?_;rintro e w2 ⟨rfl,hx3⟩;have hx3:=hid (hx.out.trans hx3);go_wp2_with fail
   go_roundg 2
   case measure=>have:=hj.out;omega
   case rel=>exact ⟨4,ty++ci,by omega,rfl,by simp,hx3.out,ht2.out,by have:=hlen.out;have:=h10.out;simp only [List.length_append];omega⟩
  ·have e1:L.drop 4=ba::L.drop 5:=by rw [hL.out];rfl
   have hxr:=hr.out ba (by rw [hL.out];simp);have hpi:=hid (putInt_any ba hxr.1 hxr.2);have h10:=putI_len ba;have ht2:putIs L=(ty++putI ba)++putIs (L.drop 5):=by rw [ht,e1];simp [putIs]
   generalize putI ba=ci at*;have hsum:(⟨ty.toArray⟩:ByteArray).size+(⟨ci.toArray⟩:ByteArray).size<=1000000:=by simp only [size_bs];omega
   have hcat:=app_bs ty ci;replace ht2:=hid ht2;replace hlen:=hid hlen;replace h10:=hid h10;replace hj:=hid hj;clear ht e1 hxr;have hix:=idx6_4 (.int .i64 kd) (.int .i64 pa) (.int .i64 sq) (.int .i64 st) (.int .i64 ba) (.int .i64 ve) wr;go_wp2_with fail
   refine (hpi.out _).mono ?_;rintro e w2 ⟨rfl,hx3⟩;have hx3:=hid (hx.out.trans hx3);go_wp2_with fail
   go_roundg 1
   case measure=>have:=hj.out;omega
   case rel=>exact ⟨5,ty++ci,by omega,rfl,by simp,hx3.out,ht2.out,by have:=hlen.out;have:=h10.out;simp only [List.length_append];omega⟩
  ·have e1:L.drop 5=ve::L.drop 6:=by rw [hL.out];rfl
   have hxr:=hr.out ve (by rw [hL.out];simp);have hpi:=hid (putInt_any ve hxr.1 hxr.2);have h10:=putI_len ve;have ht2:putIs L=(ty++putI ve)++putIs (L.drop 6):=by rw [ht,e1];simp [putIs]
   generalize putI ve=ci at*;have hsum:(⟨ty.toArray⟩:ByteArray).size+(⟨ci.toArray⟩:ByteArray).size<=1000000:=by simp only [size_bs];omega
   have hcat:=app_bs ty ci;replace ht2:=hid ht2;replace hlen:=hid hlen;replace h10:=hid h10;replace hj:=hid hj;clear ht e1 hxr;have hix:=idx6_5 (.int .i64 kd) (.int .i64 pa) (.int .i64 sq) (.int .i64 st) (.int .i64 ba) (.int .i64 ve) wr;go_wp2_with fail
   refine (hpi.out _).mono ?_;rintro e w2 ⟨rfl,hx3⟩;have hx3:=hid (hx.out.trans hx3);go_wp2_with fail
   go_roundg 0
   case measure=>have:=hj.out;omega
   case rel=>exact ⟨6,ty++ci,by omega,rfl,by simp,hx3.out,ht2.out,by have:=hlen.out;have:=h10.out;simp only [List.length_append];omega⟩
  ·rw [List.drop_eq_nil_of_le (by rw [hL.out];simp)] at ht
   have hTr:=hx.out.at hT1 (fun h=>h);have f6:wr.cell? ⟨T,6,none⟩=some (.string ⟨da.toArray⟩):=cell_of' hTr 6;have hps:=hid (putString_any da (by have:=hda.out;omega));have hbz3:bz=ty++putS da:=by rw [hbz2.out,ht];simp [putIs]
   have hsm:=hid (fun W (hW:Gl W)=>sum_any bz W hW (by have:=hblen.out;omega));have hcr:=crc_rng bz;have hpi:=hid (putInt_any (crc bz) (by omega) (by omega));have h10:=putI_len (crc bz);have hsum1:(⟨ty.toArray⟩:ByteArray).size+(⟨(putS da).toArray⟩:ByteArray).size<=1000000:=by
    have:=hblen.out;rw [hbz3] at this;simp only [size_bs,List.length_append] at this ⊢;omega
   have hsum2:(⟨(putI (crc bz)).toArray⟩:ByteArray).size+(⟨bz.toArray⟩:ByteArray).size<=1000000:=by
    have:=hblen.out;simp only [size_bs];omega
   have hcat:(⟨ty.toArray⟩:ByteArray)++⟨(putS da).toArray⟩=⟨bz.toArray⟩:=by rw [app_bs,<- hbz3]
   generalize crc bz=cr at*;generalize putI cr=ci at*;generalize putS da=sd at*;replace ht:=hid ht;replace hbz3:=hid hbz3;replace hlen:=hid hlen;replace h10:=hid h10;clear hcr;go_wp2_with fail
   refine (hps.out _).mono ?_;rintro e w2 ⟨rfl,hx3⟩;go_wp2_with fail
   refine (hsm.out _ (hG.out.ext ((hx2.out.trans hx.out).trans hx3))).mono ?_;rintro e w3 ⟨rfl,rfl⟩;go_wp2_with fail
   refine (hpi.out _).mono ?_;rintro e w4 ⟨rfl,hx4⟩;go_wp2_with fail
   go_ret2
   refine ⟨?_,((hx2.out.trans hx.out).trans hx3).trans hx4⟩;rw [htz.out,<- app_bs]
   rfl
end Go.Proofs.YtcopgcdhkgenkaaGreatDoor
namespace Cdk
open Go Go.RowKit
theorem own_cap {α:Type} {f:α -> List Value} {e:TypeId} {size B:Nat} {w:World} {ao:Option Addr} {n cap:Nat} {xs:List α} (h:Cdk.Own w B e size f (.slice ao n cap) xs):n=xs.length/\n<=cap/\cap<=9223372036854775807/\(ao=none -> cap=0):=by
 rcases h.2 with ⟨hv,h0⟩ | ⟨g,c,cur,hv,h2,h3,h4,h5,h6⟩
 ·injection hv with e1 e2 e3
  subst e1 e2 e3;exact ⟨h0.symm,by omega,by omega,fun _=>rfl⟩
 ·injection hv with e1 e2 e3
  subst e1 e2 e3;exact ⟨rfl,h4,h5,fun e=>nomatch e⟩
end Cdk
namespace Go.Proofs.YtcopgcdhkgenkaaGreatDoor
open Go Go.RowKit Cdk
end Go.Proofs.YtcopgcdhkgenkaaGreatDoor
namespace Scr
open Go
end Scr
namespace Go.Proofs.YtcopgcdhkgenkaaGreatDoor
open Go.Shelf Go.RowKit Cdk Scr
attribute [local go_sem] Oper.semAt_some
theorem elI:El Tryz.prog 3 (.int .i64 0) 1 8:=⟨by kernel_rfl,rfl,by decide,by decide⟩
theorem own_grown {α:Type} {W W':World} {row:Option Nat} (hg:W.grownBy W' row) (hrow:∀ r,row=some r -> ∃ o:Obj,W.heap[r]?=some o/\o.isCells=false) {base:Nat} {e:TypeId} {size:Nat} {f:α -> List Value} {v:Value} {xs:List α}
  (h:Cdk.Own W base e size f v xs):Cdk.Own W' base e size f v xs:=by
 refine ⟨h.1,?_⟩;rcases h.2 with h2 | ⟨g,cap,cur,rfl,h3,h4,h5⟩
 ·exact .inl h2
 ·exact .inr ⟨g,cap,cur,rfl,h3,grown_cells hg hrow h4,h5⟩
theorem keep_of_mod {S:Nat -> Prop} {w w':World} (hm:Mod S w w') (hS:∀ k o,w.heap[k]?=some o -> o.isCells=false -> ¬ S k):KeepsOthers w w':=
 ⟨hm.size,fun k o hk ho=>hm.at hk (hS k o hk ho)⟩
theorem own_rowAt {α:Type} {f:α -> List Value} {w:World} {B:Nat} {e:TypeId} {size:Nat} {v:Value} {l:List α} (h:Cdk.Own w B e size f v l) (hl:l.length<=140737488355328):RowAt (fun k=>B<=k/\k < w.heap.size) w f v l:=by
 obtain ⟨ao,cap,rfl,hr,hb⟩:=h.row;obtain ⟨-,h2,h3,h4⟩:=own_cap h;exact ⟨ao,cap,rfl,hr,fun b off e _=>h.block b (hb b off e),h2,⟨hl,h3⟩,h4⟩
end Go.Proofs.YtcopgcdhkgenkaaGreatDoor
namespace Cdk
open Go Go.RowKit
theorem fill_one {s:Nat} (hs:0 < s) (VB cells:Array Value) (hV:VB.size=s) (hc:cells.size=s):
  Instr.fill (fun i=>some (i*s,s)) cells [(0,Value.agg VB)]=some VB:=by
 have h:=Great.fill_whole hs [Value.agg VB] cells (fun v hv=>by simp only [List.mem_singleton] at hv;subst hv;exact hV) (by simp [hc]);have e:([Value.agg VB].flatMap fun v=>v.cells.toList).toArray=VB:=by simp [Value.cells]
 rw [e] at h;exact h
theorem wp_slice1 {P:Program} {e:TypeId} {z:Value} {size bytes:Nat} {w:World} {o:Oper} {a:Act} {K:Act -> World -> Prop} {Q:Exit -> Act -> World -> Prop} (t:TypeId) (x:Operand) (ho:o.op=.buildSlice t 1 #[(0,x)])
  (hu:P.underlying t=some (.slice e)) (el:El P e z size bytes) (hsm:size<=1000) (VB:Array Value) (hx:a.eval x=.agg VB) (hV:VB.size=size)
  (h:K (a.put o.dst (.slice (some ⟨w.heap.size,0,none⟩) 1 1)) (w.alloc (.cells VB e))):o.wp P a w K Q:=by
 obtain ⟨i0,hi,hz0,hz1,hz2⟩:=info_parts el.row;have hp:=el.pos;refine wp_buildSlice t e 1 _ ho VB i0 z hu hi hz0 (by rw [hz1];omega) (by rw [hz1];omega) ?_ h;have e1:(#[(0,x)].map fun (p:Nat × Operand)=>(p.1,a.eval p.2)).toList=[(0,Value.agg VB)]:=by simp [hx]
 show Instr.fill _ _ (#[(0,x)].map fun (p:Nat × Operand)=>(p.1,a.eval p.2)).toList=some VB
 rw [e1,hz1];exact fill_one hp VB _ hV (by simp)
theorem wpList_slice1 {P:Program} {e:TypeId} {z:Value} {size bytes:Nat} {w:World} {ops:Array Oper} {rest:List Oper} {o:Oper} {a:Act} {Q:Exit -> Act -> World -> Prop} (hg:o.guard=none) (t:TypeId) (x:Operand) (ho:o.op=.buildSlice t 1 #[(0,x)])
  (hu:P.underlying t=some (.slice e)) (el:El P e z size bytes) (hsm:size<=1000) (VB:Array Value) (hx:a.eval x=.agg VB) (hV:VB.size=size)
  (h:wpList P ops Q rest (a.put o.dst (.slice (some ⟨w.heap.size,0,none⟩) 1 1)) (w.alloc (.cells VB e))):wpList P ops Q (o::rest) a w:=
 wpList_plain hg fun _ hK=>wp_slice1 t x ho hu el hsm VB hx hV (hK _ _ h)
theorem wp_appAt {α:Type} {P:Program} {f:α -> List Value} {base:Nat} {e:TypeId} {z:Value} {size bytes:Nat} {w:World} {v:Value} {xs:List α} {o:Oper} {a:Act} {K:Act -> World -> Prop} {Q:Exit -> Act -> World -> Prop} (s x:Operand) (t:TypeId)
  (ho:o.op=.call { callee:=.builtin .append,args:=#[s,x],argTypes:=#[t,t] }) (ht:P.underlying t=some (.slice e)) (el:El P e z size bytes)
  (hs:a.eval s=v) (hown:Own w base e size f v xs) (ad:Addr) (m c:Nat) (hx:a.eval x=.slice (some ad) m c) (ys:List α) (hm:ys.length=m) (hrow:RowIs w (some ad) (ys.flatMap f))
  (hf:∀ y,(f y).length=size) (h1:∀ y ∈ ys,∀ u ∈ f y,u.oneCell'=true) (hlen:xs.length+ys.length<=137438953472) (hbase:base<=w.heap.size)
  (hK:∀ v' w',Hid (Own w' base e size f v' (xs++ys)/\Mod (fun k=>v.ownBlock=some k) w w'/\(v'.ownBlock=v.ownBlock \/ v'.ownBlock=some w.heap.size)) -> K (a.put o.dst v') w'):o.wp P a w K Q:=by
 obtain ⟨i0,hi,hz0,hz1,hz2⟩:=info_parts el.row;have hflat:=fun l:List α=>flat_length f size hf l
 have hcells:∀ j u,(ys.flatMap f)[j]?=some u -> w.cell? (ad.add j)=some u:=by
  intro j u hu;obtain ⟨b,off,he,hcc⟩:=hrow j u hu;simp only [Option.some.injEq] at he;subst he;rw [Addr.add_lit];exact hcc
 have hb:(xs.length+m)*bytes<=140737488355328:=by
  have h1:=el.small;have:(xs.length+m)*bytes<=137438953472*1024:=Nat.mul_le_mul (by omega) h1;omega
 obtain ⟨v',w',hrun,h2,h3,-,h4⟩:=run_append_own_at w base t o.type e i0 z size bytes ht hi hz0 hz1 hz2 el.cells el.pos v xs.length (xs.flatMap f) hown ad m c (ys.flatMap f) (by rw [hflat,hm]) hcells
  (fun u hu=>by obtain ⟨y,hy,hu⟩:=List.mem_flatMap.1 hu;exact h1 y hy u hu) (by simp only [maxLen];omega) hb hbase
 have hfin:=hK v' w' ⟨by subst hm;unfold Own;rw [List.length_append,List.flatMap_append];exact h2,Mod.ofGrown h3 (fun k hk=>hk),h4⟩;unfold Oper.wp;simp [execOp,ho,resolve,invoke,builtin,hs,hx,hrun,Result.andThen];exact hfin
section
variable {P:Program} {Q:Exit -> Act -> World -> Prop} {l₀ n:Nat}
theorem wpIn_of_wp {o:Oper} (hd:∀ c,o.op ≠ .defer c) {a:Act} {w:World} {K:Act -> World -> Prop} (h:o.wp P a w K Q):o.wpIn (Fence.wide.inRound l₀) n P a w K Q:=by
 refine ⟨fun _ _=>trivial,?_⟩;rw [Oper.semAt_eq _ _ _ hd];exact uponIn_of h
variable {ops:Array Oper} {rest:List Oper} {o:Oper} {a:Act} {w:World}
theorem wpListIn_plain_of (hg:o.guard=none) (hd:∀ c,o.op ≠ .defer c) (h:∀ K:Act -> World -> Prop,(∀ a w,wpListIn (Fence.wide.inRound l₀) n P ops Q rest a w -> K a w) -> o.wp P a w K Q):
  wpListIn (Fence.wide.inRound l₀) n P ops Q (o::rest) a w:=wpListIn_plain hg fun K hK=>wpIn_of_wp hd (h K hK)
theorem wpListIn_appAt {α:Type} {f:α -> List Value} {base:Nat} {e:TypeId} {z:Value} {size bytes:Nat} {v:Value} {xs:List α} (hg:o.guard=none) (s x:Operand) (t:TypeId)
  (ho:o.op=.call { callee:=.builtin .append,args:=#[s,x],argTypes:=#[t,t] }) (ht:P.underlying t=some (.slice e)) (el:El P e z size bytes)
  (hs:a.eval s=v) (hown:Own w base e size f v xs) (ad:Addr) (m c:Nat) (hx:a.eval x=.slice (some ad) m c) (ys:List α) (hm:ys.length=m) (hrow:RowIs w (some ad) (ys.flatMap f))
  (hf:∀ y,(f y).length=size) (h1:∀ y ∈ ys,∀ u ∈ f y,u.oneCell'=true) (hlen:xs.length+ys.length<=137438953472) (hbase:base<=w.heap.size)
  (hK:∀ v' w',Hid (Own w' base e size f v' (xs++ys)/\Mod (fun k=>v.ownBlock=some k) w w'/\(v'.ownBlock=v.ownBlock \/ v'.ownBlock=some w.heap.size)) -> wpListIn (Fence.wide.inRound l₀) n P ops Q rest (a.put o.dst v') w'):
  wpListIn (Fence.wide.inRound l₀) n P ops Q (o::rest) a w:=
 wpListIn_plain_of hg (fun c hc=>by rw [ho] at hc;cases hc) fun _ hK'=>wp_appAt s x t ho ht el hs hown ad m c hx ys hm hrow hf h1 hlen hbase (fun v' w' H=>hK' _ _ (hK v' w' H))
end
end Cdk
namespace Go.Proofs.YtcopgcdhkgenkaaGreatDoor
open Go.Shelf Go.RowKit Cdk Scr
attribute [local go_sem] Oper.semAt_some
theorem elS:El Tryz.prog 9 (.string .empty) 1 16:=⟨by kernel_rfl,rfl,by decide,by decide⟩
theorem own_cell_ne {α:Type} {f:α -> List Value} {W:World} {base:Nat} {e t:TypeId} {size:Nat} {v:Value} {xs:List α} (h:Cdk.Own W base e size f v xs) {k:Nat} {c:Array Value} {fr:Nat × Nat} (hk:W.heap[k]?=some (.cells c t fr)) (hne:t ≠ e):v.ownBlock ≠ some k:=by
 intro hv;obtain ⟨c',hc⟩:=h.cells hv;rw [hk] at hc;injection hc with hc;injection hc with _ hc _
 exact hne hc
theorem each_any (a1 a2:Option Addr) (c1 c2:Nat) (w:World):Calls Tryz.prog 363 #[stV a1 a2 c1 c2] w fun e w'=>e=.returned (.func (.func 429) #[] #[.pointer (some ⟨w.heap.size,0,none⟩)])/\w'=w.alloc (.cells #[.slice a1 0 c1,.slice a2 0 c2] 235):=by
 unfold stV;go_enter Tryz.func363,Tryz.ntmps363;go_wp2_with fail
 go_ret;exact ⟨rfl,rfl⟩
structure LsA (w:World) (L:Nat) (pre:List Int) (W:World):Prop where
 mod:Ext w W
 size:L+2<=W.heap.size
 box:∃ v,W.heap[L]?=some (.cells #[v] 40 (0,0))/\Cdk.Own W (L+2) 9 1 strC v (pre.map adrB)
theorem lsA_own (w:World) (L B:Nat) (hL:w.heap.size<=L) (hB:L<=B):OwnFrom B (fun p W=>LsA w L p W):=by
 intro p W W' row h hg hrow;have hr:=fun r e=>(hrow r e).2
 obtain ⟨v,h1,h2⟩:=h.box;exact ⟨Ext.ofGrown h.mod hg (fun r e=>by have:=(hrow r e).1;omega),Nat.le_trans h.size hg.size,⟨v,grown_cells hg hr h1,own_grown hg hr h2⟩⟩
theorem lsA_box {w:World} {L:Nat} (hL:w.heap.size<=L) {p:List Int} {W:World} (v:Value) (h:LsA w L p W):LsA w L p (W.setCell ⟨L+1,0,none⟩ v):=by
 obtain ⟨u,h1,h2⟩:=h.box;refine ⟨h.mod.setCell (fun e=>absurd e (by show ¬ L+1 < w.heap.size;omega)) _,by simpa [World.setCell] using h.size,⟨u,(put_ne' W 0 _ (by omega:L+1 ≠ L)).trans h1,?_⟩⟩;refine h2.mod ((Mod.refl (Eq (L+1)) W).setCell (a:=⟨L+1,0,none⟩) (fun _=>rfl) _) (fun k hk e=>?_);subst e;exact absurd (h2.block _ hk).1 (by omega)
theorem adrAll_any (a1 a2:Option Addr) (c1 c2:Nat) (w:World) (hG:Gl w):Calls Tryz.prog 288 #[stV a1 a2 c1 c2] w fun e w'=>(∃ v,e=.returned v/\StrsAt (fun k=>w.heap.size<=k/\k < w'.heap.size) w' v [adrB 1,adrB 6])/\Ext w w':=by
 refine (callsIn_wide (n:=3)).1 ?_;refine callsIn_of_wp_marks Tryz.func288 rfl trivial ?_ rfl;simp only [Tryz.ntmps288,List.size_toArray,List.length_cons,List.length_nil,Nat.reduceAdd,Nat.reduceSub,Array.replicate_succ,Array.replicate_zero,List.push_toArray,List.append_toArray,List.nil_append,List.cons_append];refine (wpIn_wide (n:=3)).2 ?_;have he:=hid (fun W=>each_any a1 a2 c1 c2 W);unfold stV at he ⊢;go_wp2_with fail
 refine (he.out _).mono ?_;rintro e w1 ⟨rfl,rfl⟩;obtain ⟨N,hN⟩:∃ N,N=w.heap.size:=⟨_,rfl⟩;have hx:=allocs_ext (S:=fun _=>False) [.cells #[.slice a1 0 c1,.slice a2 0 c2] 235,.cells #[.slice none 0 0] 40,.cells #[.slice a1 0 c1,.slice a2 0 c2] 235] w;have hg:=allocs_get [.cells #[.slice a1 0 c1,.slice a2 0 c2] 235,.cells #[.slice none 0 0] 40,.cells #[.slice a1 0 c1,.slice a2 0 c2] 235] w;have hz:=allocs_size [.cells #[.slice a1 0 c1,.slice a2 0 c2] 235,.cells #[.slice none 0 0] 40,.cells #[.slice a1 0 c1,.slice a2 0 c2] 235] w;have k1:=hg 1 (by simp);have k2:=hg 2 (by simp);simp only [allocs,<- hN,List.length_cons,List.length_nil] at hx k1 k2 hz;clear hg;try simp only [World.size_alloc]
 simp only [<- hN];generalize (((w.alloc (.cells #[.slice a1 0 c1,.slice a2 0 c2] 235)).alloc (.cells #[.slice none 0 0] 40)).alloc (.cells #[.slice a1 0 c1,.slice a2 0 c2] 235))=w2 at hx k1 k2 hz ⊢;have hNw:w.heap.size<=N+1:=by omega
 have hs:=adrEach_seq 2 (N+1+1) (by omega) a1 a2 c1 c2 w2 k2;have hI0:LsA w (N+1) [] w2:=⟨hx,by omega,⟨_,k1,Own.nil _ _ _ _ _⟩⟩;replace hN:=hid hN;clear hx k1 k2;replace hI0:=hid hI0;go_wp2_with fail
 refine (wpIn_wide (n:=3)).1 ?_;refine wpIn_rangeFunc_B (F:=Fence.wide) rfl (by omega) (gf:=429) (lb:=#[.pointer (some ⟨N+1+1,0,none⟩)]) rfl trivial (enters_of Tryz.func429 (by kernel_rfl) rfl)
  hs (fun k hk=>by subst hk;omega) (by omega) (Below.refl _ _) (fun _=>rfl) (fun pre W=>LsA w (N+1) pre W) (fun _ _ _=>False)
  (lsA_own w (N+1) w2.heap.size hNw (by omega)) (fun p A v hh=>lsA_box hNw v hh) (fun c s W W' row h _ _=>h) hI0.out (fun x=>#[.int .i64 x,.string ⟨#[]⟩,.int .i64 0,.string ⟨#[]⟩]) 454 ?aa ?assign ?body ?done (fun D c pre W _ _ h=>h.elim)
 case assign=>
  intro l x T W K hT hK;unfold adrV
  gi_wp2
  rw [<- hT];exact hK
 case body=>
  rintro l pre x B W hI hB hb hlen hx;replace hI:=hid hI;have q0:W.cell? ⟨B,0,none⟩=some (.int .i64 x):=cellN hb 0;have q1:W.cell? ⟨B,1,none⟩=some (.string ⟨#[]⟩):=cellN hb 1;have q2:W.cell? ⟨B,2,none⟩=some (.int .i64 0):=cellN hb 2;have q3:W.cell? ⟨B,3,none⟩=some (.string ⟨#[]⟩):=cellN hb 3
  gi_wp2
  refine ⟨trivial,callsIn_wide.2 ?_⟩;refine (adrFormat_any x hx W (hG.ext hI.out.mod)).mono ?_;rintro e W2 ⟨rfl,hx2⟩;obtain ⟨v,hv1,hO⟩:=hI.out.box;obtain ⟨av,cv,rfl,-,-⟩:=hO.row;have hv2:=hx2.at hv1 (fun h=>h);have hO2:=hO.ext hx2;have hsz2:N+1+2<=W2.heap.size:=Nat.le_trans hI.out.size hx2.size;have hlp:(pre.map adrB).length=pre.length:=by simp
  rw [hlp] at hv2 hO2;have r0:W2.cell? ⟨N+1,0,none⟩=some (.slice av pre.length cv):=cellN hv2 0;have z0:=freeN hv2 0;have hxA:=Mod.alloc (Mod.refl (fun _=>False) W2) (.cells #[.string (adrS x)] 9);have hk0:=hid (keep_of_mod hx2 (fun _ _ _ _ h=>h));have hM2:=hid (hI.out.mod.trans hx2);replace hv2:=hid hv2;replace hO2:=hid hO2;have hxA2:=hid hxA;have hx3:=hid hx2;have hB2:Hid (W2.heap[N+1+1]?=W.heap[N+1+1]?):=hid (hx2.block _ (by have:=hI.out.size;omega) (fun h=>h));clear hv1 hO q0 q1 q2 q3 hb hx2 hxA
  gi_wp2_with (gi_at_builtin;refine wpListIn_appAt rfl _ _ _ rfl Tryz.underlying40 elS rfl (hO2.out.ext hxA2.out) _ 1 1 rfl [adrB x] rfl (by exact RowIs.new _ [strV (adrB x)] _) strC_len (fun y hy u hu=>by simp only [List.mem_singleton] at hy;subst hy;simp [strC,strV] at hu;subst hu;rfl) (by simp;omega) (by rw [World.size_alloc];omega) (fun v6 w6 H6=>Hid.out ?_))
  obtain ⟨hO6,hM6,-⟩:=H6.out;have hma:Mod (fun k=>(Value.slice av pre.length cv).ownBlock=some k) W2 w6:=(hxA2.out.mono (fun _ h=>h.elim)).trans hM6;have hv6:=hma.at hv2.out (own_cell_ne hO2.out hv2.out (by decide));obtain ⟨av6,cv6,rfl,-,-⟩:=hO6.row;have hl6:(pre.map adrB++[adrB x]).length=pre.length+1:=by simp
  have hmap:pre.map adrB++[adrB x]=(pre++[x]).map adrB:=by simp
  rw [hl6] at hO6 ⊢;have r6:w6.cell? ⟨N+1,0,none⟩=some (.slice av pre.length cv):=cellN hv6 0;have z6:=freeN hv6 0;have hsz6:W2.heap.size<=w6.heap.size:=hma.size;have hp6:=hid (put_at' hv6 0 (.slice av6 (pre.length+1) cv6));have hO7:=hid (hO6.mod ((Mod.refl (Eq (N+1)) w6).setCell (a:=⟨N+1,0,none⟩) (fun _=>rfl) (.slice av6 (pre.length+1) cv6)) (fun k hk e=>by subst e;exact own_cell_ne hO6 hv6 (by decide) hk));have hE7:=hid ((hM2.out.then hma (fun k hk e=>by have:=(hO2.out.block _ e).1;omega)).setCell (a:=⟨N+1,0,none⟩) (fun e=>absurd e (by show ¬ N+1 < w.heap.size;omega)) (.slice av6 (pre.length+1) cv6));have hK7:=hid (((hk0.out.trans (keep_of_mod hma (fun k o hk ho e=>by obtain ⟨c,hc⟩:=hO2.out.cells e;rw [hk] at hc;cases hc;cases ho))).trans (KeepsOthers.setCell w6 ⟨N+1,0,none⟩ (.slice av6 (pre.length+1) cv6))))
  have hB7:=hid (show ∀ k,k=N+1+1 -> (w6.setCell ⟨N+1,0,none⟩ (.slice av6 (pre.length+1) cv6)).heap[k]?=W.heap[k]? from fun k hk=>by
   subst hk;rw [put_ne' w6 0 _ (by omega:N+1 ≠ N+1+1),hma.block _ (by omega) (fun e=>by have:=(hO2.out.block _ e).1;omega)]
   exact hB2.out)
  have hZ7:=hid (show N+1+2<=(w6.setCell ⟨N+1,0,none⟩ (.slice av6 (pre.length+1) cv6)).heap.size by simp only [World.setCell,Array.size_modify];omega);clear H6 hM6 hO6 hma hv6 hv2 hO2 hxA2 hx3 hB2 hM2 hk0;refine hid ?_
  gi_wp2
  exact ⟨hK7.out,hB7.out,hE7.out,hZ7.out,⟨_,hp6.out,by rw [<- hmap];exact hO7.out⟩⟩
 case done=>
  rintro D xs W hD rfl hI hd;obtain ⟨v,hv1,hO⟩:=hI.box;obtain ⟨av,cv,rfl,hr,-⟩:=hO.row;have hr0:=hr 0 (strV (adrB 1)) rfl;have hr1:=hr 1 (strV (adrB 6)) rfl;obtain ⟨g,off,rfl,h0⟩:=hr0;obtain ⟨g',off',e,h1⟩:=hr1;injection e with e;injection e with e1 e2;subst e1 e2
  rw [Nat.add_zero] at h0;have hlen2:([1,6].map adrB:List Bs).length=2:=rfl;rw [hlen2] at hv1 hO;have r0:W.cell? ⟨N+1,0,none⟩=some (.slice (some ⟨g,off,none⟩) 2 cv):=cellN hv1 0;have hX:=hid hI.mod;have hgN:N+1+2<=g:=(hO.block g rfl).1;replace hd:=hid hd;replace hO:=hid hO;replace h0:=hid h0;replace h1:=hid h1;clear hr hv1 hI;go_wp2_with fail
  refine (sort2_str g off cv _ h0.out h1.out).mono ?_;rintro e w4 ⟨rfl,n1,rfl⟩;have r1:(W.drewN n1).cell? ⟨N+1,0,none⟩=some (.slice (some ⟨g,off,none⟩) 2 cv):=r0;go_wp2_with fail
  refine (compact2_str g off cv (W.drewN n1) h0.out h1.out).mono ?_;rintro e w5 ⟨rfl,n2,rfl⟩;have hd2:((W.drewN n1).drewN n2).heap[D]?=some (.deferred (some [])):=hd.out;replace hd2:=hid hd2;go_wp2_with fail
  have hxW:Ext W (W.drewN (n1+n2)):=(Mod.refl _ W).ofDrewN (n1+n2);have hgD:(W.drewN (n1+n2)).grownBy ((W.drewN (n1+n2)).putObj D (.deferred none)) (some D):=grownBy_putObj' _ D _;have hrD:∀ r,some D=some r -> ∃ o,(W.drewN (n1+n2)).heap[r]?=some o/\o.isCells=false:=fun r e=>by injection e with e;subst e;exact ⟨_,hd.out,rfl⟩
  refine ⟨by simp,.inl ⟨_,_,rfl,run_takeDeferred hd2.out,?_⟩⟩;refine ⟨_,by simp [results,Tryz.func288,go_sem];rfl,?_⟩;refine ⟨⟨_,rfl,?_⟩,Ext.ofGrown (hX.out.ofDrewN (n1+n2)) hgD (fun r e=>by cases e;omega)⟩;exact RowAt.mono (own_rowAt (own_grown hgD hrD (hO.out.ext hxW)) (by decide)) (fun k hk=>⟨by omega,hk.2⟩)
end Go.Proofs.YtcopgcdhkgenkaaGreatDoor
namespace Go.Proofs.YtcopgcdhkgenkaaGreatDoor
open Go.Shelf Go.RowKit Cdk Scr
theorem copyNone_page (m:Nat) (v:Value) (w:World) (hm:MapAt w Value.string m ([]:List (ByteArray × Value))):Calls Tryz.prog 157 #[v,.map (some m)] w fun e w'=>e=.returned (.tuple #[])/\Ext w w':=by
 have hx0:=hid (Mod.refl (fun _=>False) w);replace hm:=hid hm;go_enter Tryz.func157,Tryz.ntmps157;go_wp2_with (refine wpList_range rfl _ 243 _ rfl Tryz.underlying243 hm.out rfl ?_)
 intro w1 H;go_wp2_with fail
 refine wp_loop_rounds 1 ?_;rw [rounds_succ];go_wp2_with (at_next;refine wpList_next rfl _ rfl (keyOk_string (P:=Tryz.prog) Tryz.underlying9).inj H.out.1 rfl (fun hall=>?_) (fun k v w2 H2=>absurd H2.out.1 (by simp)))
 go_wp2_with fail
 go_end0
 exact ⟨rfl,hx0.out.trans H.out.2.1⟩
theorem pagesNone_any (m:Nat) (w:World) (hm:MapAt w Value.string m ([]:List (ByteArray × Value))):Calls Tryz.prog 177 #[.map (some m)] w fun e w'=>e=.returned (.slice none 0 0)/\Ext w w':=by
 have hk:=hid (keys_page (some m) w);have hx1:=(Mod.refl (fun _=>False) w).alloc (.cells #[.map (some m)] 243);have hz:=heap_alloc_new w (.cells #[.map (some m)] 243);have hsr:=hid (sortedNone_str 318 #[.pointer (some ⟨w.heap.size,0,none⟩)] (enters_of Tryz.func318 (by kernel_rfl) rfl) _ (keysNone_page w.heap.size m _ (cellN hz 0) (hm.mod hx1 (fun h=>h))));replace hx1:=hid hx1;clear hz hm;go_enter Tryz.func177,Tryz.ntmps177;go_wp2_with fail
 refine hk.out.mono ?_;rintro e w1 ⟨rfl,rfl⟩;go_wp2_with fail
 refine hsr.out.mono ?_;rintro e w2 ⟨rfl,hx2⟩;replace hx2:=hid hx2;go_wp2_with fail
 refine wp_loop_rounds 1 ?_;rw [rounds_succ];go_wp2_with fail
 go_ret;exact ⟨rfl,hx1.out.trans hx2.out⟩
theorem splitN_any (s:Bs) (hs:s.length<=1000) (n:Nat) (z:Int) (hz:z=n) (hn:1<=n/\n<=10) (w:World) (hG:Gl w):Calls Tryz.prog 308 #[.string ⟨s.toArray⟩,.string ⟨#[47]⟩,.int .i64 z] w fun e w'=>e=.returned (.slice (some ⟨w.heap.size,0,none⟩) (Lib.splitB ⟨#[47]⟩ 0 (min n (s.length+1) - 1) ⟨s.toArray⟩).length (min n (s.length+1)))/\w'=w.alloc (.cells (Lib.cellsOf (Lib.splitB ⟨#[47]⟩ 0 (min n (s.length+1) - 1) ⟨s.toArray⟩) (min n (s.length+1))) 9):=by
 subst hz;obtain ⟨m,hm⟩:=hG.mx;exact Tryz.strings_SplitN ⟨s.toArray⟩ ⟨#[47]⟩ n m w (by show s.toArray.size < _;simp;omega) hm (Nat.le_refl 1) hn.1 (by omega)
def adrA (k:Int):Array Value:=#[.int .i64 k,.string ⟨#[]⟩,.int .i64 0,.string ⟨#[]⟩]
open Go.Shelf Go.RowKit Cdk Scr Go.Extern.Stop Go.Stop Go.Extern
def flV (c:Int):Value:=.iface 99 (.agg #[.int .i64 c])
theorem as_valueOf (t:Addr) (w:World):(ReflectliteValue.unpack (.iface 104 (.pointer (some t)))).run Tryz.prog w
  =.ok (.agg #[.pointer (some ⟨12,104,none⟩),.pointer (some ⟨w.heap.size,0,none⟩),.int .u64 150]) (w.alloc (.cells #[.pointer (some t)] 104)):=by kernel_rfl
theorem as_type (a : Addr) (w : World) : (ReflectliteValue.methodAny (ReflectliteValue.valueError "reflectlite.Value.Type" 0) (fun t _ _ _ => ReflectliteType.toType t) #[.agg #[.pointer (some ⟨12, 104, none⟩), .pointer (some a), .int .u64 150]]).run Tryz.prog w
  =.ok (.iface 288 (.agg #[.pointer (some ⟨12,104,none⟩)])) w:=by kernel_rfl
theorem as_mKind (h : Value) (w : World) : (Go.method 946 288 (.agg #[h]) "Kind").run Tryz.prog w = .ok (669, h) w := by kernel_rfl
theorem as_kindP (w:World):((ReflectliteType.abiMethod fun t=>Functor.map (fun a:Nat=>Value.int IntKind.u8 (a:Int)) (Rtype.kind t)) #[.pointer (some ⟨12,104,none⟩)]).run Tryz.prog w=.ok (.int .u8 22) w:=by kernel_rfl
theorem as_kindF (w:World):((ReflectliteType.abiMethod fun t=>Functor.map (fun a:Nat=>Value.int IntKind.u8 (a:Int)) (Rtype.kind t)) #[.pointer (some ⟨12,99,none⟩)]).run Tryz.prog w=.ok (.int .u8 25) w:=by kernel_rfl
theorem as_rlm (z:Sem Value) (f:TypeId -> Addr -> Nat -> Nat -> Sem Value) (v:Value):
  ReflectliteValue.method z f #[v]=(do match <- ReflectliteValue.parts v with | none=>z | some (t,a,fl)=>f t a fl (fl % 32)):=rfl
theorem as_parts (a:Addr) (w:World):(ReflectliteValue.parts (.agg #[.pointer (some ⟨12,104,none⟩),.pointer (some a),.int .u64 150])).run Tryz.prog w=.ok (some (104,a,150)) w:=by kernel_rfl
theorem as_isNil (a p:Addr) (W:World) (ha:W.cell? a=some (.pointer (some p))):
  (ReflectliteValue.method (ReflectliteValue.valueError "reflectlite.Value.IsNil" 0) ReflectliteValue.isNil #[.agg #[.pointer (some ⟨12, 104, none⟩), .pointer (some a), .int .u64 150]]).run Tryz.prog W = .ok (.bool false) W := by
 rw [as_rlm];simp only [Sem.run_bind,as_parts,Result.andThen];simp [ReflectliteValue.isNil,loadVar,isAgg,underlying,Tryz.underlying104,ha,Result.andThen]
theorem as_mElem (h : Value) (w : World) : (Go.method 946 288 (.agg #[h]) "Elem").run Tryz.prog w = .ok (688, .agg #[h]) w := by kernel_rfl
theorem as_mAssign (h : Value) (w : World) : (Go.method 946 288 (.agg #[h]) "AssignableTo").run Tryz.prog w = .ok (686, .agg #[h]) w := by kernel_rfl
theorem as_mImpl (h : Value) (w : World) : (Go.method 946 288 (.agg #[h]) "Implements").run Tryz.prog w = .ok (689, .agg #[h]) w := by kernel_rfl
theorem as_elem (w:World):(ReflectliteType.method ReflectliteType.elem #[.agg #[.pointer (some ⟨12,104,none⟩)]]).run Tryz.prog w=.ok (.iface 288 (.agg #[.pointer (some ⟨12,99,none⟩)])) w:=by kernel_rfl
theorem as_impl (w : World) : (ReflectliteType.relation "Implements" ReflectliteType.implements_ #[.agg #[.pointer (some ⟨12, 99, none⟩)], .iface 288 (.agg #[.pointer (some ⟨12, 101, none⟩)])]).run Tryz.prog w = .ok (.bool true) w := by kernel_rfl
theorem as_typeOf (v:Value) (w:World):(ReflectliteType.typeOf #[.iface 99 v]).run Tryz.prog w=.ok (.iface 288 (.agg #[.pointer (some ⟨12,99,none⟩)])) w:=by kernel_rfl
theorem as_assign (w : World) : (ReflectliteType.relation "AssignableTo" ReflectliteType.assignableTo #[.agg #[.pointer (some ⟨12, 99, none⟩)], .iface 288 (.agg #[.pointer (some ⟨12, 99, none⟩)])]).run Tryz.prog w = .ok (.bool true) w := by kernel_rfl
theorem as_valueF (c:Int) (w:World):(ReflectliteValue.unpack (.iface 99 (.agg #[.int .i64 c]))).run Tryz.prog w
  =.ok (.agg #[.pointer (some ⟨12,99,none⟩),.pointer (some ⟨w.heap.size,0,none⟩),.int .u64 153]) (w.alloc (.cells #[.int .i64 c] 99)):=by kernel_rfl
theorem as_elemOf (w:World):(Rtype.elem? 104).run Tryz.prog w=.ok (some 99) w:=by kernel_rfl
theorem as_mk (p:Addr) (w:World):(ReflectliteValue.mk 99 p ReflectliteValue.flagAddr).run Tryz.prog w=.ok (.agg #[.pointer (some ⟨12,99,none⟩),.pointer (some p),.int .u64 409]) w:=by kernel_rfl
theorem as_elemV (a p:Addr) (W:World) (ha:W.cell? a=some (.pointer (some p))):
  (ReflectliteValue.method (ReflectliteValue.valueError "reflectlite.Value.Elem" 0) ReflectliteValue.elem #[.agg #[.pointer (some ⟨12, 104, none⟩), .pointer (some a), .int .u64 150]]).run Tryz.prog W
   =.ok (.agg #[.pointer (some ⟨12,99,none⟩),.pointer (some p),.int .u64 409]) W:=by
 rw [as_rlm];simp only [Sem.run_bind,as_parts,Result.andThen];simp [ReflectliteValue.elem,loadVar,isAgg,underlying,Tryz.underlying104,ha,Result.andThen,as_elemOf,as_mk]
theorem as_rls (v x:Value):ReflectliteValue.set #[v,x]=(do
  let (some (dst,a,fl),some (src,b,_)):=(<- ReflectliteValue.parts v,<- ReflectliteValue.parts x)
   | unsupported (.noEntry "extern/(internal/reflectlite.Value).Set.zeroValue")
  if fl / ReflectliteValue.flagAddr % 2 == 0 then unsupported (.noEntry "extern/(internal/reflectlite.Value).Set.unaddressable")
  let val <- loadVar src b
  if <- Rtype.directlyAssignable dst src then storeVar dst a val
  else if <- Rtype.implements dst src then
   if (<- Rtype.kind src)==20 then
    match val with
    | .nilIface => unsupported (.noEntry "extern/reflectlite: a nil value of one interface type handed on as a value of another")
    | _=>storeVar dst a val
   else storeVar dst a (.iface src val)
  else panicString ("reflectlite.Set: value of type " ++ (<- Rtype.spelt src) ++ " is not assignable to type " ++ (<- Rtype.spelt dst))
  pure (.tuple #[])):=rfl
theorem as_partsA (a:Addr) (w:World):(ReflectliteValue.parts (.agg #[.pointer (some ⟨12,99,none⟩),.pointer (some a),.int .u64 409])).run Tryz.prog w=.ok (some (99,a,409)) w:=by kernel_rfl
theorem as_partsB (a:Addr) (w:World):(ReflectliteValue.parts (.agg #[.pointer (some ⟨12,99,none⟩),.pointer (some a),.int .u64 153])).run Tryz.prog w=.ok (some (99,a,153)) w:=by kernel_rfl
theorem as_direct (w:World):(Rtype.directlyAssignable 99 99).run Tryz.prog w=.ok true w:=by kernel_rfl
theorem as_set (ta:Addr) (g:Nat) (c:Int) (old:Value) (fr:Nat × Nat) (W:World) (hb:W.heap[g]?=some (.cells #[.int .i64 c] 99 fr)) (ht:W.cell? ta=some old) (hf:W.frozen? ta=false):
  (ReflectliteValue.set #[.agg #[.pointer (some ⟨12,99,none⟩),.pointer (some ta),.int .u64 409],.agg #[.pointer (some ⟨12,99,none⟩),.pointer (some ⟨g,0,none⟩),.int .u64 153]]).run Tryz.prog W
   =.ok (.tuple #[]) (W.setCell ta (.int .i64 c)):=by
 have hl:=run_loadVar_row (P:=Tryz.prog) W g 99 99 #[.int .i64 c] fr _ hb Tryz.underlying99 rfl (by kernel_rfl);rw [as_rls];simp only [Sem.run_bind,as_partsA,as_partsB,Result.andThen];simp [ReflectliteValue.flagAddr,hl,Result.andThen,as_direct,storeVar,Value.cells,storeCells,Addr.add];rw [run_store Tryz.prog W ta _ _ (by rfl)];simp [ht,hf]
theorem as_hit (c:Int) (t:Addr) (old:Value) (w:World) (hg:w.cell? ⟨1,0,none⟩=some (.iface 288 (.agg #[.pointer (some ⟨12,101,none⟩)]))) (ht0:w.cell? t=some old) (hf0:w.frozen? t=false) (hlt:1 < w.heap.size):
  Calls Tryz.prog 49 #[.iface 99 (.agg #[.int .i64 c]),.iface 104 (.pointer (some t))] w fun ev w'=>ev=.returned (.bool true)/\∃ W,Ext w W/\w'=W.setCell t (.int .i64 c):=by
 have h6:=@run_callFunc_extern Tryz.prog 86 _ (fun args=>ReflectliteValue.unpack (args.getD 0 (.tuple #[]))) Tryz.func86 (by kernel_rfl) (by kernel_rfl) (by kernel_rfl) (by kernel_rfl)
 have h7 := @run_callFunc_extern Tryz.prog 87 _ (ReflectliteValue.methodAny (ReflectliteValue.valueError "reflectlite.Value.Type" 0) (fun t _ _ _ => ReflectliteType.toType t)) Tryz.func87 (by kernel_rfl) (by kernel_rfl) (by kernel_rfl) (by kernel_rfl)
 have h8 := @run_callFunc_extern Tryz.prog 88 _ (ReflectliteValue.method (ReflectliteValue.valueError "reflectlite.Value.IsNil" 0) ReflectliteValue.isNil) Tryz.func88 (by kernel_rfl) (by kernel_rfl) (by kernel_rfl) (by kernel_rfl)
 have h27:=@run_callFunc_extern Tryz.prog 669 _ (ReflectliteType.abiMethod fun t=>do pure (.int .u8 (<- Rtype.kind t))) Tryz.func669 (by kernel_rfl) (by kernel_rfl) (by kernel_rfl) (by kernel_rfl);have h37:=@run_callFunc_extern Tryz.prog 688 _ (ReflectliteType.method ReflectliteType.elem) Tryz.func688 (by kernel_rfl) (by kernel_rfl) (by kernel_rfl) (by kernel_rfl)
 have h38 := @run_callFunc_extern Tryz.prog 689 _ (ReflectliteType.relation "Implements" ReflectliteType.implements_) Tryz.func689 (by kernel_rfl) (by kernel_rfl) (by kernel_rfl) (by kernel_rfl)
 have h10:=@run_callFunc_extern Tryz.prog 134 _ ReflectliteType.typeOf Tryz.func134 (by kernel_rfl) (by kernel_rfl) (by kernel_rfl) (by kernel_rfl)
 have h35 := @run_callFunc_extern Tryz.prog 686 _ (ReflectliteType.relation "AssignableTo" ReflectliteType.assignableTo) Tryz.func686 (by kernel_rfl) (by kernel_rfl) (by kernel_rfl) (by kernel_rfl)
 have h11 := @run_callFunc_extern Tryz.prog 135 _ (ReflectliteValue.method (ReflectliteValue.valueError "reflectlite.Value.Elem" 0) ReflectliteValue.elem) Tryz.func135 (by kernel_rfl) (by kernel_rfl) (by kernel_rfl) (by kernel_rfl)
 have h12:=@run_callFunc_extern Tryz.prog 136 _ ReflectliteValue.set Tryz.func136 (by kernel_rfl) (by kernel_rfl) (by kernel_rfl) (by kernel_rfl);have tO:=as_typeOf;have mA:=as_mAssign;have a25:=as_assign;have v25:=as_valueF;have f6:=as_valueOf;have f7:=as_type;have mK:=as_mKind;have mE:=as_mElem;have mI:=as_mImpl;have k27:=as_kindP;have k25:=as_kindF;have e27:=as_elem;have i25:=as_impl;have n8:=as_isNil ⟨w.heap.size,0,none⟩ t ((w.alloc (.cells #[.pointer (some t)] 104)).alloc (.cells #[.pointer (some ⟨12,104,none⟩),.pointer (some ⟨w.heap.size,0,none⟩),.int .u64 150] 183)) (by simp);have hg2:((w.alloc (.cells #[.pointer (some t)] 104)).alloc (.cells #[.pointer (some ⟨12,104,none⟩),.pointer (some ⟨w.heap.size,0,none⟩),.int .u64 150] 183)).cell? ⟨1,0,none⟩=some (.iface 288 (.agg #[.pointer (some ⟨12,101,none⟩)])):=by
  rw [World.cell?_alloc_lt _ _ ⟨1,0,none⟩ (by simp;omega),World.cell?_alloc_lt _ _ ⟨1,0,none⟩ hlt];exact hg
 have htl:t.block < w.heap.size:=by
  rcases Nat.lt_or_ge t.block w.heap.size with h | h
  ·exact h
  ·simp [World.cell?,Array.getElem?_eq_none h] at ht0
 have el:=as_elemV ⟨w.heap.size,0,none⟩ t (((w.alloc (.cells #[.pointer (some t)] 104)).alloc (.cells #[.pointer (some ⟨12,104,none⟩),.pointer (some ⟨w.heap.size,0,none⟩),.int .u64 150] 183)).alloc (.cells #[.pointer (some ⟨12,104,none⟩),.pointer (some ⟨w.heap.size,0,none⟩),.int .u64 150] 183)) (by rw [World.cell?_alloc_lt _ _ ⟨w.heap.size,0,none⟩ (by simp;omega)];simp);have st:=as_set t (w.heap.size+1+1+1) c old (0,0) ((((w.alloc (.cells #[.pointer (some t)] 104)).alloc (.cells #[.pointer (some ⟨12,104,none⟩),.pointer (some ⟨w.heap.size,0,none⟩),.int .u64 150] 183)).alloc (.cells #[.pointer (some ⟨12,104,none⟩),.pointer (some ⟨w.heap.size,0,none⟩),.int .u64 150] 183)).alloc (.cells #[.int .i64 c] 99))
  (by have:=heap_alloc_new (((w.alloc (.cells #[.pointer (some t)] 104)).alloc (.cells #[.pointer (some ⟨12,104,none⟩),.pointer (some ⟨w.heap.size,0,none⟩),.int .u64 150] 183)).alloc (.cells #[.pointer (some ⟨12,104,none⟩),.pointer (some ⟨w.heap.size,0,none⟩),.int .u64 150] 183)) (.cells #[.int .i64 c] 99);simpa using this)
  (by rw [World.cell?_alloc_lt _ _ t (by simp;omega),World.cell?_alloc_lt _ _ t (by simp;omega),World.cell?_alloc_lt _ _ t (by simp;omega),World.cell?_alloc_lt _ _ t htl];exact ht0)
  (by rw [World.frozen?_alloc_old _ _ t (by simp;omega),World.frozen?_alloc_old _ _ t (by simp;omega),World.frozen?_alloc_old _ _ t (by simp;omega),World.frozen?_alloc_old _ _ t (Nat.ne_of_lt htl)];exact hf0)
 have hx4:=((((Mod.refl (fun _=>False) w).alloc (.cells #[.pointer (some t)] 104)).alloc (.cells #[.pointer (some ⟨12,104,none⟩),.pointer (some ⟨w.heap.size,0,none⟩),.int .u64 150] 183)).alloc (.cells #[.pointer (some ⟨12,104,none⟩),.pointer (some ⟨w.heap.size,0,none⟩),.int .u64 150] 183)).alloc (.cells #[.int .i64 c] 99);replace hx4:=hid hx4;go_enter Tryz.func49,Tryz.ntmps49;go_wp2;refine wp_loop_rounds 1 ?_;rw [rounds_succ];go_wp2;go_ret;exact ⟨rfl,_,hx4.out,rfl⟩
end Go.Proofs.YtcopgcdhkgenkaaGreatDoor
