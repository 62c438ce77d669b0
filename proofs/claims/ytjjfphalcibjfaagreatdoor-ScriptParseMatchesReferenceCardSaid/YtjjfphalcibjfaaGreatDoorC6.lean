import Derived.Test.YtjjfphalcibjfaaGreatDoorC4
import Derived.Test.YtjjfphalcibjfaaGreatDoorC0
set_option maxRecDepth 100000
set_option maxHeartbeats 16000000
namespace Go.Proofs.YtjjfphalcibjfaaGreatDoor
open Go.Shelf Go.RowKit Cdk Scr
theorem zoZ (a0 a1 a2 a3 a4 a5:Value) (W:World):(Instr.index 156 (.agg #[a0,a1,a2,a3,a4,a5]) (.int .i64 0)).run Tryz.prog W=.ok a0 W:=by kernel_rfl
theorem zo3 (a0 a1 a2 a3 a4 a5:Value) (W:World):(Instr.index 156 (.agg #[a0,a1,a2,a3,a4,a5]) (.int .i64 1)).run Tryz.prog W=.ok a1 W:=by kernel_rfl
theorem zow (a0 a1 a2 a3 a4 a5:Value) (W:World):(Instr.index 156 (.agg #[a0,a1,a2,a3,a4,a5]) (.int .i64 2)).run Tryz.prog W=.ok a2 W:=by kernel_rfl
theorem zoC (a0 a1 a2 a3 a4 a5:Value) (W:World):(Instr.index 156 (.agg #[a0,a1,a2,a3,a4,a5]) (.int .i64 3)).run Tryz.prog W=.ok a3 W:=by kernel_rfl
theorem zo9 (a0 a1 a2 a3 a4 a5:Value) (W:World):(Instr.index 156 (.agg #[a0,a1,a2,a3,a4,a5]) (.int .i64 4)).run Tryz.prog W=.ok a4 W:=by kernel_rfl
theorem zo1 (a0 a1 a2 a3 a4 a5:Value) (W:World):(Instr.index 156 (.agg #[a0,a1,a2,a3,a4,a5]) (.int .i64 5)).run Tryz.prog W=.ok a5 W:=by kernel_rfl
theorem zg3 (m:Ms) (w:World) (hG:Gl w) (hv:vMs m=true):Calls Tryz.prog 149 #[.agg (msC m).toArray] w fun e w'=>e=.returned (.tuple #[.string ⟨(zf1 m).toArray⟩,.int .i64 0])/\Ext w w':=by
 obtain ⟨tz,htz⟩:∃ tz,tz=zf1 m:=⟨_,rfl⟩;rw [<- htz];have hgood:=zdh hv;have hvl:=Y (fun W=>zc2 m W);rw [hv] at hvl;replace htz:tz=zbc (crc (zbW m))++zbW m:=by rw [htz,zf1,if_pos hv]
 obtain ⟨L,hL⟩:∃ L,L=[m.kd,m.pa,m.sq,m.st,m.ba,m.ve]:=⟨_,rfl⟩;have hr:∀ x ∈ L,-4611686018427387903<=x/\x<=4611686018427387903:=by
  rw [hL];intro x hx;obtain ⟨g1,g2,g3,g4,g5,g6,g7⟩:=hgood;simp at hx;omega
 have hda:m.da.length<=16384:=hgood.da;obtain ⟨bz,hbz⟩:∃ bz,bz=zbW m:=⟨_,rfl⟩;have hbz2:bz=zaB L++zeQ m.da:=by rw [hbz,hL];rfl
 rw [<- hbz] at htz;have hblen:bz.length<=20000:=by
  rw [hbz2];have h1:=zaH L;have h2:=zb3 m.da;have h3:L.length=6:=by rw [hL];rfl
  simp only [List.length_append];omega
 clear hgood hbz;obtain ⟨kd,pa,sq,st,ba,ve,da⟩:=m;simp only at hL hda hbz2;unfold msC zb0 at hvl ⊢;simp only at hvl ⊢;have hx0:=Mod.alloc (Mod.refl (fun _=>False) w) (.cells #[.int .i64 kd,.int .i64 pa,.int .i64 sq,.int .i64 st,.int .i64 ba,.int .i64 ve,.string ⟨da.toArray⟩] 30);have hT:=heap_alloc_new w (.cells #[.int .i64 kd,.int .i64 pa,.int .i64 sq,.int .i64 st,.int .i64 ba,.int .i64 ve,.string ⟨da.toArray⟩] 30);replace htz:=Y htz;replace hr:=Y hr;replace hL:=Y hL;replace hbz2:=Y hbz2;replace hblen:=Y hblen;replace hda:=Y hda;replace hx0:=Y hx0;replace hT:=Y hT;replace hG:=Y hG;go_enter Tryz.func149,Tryz.ntmps149;go_wp2_with fail
 refine (hvl.o _).mono ?_;rintro e w1 ⟨rfl,hx1⟩;have hT1:=hx1.at hT.o id;have hx2:=hx0.o.trans hx1;clear hx0 hx1 hT hvl;generalize w.heap.size=T at hT1 ⊢;have f0:=cS hT1 0;have f1:=cS hT1 1;have f2:=cS hT1 2;have f3:=cS hT1 3;have f4:=cS hT1 4;have f5:=cS hT1 5;have f6:=cS hT1 6;replace hx2:=Y hx2;go_wp2_with fail
 go_loopg [4,29] 6 (fun g body i wr=>∃ (j:Nat) (ty:Bs),j+g=6/\i=.int .i64 j/\body=.string ⟨ty.toArray⟩/\Ext w1 wr/\zaB L=ty++zaB (L.drop j)/\ty.length<=10*j)
 case atStart=>exact ⟨0,[],by omega,rfl,rfl,Mod.refl _ _,rfl,by simp⟩
 case round=>
  clear f0 f1 f2 f3 f4 f5 f6;obtain ⟨j,ty,hj,rfl,rfl,hx,ht,hlen⟩:=hrel;have hj6:j=0 \/ j=1 \/ j=2 \/ j=3 \/ j=4 \/ j=5 \/ j=6:=by omega
  replace hx:=Y hx;rcases hj6 with rfl | rfl | rfl | rfl | rfl | rfl | rfl
  ·have e1:L.drop 0=kd::L.drop 1:=by rw [hL.o];rfl
   have hxr:=hr.o kd (by rw [hL.o];simp);have hpi:=Y (zbr kd hxr.1 hxr.2);have h10:=zay kd;have ht2:zaB L=(ty++zbc kd)++zaB (L.drop 1):=by rw [ht,e1];simp [zaB]
   generalize zbc kd=ci at*;have hsum:(⟨ty.toArray⟩:ByteArray).size+(⟨ci.toArray⟩:ByteArray).size<=1000000:=by simp only [za6];omega
   have hcat:=zbl ty ci;replace ht2:=Y ht2;replace hlen:=Y hlen;replace h10:=Y h10;replace hj:=Y hj;clear ht e1 hxr;have hix:=zoZ (.int .i64 kd) (.int .i64 pa) (.int .i64 sq) (.int .i64 st) (.int .i64 ba) (.int .i64 ve) wr;go_wp2_with fail
   refine (hpi.o _).mono ?_;rintro e w2 ⟨rfl,hx3⟩;have hx3:=Y (hx.o.trans hx3);go_wp2_with fail
   go_roundg 5
   case measure=>have:=hj.o;omega
   case rel=>exact ⟨1,ty++ci,by omega,rfl,by simp,hx3.o,ht2.o,by have:=hlen.o;have:=h10.o;simp only [List.length_append];omega⟩
  ·have e1:L.drop 1=pa::L.drop 2:=by rw [hL.o];rfl
   have hxr:=hr.o pa (by rw [hL.o];simp);have hpi:=Y (zbr pa hxr.1 hxr.2);have h10:=zay pa;have ht2:zaB L=(ty++zbc pa)++zaB (L.drop 2):=by rw [ht,e1];simp [zaB]
   generalize zbc pa=ci at*;have hsum:(⟨ty.toArray⟩:ByteArray).size+(⟨ci.toArray⟩:ByteArray).size<=1000000:=by simp only [za6];omega
   have hcat:=zbl ty ci;replace ht2:=Y ht2;replace hlen:=Y hlen;replace h10:=Y h10;replace hj:=Y hj;clear ht e1 hxr;have hix:=zo3 (.int .i64 kd) (.int .i64 pa) (.int .i64 sq) (.int .i64 st) (.int .i64 ba) (.int .i64 ve) wr;go_wp2_with fail
   refine (hpi.o _).mono ?_;rintro e w2 ⟨rfl,hx3⟩;have hx3:=Y (hx.o.trans hx3);go_wp2_with fail
   go_roundg 4
   case measure=>have:=hj.o;omega
   case rel=>exact ⟨2,ty++ci,by omega,rfl,by simp,hx3.o,ht2.o,by have:=hlen.o;have:=h10.o;simp only [List.length_append];omega⟩
  ·have e1:L.drop 2=sq::L.drop 3:=by rw [hL.o];rfl
   have hxr:=hr.o sq (by rw [hL.o];simp);have hpi:=Y (zbr sq hxr.1 hxr.2);have h10:=zay sq;have ht2:zaB L=(ty++zbc sq)++zaB (L.drop 3):=by rw [ht,e1];simp [zaB]
   generalize zbc sq=ci at*;have hsum:(⟨ty.toArray⟩:ByteArray).size+(⟨ci.toArray⟩:ByteArray).size<=1000000:=by simp only [za6];omega
   have hcat:=zbl ty ci;replace ht2:=Y ht2;replace hlen:=Y hlen;replace h10:=Y h10;replace hj:=Y hj;clear ht e1 hxr;have hix:=zow (.int .i64 kd) (.int .i64 pa) (.int .i64 sq) (.int .i64 st) (.int .i64 ba) (.int .i64 ve) wr;go_wp2_with fail
   refine (hpi.o _).mono ?_;rintro e w2 ⟨rfl,hx3⟩;have hx3:=Y (hx.o.trans hx3);go_wp2_with fail
   go_roundg 3
   case measure=>have:=hj.o;omega
   case rel=>exact ⟨3,ty++ci,by omega,rfl,by simp,hx3.o,ht2.o,by have:=hlen.o;have:=h10.o;simp only [List.length_append];omega⟩
  ·have e1:L.drop 3=st::L.drop 4:=by rw [hL.o];rfl
   have hxr:=hr.o st (by rw [hL.o];simp);have hpi:=Y (zbr st hxr.1 hxr.2);have h10:=zay st;have ht2:zaB L=(ty++zbc st)++zaB (L.drop 4):=by rw [ht,e1];simp [zaB]
   generalize zbc st=ci at*;have hsum:(⟨ty.toArray⟩:ByteArray).size+(⟨ci.toArray⟩:ByteArray).size<=1000000:=by simp only [za6];omega
   have hcat:=zbl ty ci;replace ht2:=Y ht2;replace hlen:=Y hlen;replace h10:=Y h10;replace hj:=Y hj;clear ht e1 hxr;have hix:=zoC (.int .i64 kd) (.int .i64 pa) (.int .i64 sq) (.int .i64 st) (.int .i64 ba) (.int .i64 ve) wr;go_wp2_with fail
   refine (hpi.o _).mono ?_;rintro e w2 ⟨rfl,hx3⟩;have hx3:=Y (hx.o.trans hx3);go_wp2_with fail
   go_roundg 2
   case measure=>have:=hj.o;omega
   case rel=>exact ⟨4,ty++ci,by omega,rfl,by simp,hx3.o,ht2.o,by have:=hlen.o;have:=h10.o;simp only [List.length_append];omega⟩
  ·have e1:L.drop 4=ba::L.drop 5:=by rw [hL.o];rfl
   have hxr:=hr.o ba (by rw [hL.o];simp);have hpi:=Y (zbr ba hxr.1 hxr.2);have h10:=zay ba;have ht2:zaB L=(ty++zbc ba)++zaB (L.drop 5):=by rw [ht,e1];simp [zaB]
   generalize zbc ba=ci at*;have hsum:(⟨ty.toArray⟩:ByteArray).size+(⟨ci.toArray⟩:ByteArray).size<=1000000:=by simp only [za6];omega
   have hcat:=zbl ty ci;replace ht2:=Y ht2;replace hlen:=Y hlen;replace h10:=Y h10;replace hj:=Y hj;clear ht e1 hxr;have hix:=zo9 (.int .i64 kd) (.int .i64 pa) (.int .i64 sq) (.int .i64 st) (.int .i64 ba) (.int .i64 ve) wr;go_wp2_with fail
   refine (hpi.o _).mono ?_;rintro e w2 ⟨rfl,hx3⟩;have hx3:=Y (hx.o.trans hx3);go_wp2_with fail
   go_roundg 1
   case measure=>have:=hj.o;omega
   case rel=>exact ⟨5,ty++ci,by omega,rfl,by simp,hx3.o,ht2.o,by have:=hlen.o;have:=h10.o;simp only [List.length_append];omega⟩
  ·have e1:L.drop 5=ve::L.drop 6:=by rw [hL.o];rfl
   have hxr:=hr.o ve (by rw [hL.o];simp);have hpi:=Y (zbr ve hxr.1 hxr.2);have h10:=zay ve;have ht2:zaB L=(ty++zbc ve)++zaB (L.drop 6):=by rw [ht,e1];simp [zaB]
   generalize zbc ve=ci at*;have hsum:(⟨ty.toArray⟩:ByteArray).size+(⟨ci.toArray⟩:ByteArray).size<=1000000:=by simp only [za6];omega
   have hcat:=zbl ty ci;replace ht2:=Y ht2;replace hlen:=Y hlen;replace h10:=Y h10;replace hj:=Y hj;clear ht e1 hxr;have hix:=zo1 (.int .i64 kd) (.int .i64 pa) (.int .i64 sq) (.int .i64 st) (.int .i64 ba) (.int .i64 ve) wr;go_wp2_with fail
   refine (hpi.o _).mono ?_;rintro e w2 ⟨rfl,hx3⟩;have hx3:=Y (hx.o.trans hx3);go_wp2_with fail
   go_roundg 0
   case measure=>have:=hj.o;omega
   case rel=>exact ⟨6,ty++ci,by omega,rfl,by simp,hx3.o,ht2.o,by have:=hlen.o;have:=h10.o;simp only [List.length_append];omega⟩
  ·rw [List.drop_eq_nil_of_le (by rw [hL.o];simp)] at ht
   have hTr:=hx.o.at hT1 id;have f6:=cS hTr 6;have hps:=Y (zdO da (by have:=hda.o;omega));have hbz3:bz=ty++zeQ da:=by rw [hbz2.o,ht];simp [zaB]
   have hsm:=Y (fun W (hW:Gl W)=>sum_any bz W hW (by have:=hblen.o;omega));have hcr:=ziT bz;have hpi:=Y (zbr (crc bz) (by omega) (by omega));have h10:=zay (crc bz);have hsum1:(⟨ty.toArray⟩:ByteArray).size+(⟨(zeQ da).toArray⟩:ByteArray).size<=1000000:=by
    have:=hblen.o;rw [hbz3] at this;simp only [za6,List.length_append] at this ⊢;omega
   have hsum2:(⟨(zbc (crc bz)).toArray⟩:ByteArray).size+(⟨bz.toArray⟩:ByteArray).size<=1000000:=by
    have:=hblen.o;simp only [za6];omega
   have hcat:(⟨ty.toArray⟩:ByteArray)++⟨(zeQ da).toArray⟩=⟨bz.toArray⟩:=by rw [zbl,<- hbz3]
   generalize crc bz=cr at*;generalize zbc cr=ci at*;generalize zeQ da=sd at*;replace ht:=Y ht;replace hbz3:=Y hbz3;replace hlen:=Y hlen;replace h10:=Y h10;clear hcr;go_wp2_with fail
   refine (hps.o _).mono ?_;rintro e w2 ⟨rfl,hx3⟩;go_wp2_with fail
   refine (hsm.o _ (hG.o.ext ((hx2.o.trans hx.o).trans hx3))).mono ?_;rintro e w3 ⟨rfl,rfl⟩;go_wp2_with fail
   refine (hpi.o _).mono ?_;rintro e w4 ⟨rfl,hx4⟩;go_wp2_with fail
   go_ret2
   refine ⟨?_,((hx2.o.trans hx.o).trans hx3).trans hx4⟩;rw [htz.o,<- zbl]
   rfl
end Go.Proofs.YtjjfphalcibjfaaGreatDoor
namespace Cdk
open Go Go.RowKit
theorem zfo {α:Type} {P:Program} (f:α -> List Value) {base:Nat} {e:TypeId} {z:Value} {size bytes:Nat} {w:World} {ops:Array Oper} {rest:List Oper} {o:Oper} {a:Act} {Q:Exit -> Act -> World -> Prop} (hg:o.guard=none) (l c:Operand) (t:TypeId)
  (ho:o.op=Op.makeSlice t l c) (ht:P.underlying t=some (.slice e)) (el:El P e z size bytes) (n:Nat) (hl:a.eval l=.int .i64 0) (C:Int) (hc:a.eval c=.int .i64 C) (hC:C=(n:Int)) (hn:n<=137438953472) (hbase:base<=w.heap.size)
  (hK:∀ v w',Hid (Cdk.Own w' base e size f v ([]:List α)/\Ext w w') -> wpList P ops Q rest (a.put o.dst v) w'):wpList P ops Q (o::rest) a w:=by
 obtain ⟨i0,hi,hz0,hz1,hz2⟩:=info_parts el.row;refine wpList_make_own w hg l c t ho base e i0 z size ht hi hz0 hz1 .i64 .i64 C n hl hc hC ?_ ?_ hbase (fun w' h1 h2=>hK _ w' ⟨h1,Mod.ofGrown h2 (fun k hk=>by cases hk)⟩)
 ·rw [hz2]
  have:=el.small;exact Nat.le_trans (Nat.mul_le_mul this hn) (by decide)
 ·exact Nat.le_trans hn (by decide)
theorem zbi {α:Type} {f:α -> List Value} {e:TypeId} {size B:Nat} {w w2 w3:World} {v:Value} {xs:List α} (hx:Ext w w2) (h:Cdk.Own w2 B e size f v xs) (hB:w.heap.size<=B) (hm:Mod (fun k=>v.ownBlock=some k) w2 w3):Ext w w3:=
 ⟨hm.os.trans hx.os,hm.tape.trans hx.tape,hm.output.trans hx.output,Nat.le_trans hx.size hm.size,fun k hk hs=>(hm.block k (Nat.lt_of_lt_of_le hk hx.size) (fun e=>by have:=(h.block k e).1;omega)).trans (hx.block k hk hs)⟩
theorem zhh {α:Type} {f:α -> List Value} {e:TypeId} {size B:Nat} {w:World} {ao:Option Addr} {n cap:Nat} {xs:List α} (h:Cdk.Own w B e size f (.slice ao n cap) xs):n=xs.length/\n<=cap/\cap<=9223372036854775807/\(ao=none -> cap=0):=by
 rcases h.2 with ⟨hv,h0⟩ | ⟨g,c,cur,hv,h2,h3,h4,h5,h6⟩
 ·injection hv with e1 e2 e3
  subst e1 e2 e3;exact ⟨h0.symm,by omega,by omega,fun _=>rfl⟩
 ·injection hv with e1 e2 e3
  subst e1 e2 e3;exact ⟨rfl,h4,h5,fun e=>nomatch e⟩
end Cdk
namespace Go.Proofs.YtjjfphalcibjfaaGreatDoor
open Go.Shelf Go.RowKit Cdk Scr
theorem el9:El Tryz.prog 9 (.string .empty) 1 16:=⟨by kernel_rfl,rfl,by decide,by decide⟩
theorem zbk {w:World} {B:Nat} {v:Value} {l:List Bs} (h:Cdk.Own w B 9 1 zdz v l) (hl:l.length<=140737488355328):zbC (fun k=>B<=k/\k < w.heap.size) w v l:=by
 obtain ⟨ao,cap,rfl,h1,h2⟩:=h.row;obtain ⟨-,h3,h4,h5⟩:=zhh h;exact ⟨ao,cap,rfl,h1,fun b off e _=>h.block b (h2 b off e),h3,⟨hl,h4⟩,h5⟩
theorem zlr (s:Bs) (w:World):Calls Tryz.prog 180 #[.string ⟨s.toArray⟩] w fun e w'=>e=.returned (.string ⟨s.toArray⟩)/\Ext w w':=by
 go_enter Tryz.func180,Tryz.ntmps180;go_wp2_with fail
 go_ret;exact ⟨rfl,Mod.refl _ _⟩
theorem zbF (v:Value) (l:List Int) (hl:∀ x ∈ l,I64 x) (w:World) (hG:Gl w) (h:zac (fun k=>k < w.heap.size) w zcZ v l) (hn0:l.length<=1000) (hlen:(join 44 (l.map itoa)).length<=1000000):
  Calls Tryz.prog 137 #[v,.func (.func 107) #[] #[]] w fun e w'=>e=.returned (.string ⟨(listW (l.map itoa)).toArray⟩)/\Ext w w':=by
 obtain ⟨tz,htz⟩:∃ tz,tz=listW (l.map itoa):=⟨_,rfl⟩;rw [<- htz];obtain ⟨ao,cap,rfl⟩:=h.slice;obtain ⟨n,hn⟩:∃ n,n=l.length:=⟨_,rfl⟩;rw [<- hn] at h hn0 ⊢;have hce:=enters_of Tryz.func107 (by kernel_rfl) rfl;replace hlen:=Y hlen;replace hG:=Y hG;replace hl:=Y hl
 by_cases h0:n=0
 ·have hl:l=[]:=List.eq_nil_of_length_eq_zero (by omega)
  subst h0;replace htz:=Y (show tz=[42] by rw [htz,hl];rfl);clear hn;go_enter Tryz.func137,Tryz.ntmps137;go_wp2_with fail
  go_ret;exact ⟨by rw [htz.o];rfl,Mod.refl _ _⟩
 ·have hl:l ≠ []:=by intro e;subst e;simp at hn;omega
  replace htz:tz=join 44 (l.map itoa):=by rw [htz,listW,if_neg (by simpa using hl)]
  have hn1:((n:Int)==0)=false:=by rw [beq_eq_false_iff_ne];omega
  have hni:¬ (n:Int)=0:=by omega
  replace hn:=Y hn;replace h:=Y h;replace htz:=Y htz;clear hl;go_enter Tryz.func137,Tryz.ntmps137;go_wp2_with (at_make;refine zfo zdz rfl _ _ _ rfl Tryz.underlying22 el9 n rfl _ rfl rfl (by omega) (base:=w.heap.size) (Nat.le_refl _) (fun v1 w1 H1=>?_))
  obtain ⟨hO1,hx1⟩:=H1.o;obtain ⟨ao1,cap1,rfl,-⟩:=hO1.row;clear H1;replace hO1:=Y hO1;replace hx1:=Y hx1;simp only [List.length_nil];go_wp2_with fail
  go_loopg [5,16] n (fun g s i wr=>∃ (j:Nat) (av:Option Addr) (cv:Nat),j+g=n/\i=.int .i64 j/\s=.slice av j cv/\Cdk.Own wr w.heap.size 9 1 zdz (.slice av j cv) ((l.map itoa).take j)/\Ext w wr)
  case atStart=>exact ⟨0,ao1,cap1,by omega,rfl,rfl,hO1.o,hx1.o⟩
  case round=>
   clear hO1 hx1;obtain ⟨j,av,cv,hj,rfl,rfl,hO,hx⟩:=hrel;replace hj:=Y hj
   by_cases hlt:j < n
   ·have hdi:(j:Int) < (n:Int):=by omega
    have hd:decide ((j:Int) < (n:Int))=true:=decide_eq_true hdi;have hjl:j < l.length:=by have:=hn.o;omega
    obtain ⟨b',off,rfl,c0⟩:=zbG (h.o.ext hx) hjl;have htk:(l.map itoa).take (j+1)=(l.map itoa).take j++[itoa l[j]]:=by
     rw [List.take_succ_eq_append_getElem (by rw [List.length_map];omega)];rw [List.getElem_map]
    have hcl:=Y (fun W (hX:Ext w W)=>zaw l[j] (hl.o _ (List.getElem_mem _)) W (hG.o.ext hX));generalize l[j]=x at c0 hcl htk;generalize itoa x=tx at hcl htk;replace hO:=Y hO;replace hx:=Y hx;replace htk:=Y htk;go_wp2_with fail
    refine (hcl.o _ hx.o).mono ?_;rintro e w2 ⟨rfl,hx2⟩;have hO2:=Y (hO.o.ext hx2);have hx2:=Y (hx.o.trans hx2);clear hcl hO hx;have hsz:w.heap.size<=w2.heap.size:=hx2.o.size;have hlt2:((l.map itoa).take j).length<=1000:=by rw [List.length_take,List.length_map];omega
    replace hlt2:=Y hlt2;go_wp2_with (at_builtin;refine zaI rfl _ _ _ rfl Tryz.underlying22 el9 rfl (hO2.o.ext ((Mod.refl _ _).alloc _)) _ 1 1 rfl [tx] rfl (by exact zaJ.new _ _ _) zaC (fun y hy u hu=>by simp only [List.mem_singleton] at hy;subst hy;simp [zdz] at hu;subst hu;rfl) (by have:=hlt2.o;simp only [List.length_singleton];omega) (by rw [World.size_alloc];omega) (fun e=>nomatch e) (fun v6 w6 H6=>?_);skip)
    obtain ⟨hO6,hm6⟩:=H6.o;have hx6:=Y (zbi (hx2.o.trans ((Mod.refl _ w2).alloc _)) (hO2.o.ext ((Mod.refl _ w2).alloc _)) (Nat.le_refl _) hm6);rw [<- htk.o] at hO6;obtain ⟨av6,cv6,rfl,-⟩:=hO6.row;have e6:((l.map itoa).take (j+1)).length=j+1:=by rw [List.length_take,List.length_map];omega
    rw [e6] at hO6 ⊢;clear H6 hm6 e6;replace hO6:=Y hO6;go_wp2_with fail
    go_roundg (gk - 1)
    case measure=>have:=hj.o;omega
    case rel=>exact ⟨j+1,av6,cv6,by have:=hj.o;omega,by go_num,rfl,hO6.o,hx6.o⟩
   ·obtain rfl:j=n:=by have:=hj.o;omega
    have hdi:¬ (j:Int) < (j:Int):=by omega
    have hd:decide ((j:Int) < (j:Int))=false:=decide_eq_false hdi;rw [List.take_of_length_le (by have:=hn.o;rw [List.length_map];omega)] at hO;have hrow:=zbk hO (by have:=hn.o;rw [List.length_map];omega);have hjn:=Y (zci (.slice av j cv) _ 44 wr hrow (by have:=hlen.o;omega));replace hx:=Y hx;clear hO hrow;go_wp2_with fail
    refine hjn.o.mono ?_;rintro e w2 ⟨rfl,hx2⟩;have hx2:=Y (hx.o.trans hx2);go_wp2_with fail
    go_ret;exact ⟨by rw [htz.o];rfl,hx2.o⟩
theorem zhV (v:Value) (l:List Bs) (w:World) (h:zac (fun k=>k < w.heap.size) w zdz v l) (hn0:l.length<=1000) (hlen:(join 44 (l)).length<=1000000):
  Calls Tryz.prog 179 #[v,.func (.func 180) #[] #[]] w fun e w'=>e=.returned (.string ⟨(listW (l)).toArray⟩)/\Ext w w':=by
 obtain ⟨tz,htz⟩:∃ tz,tz=listW (l):=⟨_,rfl⟩;rw [<- htz];obtain ⟨ao,cap,rfl⟩:=h.slice;obtain ⟨n,hn⟩:∃ n,n=l.length:=⟨_,rfl⟩;rw [<- hn] at h hn0 ⊢;have hce:=enters_of Tryz.func180 (by kernel_rfl) rfl;replace hlen:=Y hlen
 by_cases h0:n=0
 ·have hl:l=[]:=List.eq_nil_of_length_eq_zero (by omega)
  subst h0;replace htz:=Y (show tz=[42] by rw [htz,hl];rfl);clear hn;go_enter Tryz.func179,Tryz.ntmps179;go_wp2_with fail
  go_ret;exact ⟨by rw [htz.o];rfl,Mod.refl _ _⟩
 ·have hl:l ≠ []:=by intro e;subst e;simp at hn;omega
  replace htz:tz=join 44 (l):=by rw [htz,listW,if_neg (by simpa using hl)]
  have hn1:((n:Int)==0)=false:=by rw [beq_eq_false_iff_ne];omega
  have hni:¬ (n:Int)=0:=by omega
  replace hn:=Y hn;replace h:=Y h;replace htz:=Y htz;clear hl;go_enter Tryz.func179,Tryz.ntmps179;go_wp2_with (at_make;refine zfo zdz rfl _ _ _ rfl Tryz.underlying22 el9 n rfl _ rfl rfl (by omega) (base:=w.heap.size) (Nat.le_refl _) (fun v1 w1 H1=>?_))
  obtain ⟨hO1,hx1⟩:=H1.o;obtain ⟨ao1,cap1,rfl,-⟩:=hO1.row;clear H1;replace hO1:=Y hO1;replace hx1:=Y hx1;simp only [List.length_nil];go_wp2_with fail
  go_loopg [5,16] n (fun g s i wr=>∃ (j:Nat) (av:Option Addr) (cv:Nat),j+g=n/\i=.int .i64 j/\s=.slice av j cv/\Cdk.Own wr w.heap.size 9 1 zdz (.slice av j cv) ((l).take j)/\Ext w wr)
  case atStart=>exact ⟨0,ao1,cap1,by omega,rfl,rfl,hO1.o,hx1.o⟩
  case round=>
   clear hO1 hx1;obtain ⟨j,av,cv,hj,rfl,rfl,hO,hx⟩:=hrel;replace hj:=Y hj
   by_cases hlt:j < n
   ·have hdi:(j:Int) < (n:Int):=by omega
    have hd:decide ((j:Int) < (n:Int))=true:=decide_eq_true hdi;have hjl:j < l.length:=by have:=hn.o;omega
    obtain ⟨b',off,rfl,c0⟩:=zcR (h.o.ext hx) hjl;have htk:(l).take (j+1)=(l).take j++[l[j]]:=by
     rw [List.take_succ_eq_append_getElem (by omega)]
     skip
    have hcl:=Y (fun W (_:Ext w W)=>zlr l[j] W);generalize l[j]=tx at c0 hcl htk
    skip
    replace hO:=Y hO;replace hx:=Y hx;replace htk:=Y htk;go_wp2_with fail
    refine (hcl.o _ hx.o).mono ?_;rintro e w2 ⟨rfl,hx2⟩;have hO2:=Y (hO.o.ext hx2);have hx2:=Y (hx.o.trans hx2);clear hcl hO hx;have hsz:w.heap.size<=w2.heap.size:=hx2.o.size;have hlt2:((l).take j).length<=1000:=by rw [List.length_take];omega
    replace hlt2:=Y hlt2;go_wp2_with (at_builtin;refine zaI rfl _ _ _ rfl Tryz.underlying22 el9 rfl (hO2.o.ext ((Mod.refl _ _).alloc _)) _ 1 1 rfl [tx] rfl (by exact zaJ.new _ _ _) zaC (fun y hy u hu=>by simp only [List.mem_singleton] at hy;subst hy;simp [zdz] at hu;subst hu;rfl) (by have:=hlt2.o;simp only [List.length_singleton];omega) (by rw [World.size_alloc];omega) (fun e=>nomatch e) (fun v6 w6 H6=>?_);skip)
    obtain ⟨hO6,hm6⟩:=H6.o;have hx6:=Y (zbi (hx2.o.trans ((Mod.refl _ w2).alloc _)) (hO2.o.ext ((Mod.refl _ w2).alloc _)) (Nat.le_refl _) hm6);rw [<- htk.o] at hO6;obtain ⟨av6,cv6,rfl,-⟩:=hO6.row;have e6:((l).take (j+1)).length=j+1:=by rw [List.length_take];omega
    rw [e6] at hO6 ⊢;clear H6 hm6 e6;replace hO6:=Y hO6;go_wp2_with fail
    go_roundg (gk - 1)
    case measure=>have:=hj.o;omega
    case rel=>exact ⟨j+1,av6,cv6,by have:=hj.o;omega,by go_num,rfl,hO6.o,hx6.o⟩
   ·obtain rfl:j=n:=by have:=hj.o;omega
    have hdi:¬ (j:Int) < (j:Int):=by omega
    have hd:decide ((j:Int) < (j:Int))=false:=decide_eq_false hdi;rw [List.take_of_length_le (by have:=hn.o;omega)] at hO;have hrow:=zbk hO (by have:=hn.o;omega);have hjn:=Y (zci (.slice av j cv) _ 44 wr hrow (by have:=hlen.o;omega));replace hx:=Y hx;clear hO hrow;go_wp2_with fail
    refine hjn.o.mono ?_;rintro e w2 ⟨rfl,hx2⟩;have hx2:=Y (hx.o.trans hx2);go_wp2_with fail
    go_ret;exact ⟨by rw [htz.o];rfl,hx2.o⟩
end Go.Proofs.YtjjfphalcibjfaaGreatDoor
