import Derived.Test.YtjjfphalcibjfaaGreatDoorA13
import Derived.Test.YtjjfphalcibjfaaGreatDoorWhole
import Derived.Deep.Slices
import Derived.ProofKit
import Derived.Test.YtjjfphalcibjfaaGreatDoorMaps
import Derived.Test.YtjjfphalcibjfaaGreatDoorCards
import Derived.Test.YtjjfphalcibjfaaGreatDoorTie
import Derived.OpenShut
import Derived.LaidMore
import Derived.Lay
import Derived.Stop.LaidErr
import Derived.Test.YtjjfphalcibjfaaGreatDoorB6
set_option maxRecDepth 100000
set_option maxHeartbeats 16000000
namespace Go.Proofs.YtjjfphalcibjfaaGreatDoor
open Go.ChangeShapes Go.WideShapes Go.ChangeAt Go.RowKit Cdk Scr
def Wl {H:Type} (t:TypeId) (d:DataW H):Prop:=∀ n ∈ d.weights Tryz.prog t,n<=140737488351232
theorem Wl.part {H:Type} {t:TypeId} {fs:Array Field} {ds:List (DataW H)} {j:Nat} {f:Field} {y:DataW H} (hu:Tryz.prog.underlying t=some (.struct fs)) (h:Wl t (.agg ds)) (hf:fs[j]?=some f) (hy:ds[j]?=some y):Wl f.type y:=fun n hn=>h n (by
 simp only [DataW.weights,hu]
 exact DataW.weights_mem_each (j:=j) (by rw [List.getElem?_map,Array.getElem?_toList,hf];rfl) hy n hn)
theorem Wl.mem {H:Type} {e:TypeId} {n:Nat}:∀ {l:List (DataW H)} {d:DataW H},d ∈ l -> n ∈ d.weights Tryz.prog e -> n ∈ DataW.weightsAll Tryz.prog e l
 | x::r,d,h,hn=>by
  simp only [DataW.weightsAll,List.mem_append];rcases List.mem_cons.1 h with rfl | h
  ·exact Or.inl hn
  ·exact Or.inr (Wl.mem h hn)
theorem Wl.slice {H:Type} {t e:TypeId} {len m:Nat} {D:Nat -> DataW H} (hu:Tryz.prog.underlying t=some (.slice e)) (h:Wl t (.slice ((List.range len).map D) ((List.range m).map fun j=>D (len+j)))):(len+m)*Tryz.prog.bytesOf e<=140737488351232/\∀ i,i < len -> Wl e (D i):=by
 constructor
 ·have:=h ((len+m)*Tryz.prog.bytesOf e) (by simp [DataW.weights,hu])
  exact this
 ·intro i hi n hn
  refine h n ?_;simp only [DataW.weights,hu,List.mem_cons,List.mem_append];exact Or.inr (Or.inl (Wl.mem (List.mem_map.2 ⟨i,List.mem_range.2 hi,rfl⟩) hn))
theorem Wl.string {H:Type} {t:TypeId} {b:List UInt8} (h:Wl (H:=H) t (.lit (.string b))):b.length<=140737488351232:=h b.length (by simp [DataW.weights])
theorem Wl.of_each {H:Type} {ts:List TypeId} {ds:List (DataW H)} (h:(DataW.weightsEach Tryz.prog ts ds).all (·<=reachBytes)=true) {j:Nat} {t:TypeId} {d:DataW H} (ht:ts[j]?=some t) (hd:ds[j]?=some d):Wl t d:=fun n hn=>by
 have:=List.all_eq_true.1 h n (DataW.weights_mem_each ht hd n hn)
 exact of_decide_eq_true (p:=n<=reachBytes) this
theorem zok {cs:List Value} {o k:Nat} {u:List Value} (h:(cs.drop o).take k=u):cs.drop o=u++cs.drop (o+k):=by
 rw [<- h,<- List.drop_drop,List.take_append_drop]
abbrev Len (s:Bs):Prop:=s.length<=140737488351232
abbrev znM (l:List Int):Prop:=∀ x ∈ l,I64 x
abbrev zoe (l:List Bs):Prop:=∀ x ∈ l,Len x
structure OkLb (l:Lb):Prop where
 til:I64 l.til
 app:I64 l.app
 den:I64 l.den
 aft:znM l.aft
structure OkBk (b:Bk):Prop where
 id:I64 b.id
 kd:I64 b.kd
 tx:Len b.tx
 st:I64 b.st
 rf:I64 b.rf
 lb:OkLb b.lb
structure OkFc (f:Fc):Prop where
 n:I64 f.n
 tm:I64 f.tm
 kd:I64 f.kd
 st:I64 f.st
 lg:Len f.lg
 rv:I64 f.rv
 bs:I64 f.bs
 ti:Len f.ti
 au:Len f.au
 tp:zoe f.tp
 bl:∀ b ∈ f.bl,OkBk b
 lb:OkLb f.lb
 ed:I64 f.ed
 bk:I64 f.bk
 se:I64 f.se
 tx:Len f.tx
 nm:Len f.nm
 pa:I64 f.pa
 cl:I64 f.cl
 un:I64 f.un
structure OkMs (m:Ms):Prop where
 kd:I64 m.kd
 pa:I64 m.pa
 sq:I64 m.sq
 st:I64 m.st
 ba:I64 m.ba
 ve:I64 m.ve
 da:Len m.da
structure OkAc (a:Ac):Prop where
 kd:I64 a.kd
 fc:OkFc a.fc
 n:I64 a.n
 cl:I64 a.cl
 tx:Len a.tx
 fa:znM a.fa
 ke:znM a.ke
 ms:OkMs a.ms
theorem zja {n:Int} (h:(Lit.int .i64 n).wf=true):I64 n:=by
 simp only [Lit.wf,Bool.and_eq_true,decide_eq_true_eq] at h;exact h
section
variable {H:Type} {enc:TypeId × Value -> H} {W:World}
theorem zjZ {n:Nat} {cs:List Value} {x:DataW H × List MemPlace} (h:DataW.trod enc Tryz.prog W 0 (fun _=>true) true n 3 cs=some x):∃ a,cs=[.int .i64 a]/\I64 a:=by
 obtain ⟨a,ha,_,wa⟩:=DataW.trod_int Tryz.underlying3 h;exact ⟨a,ha,zja wa⟩
theorem zjH {n:Nat} {cs:List Value} {x:DataW H × List MemPlace} (h:DataW.trod enc Tryz.prog W 0 (fun _=>true) true n 9 cs=some x) (hl:Wl 9 x.1):∃ a:Bs,cs=[zbR a]/\Len a:=by
 obtain ⟨s,rfl,rfl,-⟩:=DataW.trod_string Tryz.underlying9 h;exact ⟨s.data.toList,by rw [zkh],Wl.string hl⟩
theorem zc3 {α:Type} [Inhabited α] {f:α -> List Value} {size:Nat} (hfl:∀ x,(f x).length=size) (hs:0 < size) {Q:α -> Prop} {e t:TypeId} (ht:Tryz.prog.underlying t=some (.slice e)) (hc:Tryz.prog.cellsOf e=size) (hb:0 < Tryz.prog.bytesOf e)
  (hel:∀ n cs (x:DataW H × List MemPlace),DataW.trod enc Tryz.prog W 0 (fun _=>true) true n e cs=some x -> Wl e x.1 -> ∃ o,cs=f o/\Q o) {n:Nat} {cs:List Value} {x:DataW H × List MemPlace} (h:DataW.trod enc Tryz.prog W 0 (fun _=>true) true n t cs=some x) (hl:Wl t x.1):
  ∃ v l,cs=[v]/\zai (fun k=>k < W.heap.size) W f v l/\∀ o ∈ l,Q o:=by
 rcases Go.Deep.open_slice ht h with ⟨rfl,rfl⟩ | ⟨a,len,cap,m,n',D,Pl,rfl,-,hlc,hm,hmm,rfl,hx⟩
 ·exact ⟨_,[],rfl,zai.nil _ _ _,fun _ h=>nomatch h⟩
 ·rw [if_pos rfl] at hmm
  subst hmm;obtain ⟨hw1,hw2⟩:=Wl.slice ht hl;rw [hc] at hx;have hw3:len+(m - len)<=140737488351232:=Nat.le_trans (Nat.le_mul_of_pos_right _ hb) hw1;have hmx:maxLen=9223372036854775807:=by decide
  obtain ⟨V,hV⟩:=Go.Deep.choose_lt (α:=List Value) (p:=fun i o=>W.cells? 0 (a.add (i*size)) size=some o/\DataW.trod enc Tryz.prog W 0 (fun _=>true) true n' e o=some (D i,Pl i)) (n:=m) (fun i hi=>by
   obtain ⟨cs',h1,h2⟩:=hx i hi
   exact ⟨cs',h1,h2⟩)
  obtain ⟨U,hU⟩:=Go.Deep.choose_lt (α:=α) (p:=fun i o=>V i=f o/\Q o) (n:=len) (fun i hi=>hel n' _ _ (hV i (by omega)).2 (hw2 i hi));have hsp:0 < m -> a.spot=none/\a.block < W.heap.size:=fun h0=>by
   have h00:=(World.cells?_some (hV 0 h0).1).2.2 0 hs;have hlen:=(World.cells?_some (hV 0 h0).1).2.1;have hv:(V 0)[0]?=some ((V 0)[0]'(by omega)):=List.getElem?_eq_getElem (by omega);rw [hv] at h00;obtain ⟨b,off,spot⟩:=a;cases spot with
   | none=>
    refine ⟨rfl,?_⟩;unfold World.cell? at h00;simp only [Addr.add] at h00;split at h00
    ·rename_i hh
     have:=zat hh;simpa [Addr.add] using this
    ·cases h00
   | some s=>
    simp [Addr.add,World.cell?] at h00;split at h00 <;> simp at h00
  refine ⟨_,(List.range len).map U,rfl,⟨some a,m,by rw [List.length_map,List.length_range],fun j u hj=>?_,fun b off e h0=>?_,by rw [List.length_map,List.length_range];exact hlc,⟨by rw [List.length_map,List.length_range];omega,by omega⟩,fun e=>nomatch e⟩,fun o ho=>?_⟩
  ·have hj':j < len*size:=by
    have:=(List.getElem?_eq_some_iff.1 hj).1;rw [flat_length _ size hfl,List.length_map,List.length_range] at this;exact this
   have hk:j / size < len:=Nat.div_lt_of_lt_mul (by rw [Nat.mul_comm];exact hj');have hg:=flat_get f size hfl ((List.range len).map U) (j / size) (j % size) (U (j / size)) (by rw [List.getElem?_map,List.getElem?_range hk];rfl) (Nat.mod_lt _ hs);have hjj:j / size*size+j % size=j:=by rw [Nat.mul_comm];exact Nat.div_add_mod j size
   rw [hjj,hj,<- (hU _ hk).1] at hg;have hkm:j / size < m:=Nat.lt_of_lt_of_le hk (by omega);have hcc:=(World.cells?_some (hV (j / size) hkm).1).2.2 (j % size) (Nat.mod_lt _ hs);rw [<- hg,Go.Deep.add_add,hjj] at hcc;obtain ⟨hs0,-⟩:=hsp (Nat.lt_of_le_of_lt (Nat.zero_le _) hkm);obtain ⟨b,off,spot⟩:=a;simp only at hs0;subst hs0;rw [Addr.add_lit] at hcc;exact ⟨b,off,rfl,hcc⟩
  ·have e':a=⟨b,off,none⟩:=Option.some.inj e
   have:=(hsp h0).2;rw [e'] at this;exact this
  ·obtain ⟨i,hi,rfl⟩:=List.mem_map.1 ho
   exact (hU i (List.mem_range.1 hi)).2
theorem zeA {n:Nat} {cs:List Value} {x:DataW H × List MemPlace} (h:DataW.trod enc Tryz.prog W 0 (fun _=>true) true n 24 cs=some x) (hl:Wl 24 x.1):∃ v l,cs=[v]/\zaF (fun k=>k < W.heap.size) W v l/\znM l:=
 zc3 (f:=zd1) (Q:=I64) zbb (by decide) Tryz.underlying24 (by kernel_rfl) (by decide+kernel) (fun n cs x h _=>zjZ h) h hl
theorem zjI {n:Nat} {cs:List Value} {x:DataW H × List MemPlace} (h:DataW.trod enc Tryz.prog W 0 (fun _=>true) true n 22 cs=some x) (hl:Wl 22 x.1):∃ v l,cs=[v]/\zbw (fun k=>k < W.heap.size) W v l/\zoe l:=
 zc3 (f:=zdj) (Q:=Len) za5 (by decide) Tryz.underlying22 (by kernel_rfl) (by decide+kernel) (fun n cs x h hl=>zjH h hl) h hl
theorem zdg {t:TypeId} {fs:Array Field} {n:Nat} {cs:List Value} {x:DataW H × List MemPlace} (hu:Tryz.prog.underlying t=some (.struct fs)) (h:DataW.trod enc Tryz.prog W 0 (fun _=>true) true n t cs=some x) (hl:Wl t x.1):
  cs.length=Tryz.prog.cellsOf t/\∃ n',∀ (j:Nat) (f:Field),fs[j]?=some f -> ∃ y:DataW H × List MemPlace,DataW.trod enc Tryz.prog W 0 (fun _=>true) true n' f.type ((cs.drop f.offset).take (Tryz.prog.cellsOf f.type))=some y/\Wl f.type y.1:=by
 obtain ⟨xs,k,hk,rfl,hlen,hxl,hf⟩:=DataW.trod_struct hu h;refine ⟨hlen,k,fun j f hj=>?_⟩;have hjl:j < xs.length:=by
  have:=(Array.getElem?_eq_some_iff.1 hj).1;omega
 have h1:=hf j f hj;rw [List.getElem?_eq_getElem hjl] at h1;exact ⟨xs[j],h1,Wl.part hu hl hj (by rw [List.getElem?_map,List.getElem?_eq_getElem hjl];rfl)⟩
end
section
variable {H:Type} {enc:TypeId × Value -> H} {W:World}
def Fld (enc:TypeId × Value -> H) (W:World) (fs:Array Field) (n:Nat) (cs:List Value):Prop:=∀ (j:Nat) (f:Field),fs[j]?=some f -> ∃ y:DataW H × List MemPlace,DataW.trod enc Tryz.prog W 0 (fun _=>true) true n f.type ((cs.drop f.offset).take (Tryz.prog.cellsOf f.type))=some y/\Wl f.type y.1
theorem fG {fs:Array Field} {n:Nat} {cs:List Value} {f:Field} (hf:Fld enc W fs n cs) (j o o':Nat) (t:TypeId) (c:Nat) (h:fs[j]?=some f) (ht:f.type=t) (ho:f.offset=o) (hc:Tryz.prog.cellsOf t=c) (he:o+c=o'):
  ∃ (m:Nat) (u:List Value) (y:DataW H × List MemPlace),DataW.trod enc Tryz.prog W 0 (fun _=>true) true m t u=some y/\Wl t y.1/\cs.drop o=u++cs.drop o':=by
 obtain ⟨y,h1,h2⟩:=hf j f h;subst ht ho hc he;exact ⟨n,_,y,h1,h2,zok rfl⟩
theorem fI {fs:Array Field} {n:Nat} {cs:List Value} {f:Field} (hf:Fld enc W fs n cs) (j o o':Nat) (h:fs[j]?=some f) (ht:f.type=3) (ho:f.offset=o) (he:o+1=o'):∃ a,cs.drop o=[.int .i64 a]++cs.drop o'/\I64 a:=by
 obtain ⟨m,u,y,h1,h2,h3⟩:=fG hf j o o' 3 1 h ht ho (by kernel_rfl) he;obtain ⟨a,rfl,q⟩:=zjZ h1;exact ⟨a,h3,q⟩
theorem fS {fs:Array Field} {n:Nat} {cs:List Value} {f:Field} (hf:Fld enc W fs n cs) (j o o':Nat) (h:fs[j]?=some f) (ht:f.type=9) (ho:f.offset=o) (he:o+1=o'):∃ a:Bs,cs.drop o=[zbR a]++cs.drop o'/\Len a:=by
 obtain ⟨m,u,y,h1,h2,h3⟩:=fG hf j o o' 9 1 h ht ho (by kernel_rfl) he;obtain ⟨a,rfl,q⟩:=zjH h1 h2;exact ⟨a,h3,q⟩
end
theorem zmH {H:Type} {enc:TypeId × Value -> H} {W:World} {n:Nat} {cs:List Value} {x:DataW H × List MemPlace} (h:DataW.trod enc Tryz.prog W 0 (fun _=>true) true n 30 cs=some x) (hl:Wl 30 x.1):∃ m:Ms,cs=msC m/\OkMs m:=by
 obtain ⟨hlen,n',hf⟩:=zdg Tryz.underlying30 h hl;rw [show Tryz.prog.cellsOf 30=7 by kernel_rfl] at hlen;obtain ⟨a0,c0,q0⟩:=fI hf 0 0 1 rfl rfl rfl rfl;obtain ⟨a1,c1,q1⟩:=fI hf 1 1 2 rfl rfl rfl rfl;obtain ⟨a2,c2,q2⟩:=fI hf 2 2 3 rfl rfl rfl rfl;obtain ⟨a3,c3,q3⟩:=fI hf 3 3 4 rfl rfl rfl rfl;obtain ⟨a4,c4,q4⟩:=fI hf 4 4 5 rfl rfl rfl rfl;obtain ⟨a5,c5,q5⟩:=fI hf 5 5 6 rfl rfl rfl rfl;obtain ⟨a6,c6,q6⟩:=fS hf 6 6 7 rfl rfl rfl rfl;have hend:cs.drop 7=[]:=List.drop_eq_nil_of_le (by omega);have hcs:cs=cs.drop 0:=rfl;rw [c0,c1,c2,c3,c4,c5,c6,hend] at hcs;exact ⟨⟨a0,a1,a2,a3,a4,a5,a6⟩,hcs,⟨q0,q1,q2,q3,q4,q5,q6⟩⟩
theorem zkn {H:Type} {enc:TypeId × Value -> H} {W:World} {n:Nat} {cs:List Value} {x:DataW H × List MemPlace} (h:DataW.trod enc Tryz.prog W 0 (fun _=>true) true n 26 cs=some x) (hl:Wl 26 x.1):∃ (v:Value) (l:Lb),cs=lbC v l/\zaF (fun k=>k < W.heap.size) W v l.aft/\OkLb l:=by
 obtain ⟨hlen,n',hf⟩:=zdg Tryz.underlying26 h hl;rw [show Tryz.prog.cellsOf 26=4 by kernel_rfl] at hlen;obtain ⟨a0,c0,q0⟩:=fI hf 0 0 1 rfl rfl rfl rfl;obtain ⟨m1,u1,y1,e1,l1,c1⟩:=fG hf 1 1 2 24 1 rfl rfl rfl (by kernel_rfl) rfl;obtain ⟨v1,a1,rfl,r1,q1⟩:=zeA e1 l1;obtain ⟨a2,c2,q2⟩:=fI hf 2 2 3 rfl rfl rfl rfl;obtain ⟨a3,c3,q3⟩:=fI hf 3 3 4 rfl rfl rfl rfl;have hend:cs.drop 4=[]:=List.drop_eq_nil_of_le (by omega);have hcs:cs=cs.drop 0:=rfl;rw [c0,c1,c2,c3,hend] at hcs;exact ⟨v1,⟨a0,a1,a2,a3⟩,hcs,r1,⟨q0,q2,q3,q1⟩⟩
theorem zmn {H:Type} {enc:TypeId × Value -> H} {W:World} {n:Nat} {cs:List Value} {x:DataW H × List MemPlace} (h:DataW.trod enc Tryz.prog W 0 (fun _=>true) true n 118 cs=some x) (hl:Wl 118 x.1):∃ (v:Value) (b:Bk),cs=bkC (v,b)/\zaF (fun k=>k < W.heap.size) W v b.lb.aft/\OkBk b:=by
 obtain ⟨hlen,n',hf⟩:=zdg Tryz.underlying118 h hl;rw [show Tryz.prog.cellsOf 118=9 by kernel_rfl] at hlen;obtain ⟨a0,c0,q0⟩:=fI hf 0 0 1 rfl rfl rfl rfl;obtain ⟨a1,c1,q1⟩:=fI hf 1 1 2 rfl rfl rfl rfl;obtain ⟨a2,c2,q2⟩:=fS hf 2 2 3 rfl rfl rfl rfl;obtain ⟨a3,c3,q3⟩:=fI hf 3 3 4 rfl rfl rfl rfl;obtain ⟨a4,c4,q4⟩:=fI hf 4 4 5 rfl rfl rfl rfl;obtain ⟨m5,u5,y5,e5,l5,c5⟩:=fG hf 5 5 9 26 4 rfl rfl rfl (by kernel_rfl) rfl;obtain ⟨v5,a5,rfl,r5,q5⟩:=zkn e5 l5;have hend:cs.drop 9=[]:=List.drop_eq_nil_of_le (by omega);have hcs:cs=cs.drop 0:=rfl;rw [c0,c1,c2,c3,c4,c5,hend] at hcs;exact ⟨v5,⟨a0,a1,a2,a3,a4,a5⟩,hcs,r5,⟨q0,q1,q2,q3,q4,q5⟩⟩
theorem zlT {H:Type} {enc:TypeId × Value -> H} {W:World} {n:Nat} {cs:List Value} {x:DataW H × List MemPlace} (h:DataW.trod enc Tryz.prog W 0 (fun _=>true) true n 23 cs=some x) (hl:Wl 23 x.1):∃ v l,cs=[v]/\zaD (fun k=>k < W.heap.size) W v l/\∀ b ∈ l,OkBk b:=by
 haveI:Inhabited (Value × Bk):=⟨(.slice none 0 0,⟨0,0,[],0,0,Lb.zero⟩)⟩
 obtain ⟨v,l,hc,hr,hq⟩:=zc3 (f:=bkC) (Q:=fun p:Value × Bk=>zaF (fun k=>k < W.heap.size) W p.1 p.2.lb.aft/\OkBk p.2) zfE (by decide) Tryz.underlying23 (by kernel_rfl) (by decide+kernel) (fun n cs x h hl=>by
  obtain ⟨v,b,h1,h2,h3⟩:=zmn h hl
  exact ⟨(v,b),h1,h2,h3⟩) h hl
 refine ⟨v,l.map Prod.snd,hc,⟨l,rfl,hr,fun p hp=>(hq p hp).1⟩,fun b hb=>?_⟩;obtain ⟨p,hp,rfl⟩:=List.mem_map.1 hb;exact (hq p hp).2
theorem zmp {H:Type} {enc:TypeId × Value -> H} {W:World} {n:Nat} {cs:List Value} {x:DataW H × List MemPlace} (h:DataW.trod enc Tryz.prog W 0 (fun _=>true) true n 28 cs=some x) (hl:Wl 28 x.1):∃ (s:FV) (f:Fc),cs=fcC s f/\FcAt (fun k=>k < W.heap.size) W s f/\OkFc f:=by
 obtain ⟨hlen,n',hf⟩:=zdg Tryz.underlying28 h hl;rw [show Tryz.prog.cellsOf 28=23 by kernel_rfl] at hlen;obtain ⟨a0,c0,q0⟩:=fI hf 0 0 1 rfl rfl rfl rfl;obtain ⟨a1,c1,q1⟩:=fI hf 1 1 2 rfl rfl rfl rfl;obtain ⟨a2,c2,q2⟩:=fI hf 2 2 3 rfl rfl rfl rfl;obtain ⟨a3,c3,q3⟩:=fI hf 3 3 4 rfl rfl rfl rfl;obtain ⟨a4,c4,q4⟩:=fS hf 4 4 5 rfl rfl rfl rfl;obtain ⟨a5,c5,q5⟩:=fI hf 5 5 6 rfl rfl rfl rfl;obtain ⟨a6,c6,q6⟩:=fI hf 6 6 7 rfl rfl rfl rfl;obtain ⟨a7,c7,q7⟩:=fS hf 7 7 8 rfl rfl rfl rfl;obtain ⟨a8,c8,q8⟩:=fS hf 8 8 9 rfl rfl rfl rfl;obtain ⟨m9,u9,y9,e9,l9,c9⟩:=fG hf 9 9 10 22 1 rfl rfl rfl (by kernel_rfl) rfl;obtain ⟨v9,a9,rfl,r9,q9⟩:=zjI e9 l9;obtain ⟨m10,u10,y10,e10,l10,c10⟩:=fG hf 10 10 11 23 1 rfl rfl rfl (by kernel_rfl) rfl;obtain ⟨v10,a10,rfl,r10,q10⟩:=zlT e10 l10;obtain ⟨m11,u11,y11,e11,l11,c11⟩:=fG hf 11 11 15 26 4 rfl rfl rfl (by kernel_rfl) rfl;obtain ⟨v11,a11,rfl,r11,q11⟩:=zkn e11 l11;obtain ⟨a12,c12,q12⟩:=fI hf 12 15 16 rfl rfl rfl rfl;obtain ⟨a13,c13,q13⟩:=fI hf 13 16 17 rfl rfl rfl rfl;obtain ⟨a14,c14,q14⟩:=fI hf 14 17 18 rfl rfl rfl rfl;obtain ⟨a15,c15,q15⟩:=fS hf 15 18 19 rfl rfl rfl rfl;obtain ⟨a16,c16,q16⟩:=fS hf 16 19 20 rfl rfl rfl rfl;obtain ⟨a17,c17,q17⟩:=fI hf 17 20 21 rfl rfl rfl rfl;obtain ⟨a18,c18,q18⟩:=fI hf 18 21 22 rfl rfl rfl rfl;obtain ⟨a19,c19,q19⟩:=fI hf 19 22 23 rfl rfl rfl rfl;have hend:cs.drop 23=[]:=List.drop_eq_nil_of_le (by omega);have hcs:cs=cs.drop 0:=rfl;rw [c0,c1,c2,c3,c4,c5,c6,c7,c8,c9,c10,c11,c12,c13,c14,c15,c16,c17,c18,c19,hend] at hcs;exact ⟨⟨v9,v10,v11⟩,⟨a0,a1,a2,a3,a4,a5,a6,a7,a8,a9,a10,a11,a12,a13,a14,a15,a16,a17,a18,a19⟩,hcs,⟨r9,r10,r11⟩,⟨q0,q1,q2,q3,q4,q5,q6,q7,q8,q9,q10,q11,q12,q13,q14,q15,q16,q17,q18,q19⟩⟩
theorem zj6 {H:Type} {enc:TypeId × Value -> H} {W:World} {n:Nat} {cs:List Value} {x:DataW H × List MemPlace} (h:DataW.trod enc Tryz.prog W 0 (fun _=>true) true n 32 cs=some x) (hl:Wl 32 x.1):∃ (s:AV) (a:Ac),cs=acC (s,a)/\AcAt (fun k=>k < W.heap.size) W s a/\OkAc a:=by
 obtain ⟨hlen,n',hf⟩:=zdg Tryz.underlying32 h hl;rw [show Tryz.prog.cellsOf 32=36 by kernel_rfl] at hlen;obtain ⟨a0,c0,q0⟩:=fI hf 0 0 1 rfl rfl rfl rfl;obtain ⟨m1,u1,y1,e1,l1,c1⟩:=fG hf 1 1 24 28 23 rfl rfl rfl (by kernel_rfl) rfl;obtain ⟨v1,a1,rfl,r1,q1⟩:=zmp e1 l1;obtain ⟨a2,c2,q2⟩:=fI hf 2 24 25 rfl rfl rfl rfl;obtain ⟨a3,c3,q3⟩:=fI hf 3 25 26 rfl rfl rfl rfl;obtain ⟨a4,c4,q4⟩:=fS hf 4 26 27 rfl rfl rfl rfl;obtain ⟨m5,u5,y5,e5,l5,c5⟩:=fG hf 5 27 28 24 1 rfl rfl rfl (by kernel_rfl) rfl;obtain ⟨v5,a5,rfl,r5,q5⟩:=zeA e5 l5;obtain ⟨m6,u6,y6,e6,l6,c6⟩:=fG hf 6 28 29 24 1 rfl rfl rfl (by kernel_rfl) rfl;obtain ⟨v6,a6,rfl,r6,q6⟩:=zeA e6 l6;obtain ⟨m7,u7,y7,e7,l7,c7⟩:=fG hf 7 29 36 30 7 rfl rfl rfl (by kernel_rfl) rfl;obtain ⟨a7,rfl,q7⟩:=zmH e7 l7;have hend:cs.drop 36=[]:=List.drop_eq_nil_of_le (by omega);have hcs:cs=cs.drop 0:=rfl;rw [c0,c1,c2,c3,c4,c5,c6,c7,hend] at hcs;exact ⟨⟨v1,v5,v6⟩,⟨a0,a1,a2,a3,a4,a5,a6,a7⟩,hcs,⟨r1,r5,r6⟩,⟨q0,q1,q2,q3,q4,q5,q6,q7⟩⟩
theorem zk7 {H:Type} {enc:TypeId × Value -> H} {W:World} {n:Nat} {cs:List Value} {x:DataW H × List MemPlace} (h:DataW.trod enc Tryz.prog W 0 (fun _=>true) true n 37 cs=some x) (hl:Wl 37 x.1):∃ v l,cs=[v]/\zbK (fun k=>k < W.heap.size) W v l/\∀ b ∈ l,OkAc b:=by
 haveI:Inhabited (AV × Ac):=⟨(⟨⟨.slice none 0 0,.slice none 0 0,.slice none 0 0⟩,.slice none 0 0,.slice none 0 0⟩,Ac.zero)⟩
 obtain ⟨v,l,hc,hr,hq⟩:=zc3 (f:=acC) (Q:=fun p:AV × Ac=>AcAt (fun k=>k < W.heap.size) W p.1 p.2/\OkAc p.2) zej (by decide) Tryz.underlying37 (by kernel_rfl) (by decide+kernel) (fun n cs x h hl=>by
  obtain ⟨v,b,h1,h2,h3⟩:=zj6 h hl
  exact ⟨(v,b),h1,h2,h3⟩) h hl
 refine ⟨v,l.map Prod.snd,hc,⟨l,rfl,hr,fun p hp=>(hq p hp).1⟩,fun b hb=>?_⟩;obtain ⟨p,hp,rfl⟩:=List.mem_map.1 hb;exact (hq p hp).2
theorem zen {H:Type} {enc:TypeId × Value -> H} {W:World} {b0:Nat} {v:Value} {d:DataW H} {p:List MemPlace} (hval:Value.okWide Tryz.prog W .any b0 32 v) (h:DataW.Trod enc Tryz.prog W 0 (fun _=>true) true 32 v d p) (hl:Wl 32 d):
  ∃ (a1:Option Addr) (n1 c1:Nat) (a2:Option Addr) (n2 c2:Nat) (a3:Option Addr) (n3 c3:Nat) (a4:Option Addr) (n4 c4:Nat) (a5:Option Addr) (n5 c5:Nat) (a:Ac),v=.agg (acA a1 n1 c1 a2 n2 c2 a3 n3 c3 a4 n4 c4 a5 n5 c5 a)/\AcAt (fun k=>k < W.heap.size) W ⟨⟨.slice a1 n1 c1,.slice a2 n2 c2,.slice a3 n3 c3⟩,.slice a4 n4 c4,.slice a5 n5 c5⟩ a/\OkAc a:=by
 obtain ⟨cs,rfl,-⟩:=okWide_struct Tryz.underlying32 hval;obtain ⟨n,h⟩:=h;obtain ⟨⟨⟨s1,s2,s3⟩,s4,s5⟩,a,h1,h2,h3⟩:=zj6 h hl;obtain ⟨a1,c1,e1⟩:=h2.fc.tp.slice;obtain ⟨a2,c2,e2⟩:=h2.fc.bl.slice;obtain ⟨a3,c3,e3⟩:=h2.fc.af.slice;obtain ⟨a4,c4,e4⟩:=h2.fa.slice;obtain ⟨a5,c5,e5⟩:=h2.ke.slice;simp only at e1 e2 e3 e4 e5;subst e1 e2 e3 e4 e5;refine ⟨a1,_,c1,a2,_,c2,a3,_,c3,a4,_,c4,a5,_,c5,a,?_,h2,h3⟩;congr 1;rw [<- znw,<- h1]
 rfl
theorem zgF {H:Type} {enc:TypeId × Value -> H} {W:World} {v:Value} {d:DataW H} {p:List MemPlace} {b0:Nat} (hval:Value.okWide Tryz.prog W .any b0 37 v) (h:DataW.Trod enc Tryz.prog W 0 (fun _=>true) true 37 v d p) (hl:Wl 37 d):
  ∃ (ao:Option Addr) (cap:Nat) (l:List Ac),v=.slice ao l.length cap/\zbK (fun k=>k < W.heap.size) W (.slice ao l.length cap) l/\∀ a ∈ l,OkAc a:=by
 obtain ⟨ao,len,cap,rfl⟩:=okWide_slice Tryz.underlying37 hval;obtain ⟨n,h⟩:=h;obtain ⟨v,l,h1,h2,h3⟩:=zk7 h hl;obtain ⟨ao',cap',rfl⟩:=h2.slice;have:(Value.slice ao len cap).cells.toList=[Value.slice ao len cap]:=rfl;rw [this] at h1;injection h1 with h1 _
 exact ⟨ao',cap',l,h1,h2,h3⟩
end Go.Proofs.YtjjfphalcibjfaaGreatDoor
namespace Cdk
open Go Go.ChangeShapes Go.WideShapes Go.ChangeAt Go.RowKit
theorem carried {P:Program} (hl:laidOutB P=true) {H:Type} {enc:TypeId × Value -> H} {W W':World} (hx:Ext W W'):∀ (ts:List TypeId) (vs:List Value) (ds:List (DataW H)) (ps:List MemPlace),
  ts.all (fun t=>P.readableRec t && decide (t < P.types.size))=true -> DataW.TrodAll enc P W 0 (fun _=>true) true ts vs ds ps →
  DataW.TrodAll enc P W' 0 (fun b=>decide (b < W.heap.size)) true ts vs ds ps
 | [],_,_,_,_,h=>by
  obtain ⟨rfl,rfl,rfl⟩:=trodAll_nil h
  rfl
 | t::ts,_,_,_,hr,h=>by
  have hlt:=DataW.TrodAll.lt h;obtain ⟨v,vs,d,ds,p,q,rfl,rfl,rfl,h1,h2⟩:=trodAll_cons h;rw [List.all_cons,Bool.and_eq_true,Bool.and_eq_true,decide_eq_true_eq] at hr;exact ⟨p,q,Below.trod hl hr.1.1 hr.1.2 h1 (hx.below (Nat.le_refl _) (fun _ hk=>nomatch hk)) (fun x hp=>hlt x (List.mem_append_left _ hp)),carried hl hx ts vs ds q hr.2 h2,rfl⟩
theorem zgL {P:Program} (hl:laidOutB P=true) {tb:TypeId} (htb:P.underlying tb=some .bool) {H:Type} {enc:TypeId × Value -> H} {f:Func} {s:ChangeSpec} {apart fresh handsOn:Bool} {W W':World} {args:Array Value} {ds gs:List (DataW H)} {before:List MemPlace}
  (hW:DataW.Whole enc P f.params.toList s.vars apart W args.toList ds gs before) (hr:f.params.toList.all (fun t=>P.readableRec t && decide (t < P.types.size))=true)
  (hv:s.vars=[]) (hf:f.resultTypes=#[tb]) (h1:(s.fn H (ds++gs)).results=[.lit (.bool true)]) (h2:(s.fn H (ds++gs)).args=ds) (h3:(s.fn H (ds++gs)).vars=[]) (hx:Ext W W'):
  s.post enc P f apart fresh handsOn false W args (.bool true) W':=by
 have hW':=hW;obtain ⟨p,q,hA,hV,rfl,-,-⟩:=hW;refine ⟨ds,gs,_,[],p,[],hW',?_,?_,?_,Below.frame (hx.below (Nat.le_refl _) (fun _ hk=>nomatch hk)) _,fun h=>nomatch h⟩
 ·rw [h1,hf]
  exact trodAll_mk1 (shut_bool htb true)
 ·rw [h2]
  exact carried hl hx _ _ _ _ hr hA
 ·rw [hv,h3]
  rfl
end Cdk
namespace Go.Proofs.YtjjfphalcibjfaaGreatDoor
open Go.ChangeShapes Go.WideShapes Go.ChangeAt Go.RowKit Cdk Scr
theorem own:ownKnob Tryz.prog.godebug=none:=by kernel_rfl
theorem laidOut:laidOutB Tryz.prog=true:=by kernel_rfl
abbrev zeV : List (String × DataW Unit) := [("math/bits.deBruijn32tab", Rows.laid_math_bits_deBruijn32tab), ("math/bits.deBruijn64tab", Rows.laid_math_bits_deBruijn64tab), ("internal/strconv.uint64pow10", Rows.laid_internal_strconv_uint64pow10), ("unicode/utf8.acceptRanges", Rows.laid_unicode_utf8_acceptRanges), ("errors.errorType", Rows.laid_errors_errorType), ("copydesk/wire.shifts", Rows.laid_copydesk_wire_shifts), ("strconv.ErrRange", Rows.laid_strconv_ErrRange), ("strconv.ErrSyntax", Rows.laid_strconv_ErrSyntax), ("unicode/utf8.first", Rows.laid_unicode_utf8_first)]
abbrev zeQ : List (String × DataW Unit) := [("math/bits.deBruijn32tab", Rows.laid_math_bits_deBruijn32tab), ("math/bits.deBruijn64tab", Rows.laid_math_bits_deBruijn64tab), ("internal/strconv.uint64pow10", Rows.laid_internal_strconv_uint64pow10), ("unicode/utf8.acceptRanges", Rows.laid_unicode_utf8_acceptRanges), ("copydesk/wire.shifts", Rows.laid_copydesk_wire_shifts), ("strconv.ErrRange", Rows.laid_strconv_ErrRange), ("strconv.ErrSyntax", Rows.laid_strconv_ErrSyntax), ("unicode/utf8.first", Rows.laid_unicode_utf8_first)]
theorem zgx {P:Program} {w:World} {g:Nat} {t:TypeId} {k:IntKind} {zero:Array Value} (h:w.ShapedOpen P) (hg:g < P.globals.size)
  (h0:((begin P (fun _ _=>0) default).world.heap[g]?).bind Obj.row?=some (zero,t)) (hz:zero.size=1)
  (hb:P.buildable t=true) (hc:P.cellTypes P.depth t=some [t]) (hu:P.underlying t=some (.int k)):∃ m,w.cell? ⟨g,0,none⟩=some (.int k m):=by
 obtain ⟨cs,hh,hs,hr⟩:=h.1 g zero t hg h0;obtain ⟨ts,hts,_,hall⟩:=hr hb;rw [hc] at hts;cases hts
 have h1:0 < cs.size:=by omega
 obtain ⟨u,hu',hok⟩:=hall 0 cs[0] (by simp [h1]);have:u=t:=by simpa using hu'.symm
 subst this;have hcell:w.cell? ⟨g,0,none⟩=some cs[0]:=by simp [World.cell?,hh,h1]
 rw [hcell];unfold Cell.ok at hok;rw [hu] at hok;cases hv:cs[0] <;> rw [hv] at hok <;> simp at hok
 obtain ⟨h1,-⟩:=hok;subst h1;exact ⟨_,rfl⟩
theorem zfs {P:Program} {w:World} {g:Nat} {t:TypeId} {zero:Array Value} (h:w.ShapedOpen P) (hg:g < P.globals.size)
  (h0:((begin P (fun _ _=>0) default).world.heap[g]?).bind Obj.row?=some (zero,t)):g < w.heap.size:=by
 obtain ⟨cs,hh,-⟩:=h.1 g zero t hg h0;exact zat hh
theorem zlO:(Rows.laid_internal_strconv_uint64pow10:DataW Unit)=Lib.tabData .u64 Lib.pow10Tab:=by kernel_rfl
theorem zjT:(Rows.laid_copydesk_wire_shifts:DataW Unit)=Lib.tabData .u32 zgU:=by kernel_rfl
theorem hname : (Tryz.prog.cutTypes.find? (·.1 == "internal/reflectlite.rtype")).map (·.2) = some 221 := by kernel_rfl
theorem types_size:Tryz.prog.types.size=304:=by kernel_rfl
theorem oneRow:((List.range 304).filter fun t=>Tryz.prog.rowNamed t [101,114,114,111,114])=[67]:=by kernel_rfl
theorem zkU : Tryz.prog.globalNamed "errors.errorType" = some 1 := by kernel_rfl
theorem zhB : ("*" ++ "errors.errorString" : String) = "*errors.errorString" := by decide
theorem zfl (u : TypeId) (h : Tryz.prog.typeName? 3 u = some "*errors.errorString") : u = 268 :=
 typeName_ptr_named (nm := "errors.errorString") (by rw [zhB]; kernel_rfl) (by kernel_rfl) (by decide) u (by rw [zhB]; exact h)
theorem zi3 {W : World} (h : handlesMet Tryz.prog [("errors.errorType", Rows.laid_errors_errorType)] W) : W.cell? ⟨1, 0, none⟩ = some (.iface 221 (.agg #[.pointer (some ⟨10, 67, none⟩)])) := by
 obtain ⟨name,u,ty,e1,e2,e3,e4,e5⟩:=h _ (List.mem_singleton.2 rfl);have en:name=[101,114,114,111,114]:=(Option.some.inj e1).symm;subst en;obtain rfl:=Option.some.inj (hname.symm.trans e2);have hm:ty ∈ (List.range 304).filter fun t=>Tryz.prog.rowNamed t [101,114,114,111,114]:=List.mem_filter.2 ⟨List.mem_range.2 (by rw [<- types_size];exact e3),e4⟩
 rw [oneRow] at hm;obtain rfl:=List.mem_singleton.1 hm;have hh:typeHandle Tryz.prog 67=.pointer (some ⟨10,67,none⟩):=by kernel_rfl
 rw [hh] at e5;simpa using World.var?_cell zkU e5 0
theorem ziZ {W : World} (h : laidMetH Tryz.prog zeV W) : laidMet Tryz.prog zeQ W /\ handlesMet Tryz.prog [("errors.errorType", Rows.laid_errors_errorType)] W := h
theorem znF {W:World} (h:laidMetH Tryz.prog zeV W) (hs:W.ShapedOpen Tryz.prog):Gl W:=by
 obtain ⟨hd,hh⟩:=ziZ h;have h3:=hd.tail.tail;have h4:=hd.tail.tail.tail.tail;have h5:=hd.tail.tail.tail.tail.tail;have h6:=hd.tail.tail.tail.tail.tail.tail;rw [zlO] at h3;rw [zjT] at h4;refine ⟨?_,?_,?_,?_,?_,zi3 hh,?_⟩
 ·exact Lib.tabIs_of_head (g:=3) (t:=((Tryz.prog.globals[3]?).map (·.type)).getD 0) (e:=((Tryz.prog.underlying (((Tryz.prog.globals[3]?).map (·.type)).getD 0)).bind fun | .array _ e=>some e | _=>none).getD 0) (n:=20) (by kernel_rfl) (by kernel_rfl) (by kernel_rfl) (by kernel_rfl) (by kernel_rfl) (by kernel_rfl) h3
 ·exact Lib.tabIs_of_head (g:=0) (t:=((Tryz.prog.globals[0]?).map (·.type)).getD 0) (e:=((Tryz.prog.underlying (((Tryz.prog.globals[0]?).map (·.type)).getD 0)).bind fun | .array _ e=>some e | _=>none).getD 0) (n:=16) (by kernel_rfl) (by kernel_rfl) (by kernel_rfl) (by kernel_rfl) (by kernel_rfl) (by kernel_rfl) h4
 ·exact zgx (zero:=#[.int .i64 0]) (t:=3) hs (by decide+kernel) (by kernel_rfl) rfl (by kernel_rfl) (by kernel_rfl) (by kernel_rfl)
 ·obtain ⟨a,s,hv,-⟩:=laid_sentinel (g:=4) (ti:=67) (tp:=268) (te:=270) (ts:=9) (ms:=((match Tryz.prog.underlying 67 with | some (.interface ms)=>some ms | _=>none).getD #[])) (f:=((match Tryz.prog.underlying 270 with | some (.struct fs)=>fs[0]? | _=>none).getD default)) h6 (by kernel_rfl) (by kernel_rfl) (by kernel_rfl) zfl (by kernel_rfl) (by kernel_rfl) (by kernel_rfl) (by kernel_rfl) (by kernel_rfl) (by kernel_rfl) (by kernel_rfl)
  exact ⟨_,_,hv⟩
 ·obtain ⟨a,s,hv,-⟩:=laid_sentinel (g:=5) (ti:=67) (tp:=268) (te:=270) (ts:=9) (ms:=((match Tryz.prog.underlying 67 with | some (.interface ms)=>some ms | _=>none).getD #[])) (f:=((match Tryz.prog.underlying 270 with | some (.struct fs)=>fs[0]? | _=>none).getD default)) h5 (by kernel_rfl) (by kernel_rfl) (by kernel_rfl) zfl (by kernel_rfl) (by kernel_rfl) (by kernel_rfl) (by kernel_rfl) (by kernel_rfl) (by kernel_rfl) (by kernel_rfl)
  exact ⟨_,_,hv⟩
 ·exact zfs (g:=9) (t:=((((begin Tryz.prog (fun _ _=>0) default).world.heap[9]?).bind Obj.row?).map (·.2)).getD 0) (zero:=((((begin Tryz.prog (fun _ _=>0) default).world.heap[9]?).bind Obj.row?).map (·.1)).getD #[]) hs (by decide+kernel) (by kernel_rfl)
noncomputable def zod (os:Os):World:=
 let w0:=World.holding Tryz.prog os ⟨#[],#[],[]⟩
 { w0 with heap:=w0.heap.modify 1 fun
   | .cells _ t frozen=>.cells #[.iface 221 (.agg #[.pointer (some ⟨10,67,none⟩)])] t frozen
   | o=>o }
noncomputable def wit (os:Os):World:=(zod os).layVars Tryz.prog zeQ
theorem zl4 (os:Os):(wit os).os=os:=World.layVars_os _ _ _
theorem zkv (os:Os) (args:Array Value):laidMetH Tryz.prog zeV ((wit os).forCall (fun _ _=>0) ⟨#[],args,[]⟩).memory:=by
 refine laidMetH_of_parts ?_ (by kernel_rfl);have e0:(zeV.filter fun x=>x.2.handleName?.isNone)=zeQ:=rfl;rw [e0];have e1:(zeQ.filter fun x=>(zeQ.map (·.1)).contains x.1)=zeQ:=List.filter_eq_self.2 fun x hx=>List.contains_iff_mem.2 (List.mem_map.2 ⟨x,hx,rfl⟩)
 have e2:(zeQ.filter fun x=>!(zeQ.map (·.1)).contains x.1)=[]:=List.filter_eq_nil_iff.2 fun x hx=>by rw [List.contains_iff_mem.2 (List.mem_map.2 ⟨x,hx,rfl⟩)];simp
 have h:laidMet Tryz.prog zeQ (wit os):=laidMet_layVars (w0:=zod os) (zeQ.map (·.1)) [] (by rw [e1];rfl) (by rw [e1];kernel_rfl) (by rw [e1];kernel_rfl) (by rw [e2];exact LaidIn.none);exact h.of_heap (by simp [World.memory,World.forCall,Input.heap])
theorem zdT {H:Type} {enc:TypeId × Value -> H} {a:Assume} {C:Checked} {os:Os} {f:FuncId} {fn:Func} {s:ChangeSpec} {conds:List PathCond} {apart fresh handsOn again:Bool} {X:World -> Array Value -> Prop}
  (hX:∀ (w w':World) (args:Array Value),w.heap=w'.heap -> X w args -> X w' args)
  (own:ownKnob C.prog.godebug=none) (started:os.Started) (noInit:C.prog.inits.idxOf? f=none) (hfn:C.prog.funcs[f]?=some fn)
  (witness:∃ (w:World) (tape:Tape) (i:Input),w.os=os/\(w.forCall tape i).Shaped C.prog/\i.vars=[]/\Input.okWide C.prog (w.forCall tape i) .any w.heap.size f i ∧
   ((s.pre enc C.prog fn conds apart (w.forCall tape i).memory i.args/\X (w.forCall tape i).memory i.args)/\sizedMet enc C.prog fn (OpenSpec.ofChange s) apart (w.forCall tape i).memory i.args)/\a.holds C.prog (lone (Frame.enter C.prog f i.args .normal) [] (w.forCall tape i)))
  (contract:∀ (W:World) (base:Nat) (args:Array Value) (ds gs:List (DataW H)) (before:List MemPlace),
   (∀ (j:Nat) t v,fn.params[j]?=some t -> args[j]?=some v -> Value.okWide C.prog W .any base t v) →
   DataW.Whole enc C.prog fn.params.toList s.vars apart W args.toList ds gs before →
   (DataW.weightsEach C.prog (fn.params.toList++s.plain.varTypes C.prog) (ds++gs)).all (·<=reachBytes)=true -> X W args -> W.ShapedOpen C.prog →
   Calls C.prog f args W fun e W'=>∃ v,e=.returned v/\s.post enc C.prog fn apart fresh handsOn again W args v W'):
  ReturnsInHanded a C os f .any (fun w args=>(s.pre enc C.prog fn conds apart w args/\X w args)/\sizedMet enc C.prog fn (OpenSpec.ofChange s) apart w args) (s.post enc C.prog fn apart fresh handsOn again):=by
 refine returnsInHanded_of_calls own started noInit witness ?_;intro w tape i _ hsh _ hok hpre hholds;obtain ⟨_,_,_,fn',hfn',_,_,_,_,hval⟩:=hok;have e:fn'=fn:=Option.some.inj (hfn'.symm.trans hfn);subst e;obtain ⟨⟨⟨ds,gs,before,hw,hc⟩,hx⟩,hz⟩:=hpre;have hw':=DataW.Whole.of_heap (w':=w.forCall tape i) (by rfl) hw;refine (contract (w.forCall tape i) w.heap.size i.args ds gs before hval hw' (hz.weights hw) (hX _ _ _ (by rfl) hx) hsh).mono fun e W' ⟨v,he,hp⟩=>?_
 subst he;exact ChangeSpec.post_blind hp
theorem bt {a b:Bool} (h:a=true) (k:b=true):(a && b)=true:=by rw [h,k];rfl
theorem zmd:(mapsRowed Tryz.prog)=true:=by kernel_rfl
theorem zjG:(Tryz.prog.stops==[])=true:=by kernel_rfl
theorem zkb:(Tryz.prog.stopKnobs==[])=true:=by kernel_rfl
theorem zko:(Rows.scriptLimitsRow.plainKeys==Tryz.prog.plainKeys)=true:=by kernel_rfl
theorem zjN:(Tryz.prog.stopsHeard)=true:=by kernel_rfl
theorem zjr:(Tryz.prog.mayEnter)=true:=by kernel_rfl
theorem zjd:(Rows.scriptLimitsRow.lifted==Tryz.prog.liftsFinal)=true:=by kernel_rfl
theorem zl5:(Tryz.prog.make==some Rows.scriptLimitsRow.make)=true:=by kernel_rfl
theorem zl0 : Tryz.prog.mainIs = some (true, ("4cf7673d7f0824c597bc1be1c6424031f8cc8997be29c3c5e4c9ab354cc86b93" : String).toList) := by kernel_rfl
theorem zjt:true=Tryz.prog.looks []:=by kernel_rfl
open Go.RowKit Cdk Scr
structure AcSz (a:Ac):Prop where
 fc:FcSz a.fc
 tx:a.tx.length<=4611686018427387904
 da:a.ms.da.length<=4611686018427387904
open Go.Shelf Go.RowKit Cdk Scr
theorem OkFc.sz {f:Fc} (h:OkFc f):FcSz f:=by
 have e:∀ s:Bs,Len s -> maxS s:=fun s h=>by unfold maxS;have:=h;omega
 exact ⟨e _ h.lg,e _ h.ti,e _ h.au,e _ h.tx,e _ h.nm,fun s hs=>e _ (h.tp s hs),fun b hb=>e _ (h.bl b hb).tx⟩
theorem OkAc.sz {a:Ac} (h:OkAc a):AcSz a:=⟨h.fc.sz,by have:=h.tx;omega,by have:=h.ms.da;omega⟩
end Go.Proofs.YtjjfphalcibjfaaGreatDoor
