import Derived.Test.YtjjfphalcibjfaaGreatDoorA3
import Derived.Laws.EntriesVeiled
set_option maxRecDepth 100000
set_option maxHeartbeats 16000000
namespace Cdk
open Go Go.RowKit
section
variable {K:Type} [DecidableEq K] {P:Program} {kt:TypeId} {mk:K -> Value} {ops:Array Oper} {rest:List Oper} {o:Oper} {a:Act} {Q:Exit -> Act -> World -> Prop} {w:World} {mb:Nat} {d:List (K × Value)}
theorem zdR (hg:o.guard=none) (m x v:Operand) (t e:TypeId) (hop:o.op=Op.insert t m x v) (ok:KeyOk P kt mk) (ht:P.underlying t=some (.map kt e))
  (h:MapAt w mk mb d) (k:K) (val:Value) (hm:a.eval m=.map (some mb)) (hx:a.eval x=mk k) (hv:a.eval v=val)
  (hK:∀ w',Hid (MapAt w' mk mb (upd d k val)/\Mod (Eq mb) w w'/\w'.heap.size=w.heap.size) -> wpList P ops Q rest (a.put o.dst undef) w'):wpList P ops Q (o::rest) a w:=by
 refine wpList_plain hg fun K' hK'=>?_
 obtain ⟨w',hrun,r1,r2,r3⟩:=zjb ok ht h k val;unfold Oper.wp;simp [execOp,hop,hm,hx,hv,hrun,Result.andThen];exact hK' _ _ (hK w' ⟨r1,r2,r3⟩)
end
end Cdk
namespace Go.Proofs.YtjjfphalcibjfaaGreatDoor
open Go.RowKit Cdk Scr
abbrev fnV (f:Nat):Value:=.func (.func f) #[] #[]
def ziu (t:Nat) (q:Bool) (l:Nat):Value:=.agg #[fnV t,.bool q,fnV l]
def zhz:List (Int × Value):=[(1,ziu 223 false 225),(2,ziu 223 false 226),(3,ziu 224 true 228),(4,ziu 223 false 229),(5,ziu 230 false 231)]
abbrev zew (w:World) (m:Nat):Prop:=MapAt w (Value.int .i64) m zhz
theorem zk7 (w:World):Calls Tryz.prog 202 #[] w fun e w'=>e=.returned (.map (some w.heap.size))/\zew w' w.heap.size/\Ext w w':=by
 have hmm:=@run_makeMap Tryz.prog;have h0:Hid (MapAt (w.alloc (.map #[] 0)) (Value.int .i64) w.heap.size ([]:List (Int × Value))/\Mod (Eq w.heap.size) w (w.alloc (.map #[] 0))/\(w.alloc (.map #[] 0)).heap.size=w.heap.size+1):=Y ⟨MapAt.made w _,(Mod.refl _ w).alloc _,World.size_alloc _ _⟩;go_enter Tryz.func202,Tryz.ntmps202
 go_wp2_with (first
  | (refine zdR rfl _ _ _ 173 206 rfl (zd3 Tryz.underlying3) Tryz.underlying173 H3.o.1 _ _ rfl rfl rfl (fun w3 H4=>?_);replace H3:=Y (⟨H4.o.1,H3.o.2.1.trans H4.o.2.1,H4.o.2.2.trans H3.o.2.2⟩:_/\_/\_);clear H4)
  | (refine zdR rfl _ _ _ 173 206 rfl (zd3 Tryz.underlying3) Tryz.underlying173 h0.o.1 _ _ rfl rfl rfl (fun w3 H4=>?_);have H3:=Y (⟨H4.o.1,h0.o.2.1.trans H4.o.2.1,H4.o.2.2.trans h0.o.2.2⟩:_/\_/\_);clear H4))
 go_ret;exact ⟨rfl,H3.o.1,H3.o.2.1.mono' (fun k hk e=>by omega)⟩
theorem zeI (s:Bs):(⟨s.toArray⟩:ByteArray).data.toList=s:=rfl
theorem zeq (s:ByteArray) (w:World):Calls Tryz.prog 223 #[.string s] w fun e w'=>e=.returned (.bool (zdL s.data.toList))/\w=w':=by
 have hr:Hid (zdL s.data.toList=(decide (1<=s.size) && zcF s.data.toList)):=Y (by unfold zdL;rw [<- zaN]);have hT:=Y (zf0 s w);rw [hr.o];clear hr;generalize zcF s.data.toList=b at hT ⊢
 by_cases h:s.size=0
 ·obtain ⟨⟨⟨l⟩⟩⟩:Nonempty (Subtype fun x:ByteArray=>x=s):=⟨⟨s,rfl⟩⟩
  have hs:s=.empty:=by
   obtain ⟨⟨l⟩⟩:=s;cases l with
   | nil=>rfl
   | cons x l=>simp [ByteArray.size] at h
  subst hs;clear h;go_enter Tryz.func223,Tryz.ntmps223;go_wp2_with fail
  go_ret;exact ⟨rfl,rfl⟩
 ·have hs:decide (1<=s.size)=true:=decide_eq_true (by omega)
  rw [hs,Bool.true_and];have he:(s==ByteArray.empty)=false:=by
   rw [beq_eq_false_iff_ne];rintro rfl;exact h rfl
  have he2:s.toList.isEmpty=false:=by
   rw [Go.ByteArray.toList_eq];cases hl:s.data.toList with
   | nil=>rw [zaN,hl] at h;exact absurd rfl h
   | cons x l=>rfl
  clear hs;replace h:=Y h;go_enter Tryz.func223,Tryz.ntmps223;go_wp2_with fail
  refine hT.o.mono ?_;rintro e w' ⟨rfl,rfl⟩;go_wp2_with fail
  go_ret;exact ⟨rfl,rfl⟩
theorem zh2 (w:World):(zeroValue 206).run Tryz.prog w=.ok (.agg #[.nilFunc,.bool false,.nilFunc]) w:=by kernel_rfl
theorem ziV (k:Int) (h1:k ≠ 1) (h2:k ≠ 2) (h3:k ≠ 3) (h4:k ≠ 4) (h5:k ≠ 5):zcY zhz k=none:=by
 simp [zcY,zhz,Ne.symm h1,Ne.symm h2,Ne.symm h3,Ne.symm h4,Ne.symm h5]
def bkV (ao:Option Addr) (n c:Nat) (b:Bk):Value:=.agg #[.int .i64 b.id,.int .i64 b.kd,.string ⟨b.tx.toArray⟩,.int .i64 b.st,.int .i64 b.rf,.int .i64 b.lb.til,.slice ao n c,.int .i64 b.lb.app,.int .i64 b.lb.den]
theorem zkq (m:Nat) (ao:Option Addr) (n c:Nat) (b:Bk) (w:World) (hm:zew w m) (hk:zcY zhz b.kd=none):
  Calls Tryz.prog 203 #[bkV ao n c b,.map (some m)] w fun e w'=>e=.returned (.bool false)/\Ext w w':=by
 obtain ⟨i,k,x,s,r,til,aft,app,den⟩:=b;simp only at hk;have hx:=Mod.alloc (Mod.refl (fun _=>False) w) (.cells #[.int .i64 i,.int .i64 k,.string ⟨x.toArray⟩,.int .i64 s,.int .i64 r,.int .i64 til,.slice ao n c,.int .i64 app,.int .i64 den] 118);have hlk:=zfq (P:=Tryz.prog) (t:=173) (zd3 Tryz.underlying3) Tryz.underlying173 (hm.mod hx id) k (zh2 _) true;rw [hk] at hlk;simp only [if_true,Option.getD_none,Option.isSome_none] at hlk;have hxx:=Y (hx.alloc (.cells #[.nilFunc,.bool false,.nilFunc] 206));replace hx:=Y hx;replace hm:=Y hm;clear hk;unfold bkV;go_enter Tryz.func203,Tryz.ntmps203;go_wp2_with fail
 go_ret;exact ⟨rfl,hxx.o⟩
theorem zcy {F:Nat -> Prop} (m:Nat) (ao:Option Addr) (n c:Nat) (b:Bk) (w:World) (hm:zew w m) (ft fl:Nat) (q tb:Bool) (hk:zcY zhz b.kd=some (ziu ft q fl)) (hI:zaF F w (.slice ao n c) b.lb.aft)
  (he:∀ args w,(callFunc ft args).run Tryz.prog w=.ok (.enter ft args) w) (hT:∀ W,Calls Tryz.prog ft #[.string ⟨b.tx.toArray⟩] W fun e w'=>e=.returned (.bool tb)/\W=w'):
  Calls Tryz.prog 203 #[bkV ao n c b,.map (some m)] w fun e w'=>e=.returned (.bool (rng b.id 1 1000 && (vLb b.lb && (tb && (if q then rng b.st 1 64 && rng b.rf 1 1000 else decide (b.st=0) && decide (b.rf=0))))))/\Ext w w':=by
 obtain ⟨post,hpost⟩:∃ post:Ending -> World -> Prop,post=fun e w'=>e=.returned (.bool (rng b.id 1 1000 && (vLb b.lb && (tb && (if q then rng b.st 1 64 && rng b.rf 1 1000 else decide (b.st=0) && decide (b.rf=0))))))/\Ext w w':=⟨_,rfl⟩
 rw [<- hpost];obtain ⟨i,k,x,s,r,lb⟩:=b;simp only at hk hI hT hpost;have hL:=fun W (hX:Ext w W)=>zcn (F:=F) (.slice ao n c) lb W (hI.ext hX)
 obtain ⟨til,aft,app,den⟩:=lb;generalize vLb ⟨til,aft,app,den⟩=vl at hL hpost;replace hpost:=Y hpost;have hx:=Mod.alloc (Mod.refl (fun _=>False) w) (.cells #[.int .i64 i,.int .i64 k,.string ⟨x.toArray⟩,.int .i64 s,.int .i64 r,.int .i64 til,.slice ao n c,.int .i64 app,.int .i64 den] 118);have hlk:=zfq (P:=Tryz.prog) (t:=173) (zd3 Tryz.underlying3) Tryz.underlying173 (hm.mod hx id) k (zh2 _) true;rw [hk] at hlk;simp only [if_true,Option.getD_some,Option.isSome_some,ziu] at hlk;obtain ⟨hB1,hB2,hB3,hB4⟩:=zaV w #[.int .i64 i,.int .i64 k,.string ⟨x.toArray⟩,.int .i64 s,.int .i64 r,.int .i64 til,.slice ao n c,.int .i64 app,.int .i64 den] #[fnV ft,.bool q,fnV fl] 118 206;have hLL:=Y (hL _ hB1);unfold lbC at hLL;simp only at hLL;have hAt:=Y (fun w2 (hX:Ext ((w.alloc (.cells #[.int .i64 i,.int .i64 k,.string ⟨x.toArray⟩,.int .i64 s,.int .i64 r,.int .i64 til,.slice ao n c,.int .i64 app,.int .i64 den] 118)).alloc (.cells #[fnV ft,.bool q,fnV fl] 206)) w2)=>(⟨hX.at hB2 id,hX.at hB3 id⟩:_/\_));have hxx:=Y hB1;clear hB1 hB2 hB3 hB4 hx hL hI hk;replace hm:=Y hm;replace hT:=Y hT;unfold bkV;simp only
 by_cases g1:i < 1
 ·have hi:Hid (rng i 1 1000=false):=Y (by unfold rng;simp;omega)
  go_enter Tryz.func203,Tryz.ntmps203;go_wp2_with fail
  rw [hpost.o];exact ⟨by rw [hi.o];rfl,hxx.o⟩
 by_cases g2:1000 < i
 ·have hi:Hid (rng i 1 1000=false):=Y (by unfold rng;simp;omega)
  go_enter Tryz.func203,Tryz.ntmps203;go_wp2_with fail
  rw [hpost.o];exact ⟨by rw [hi.o];rfl,hxx.o⟩
 have hi:Hid (rng i 1 1000=true):=Y (zam.2 (by omega));go_enter Tryz.func203,Tryz.ntmps203;go_wp2_with fail
 refine hLL.o.mono ?_;rintro e w2 ⟨rfl,hx2⟩;obtain ⟨k1,k2⟩:=hAt.o w2 hx2;replace hx2:=Y (hxx.o.trans hx2);have p0:=cS k2 0;have p1:=cS k2 1;have p2:=cS k1 2;have p3:=cS k1 3;have p4:=cS k1 4;clear hLL hAt hlk k1 k2;generalize w.heap.size=R at p0 p1 p2 p3 p4 ⊢;cases vl with
 | false=>
  go_wp2_with fail
  rw [hpost.o];exact ⟨by simp,hx2.o⟩
 | true=>
  go_wp2_with fail
  refine (hT.o w2).mono ?_;rintro e w3 ⟨rfl,rfl⟩;cases tb with
  | false=>
   go_wp2_with fail
   rw [hpost.o];exact ⟨by simp,hx2.o⟩
  | true=>
   have c1:=zaj s 0;have c2:=zaj r 0;cases q with
   | false=>
    generalize decide (s=0)=d1 at c1 hpost;generalize decide (r=0)=d2 at c2 hpost;go_wp2_with fail
    all_goals
     rw [hpost.o];exact ⟨by rw [hi.o];simp [*],hx2.o⟩
   | true=>
    clear c1 c2;go_wp2_with fail
    all_goals
     rw [hpost.o];exact ⟨by rw [hi.o];first | (simp [rng, *];done) | (simp [rng, *];omega),hx2.o⟩
theorem ziq {F:Nat -> Prop} (m:Nat) (ao:Option Addr) (n c:Nat) (b:Bk) (w:World) (hm:zew w m) (hI:zaF F w (.slice ao n c) b.lb.aft):
  Calls Tryz.prog 203 #[bkV ao n c b,.map (some m)] w fun e w'=>e=.returned (.bool (vBk b))/\Ext w w':=by
 have e223:=enters_of Tryz.func223 (by kernel_rfl) rfl;have e224:=enters_of Tryz.func224 (by kernel_rfl) rfl;have e230:=enters_of Tryz.func230 (by kernel_rfl) rfl
 by_cases h1:b.kd=1
 ·refine (zcy m ao n c b w hm 223 225 false _ (by rw [h1];rfl) hI e223 (fun W=>zeq _ W)).mono ?_
  rintro e w' ⟨rfl,hx⟩;exact ⟨by unfold vBk;rw [if_pos (Or.inl h1)];rfl,hx⟩
 by_cases h2:b.kd=2
 ·refine (zcy m ao n c b w hm 223 226 false _ (by rw [h2];rfl) hI e223 (fun W=>zeq _ W)).mono ?_
  rintro e w' ⟨rfl,hx⟩;exact ⟨by unfold vBk;rw [if_pos (Or.inr (Or.inl h2))];rfl,hx⟩
 by_cases h4:b.kd=4
 ·refine (zcy m ao n c b w hm 223 229 false _ (by rw [h4];rfl) hI e223 (fun W=>zeq _ W)).mono ?_
  rintro e w' ⟨rfl,hx⟩;exact ⟨by unfold vBk;rw [if_pos (Or.inr (Or.inr h4))];rfl,hx⟩
 by_cases h3:b.kd=3
 ·refine (zcy m ao n c b w hm 224 228 true _ (by rw [h3];rfl) hI e224 (fun W=>zf0 _ W)).mono ?_
  rintro e w' ⟨rfl,hx⟩;exact ⟨by unfold vBk;rw [if_neg (show ¬ (b.kd=1 \/ b.kd=2 \/ b.kd=4) by omega),if_pos h3];rfl,hx⟩
 by_cases h5:b.kd=5
 ·refine (zcy m ao n c b w hm 230 231 false _ (by rw [h5];rfl) hI e230 (fun W=>zj4 _ W)).mono ?_
  rintro e w' ⟨rfl,hx⟩;exact ⟨by unfold vBk;rw [if_neg (show ¬ (b.kd=1 \/ b.kd=2 \/ b.kd=4) by omega),if_neg h3,if_pos h5];rfl,hx⟩
 ·refine (zkq m ao n c b w hm (ziV _ h1 h2 h3 h4 h5)).mono ?_
  rintro e w' ⟨rfl,hx⟩;exact ⟨by unfold vBk;rw [if_neg (show ¬ (b.kd=1 \/ b.kd=2 \/ b.kd=4) by omega),if_neg h3,if_neg h5];simp,hx⟩
theorem zoP {α:Type} {F:Nat -> Prop} {w:World} {f:α -> List Value} {ao:Option Addr} {n cap:Nat} {l:List α} (h:zac F w f (.slice ao n cap) l):n<=cap:=by
 obtain ⟨a,c,e,-,-,h1,-⟩:=h;injection e with e1 e2 e3
 omega
theorem znn {F:Nat -> Prop} {w:World} {ao:Option Addr} {n cap:Nat} {l:List Bk} (h:zaE F w (.slice ao n cap) l):n<=cap:=by
 obtain ⟨r,-,h1,-⟩:=h;exact zoP h1
theorem zjy {l:List Bk} {j k:Nat} {p:Bk -> Bool} (hk:k < j) (hj:j<=l.length):((l.take j).drop k).all p=(p (l[k]'(by omega)) && ((l.take j).drop (k+1)).all p):=by
 have h:k < (l.take j).length:=by rw [List.length_take];omega
 rw [List.drop_eq_getElem_cons h,List.all_cons,List.getElem_take]
theorem zb4 {F:Nat -> Prop} (v:Value) (l:List Bk) (w:World) (h:zaE F w v l):
  Calls Tryz.prog 168 #[v] w fun e w'=>e=.returned (.bool (zec l))/\Ext w w':=by
 obtain ⟨r,hr⟩:∃ r,r=zec l:=⟨_,rfl⟩;rw [<- hr];unfold zec at hr;obtain ⟨ao,cap,rfl⟩:=h.slice;have hcap:=znn h;obtain ⟨n,hn⟩:∃ n,n=l.length:=⟨_,rfl⟩;rw [<- hn] at h hcap hr ⊢;replace hn:=Y hn;replace h:=Y h
 by_cases hl:n<=24
 rotate_left
 ·have hq:(24:Int) < (n:Int):=by omega
  rw [decide_eq_false hl,Bool.false_and] at hr;replace hr:=Y hr;go_enter Tryz.func168,Tryz.ntmps168;go_wp2_with fail
  go_ret;exact ⟨by rw [hr.o];rfl,Mod.refl _ _⟩
 have hq:¬ (24:Int) < (n:Int):=by omega
 rw [decide_eq_true hl,Bool.true_and] at hr;replace hr:=Y hr;have hR:=Y (zk7 w);go_enter Tryz.func168,Tryz.ntmps168;go_wp2_with fail
 refine hR.o.mono ?_;rintro e w1 ⟨rfl,hm1,hx1⟩;clear hR;generalize w.heap.size=M at hm1 ⊢;replace hm1:=Y hm1;replace hx1:=Y hx1;go_wp2_with fail
 go_loopg [14] n (fun g i wr=>∃ j:Nat,j+g=n/\i=.int .i64 j/\Ext w wr/\zew wr M/\r=zeR (l.take j) (l.drop j))
 case atStart=>exact ⟨0,by omega,rfl,hx1.o,hm1.o,hr.o⟩
 case round=>
  clear hr hm1 hx1;obtain ⟨j,hj,rfl,hx,hm,hrj⟩:=hrel;replace hj:=Y hj
  by_cases hlt:j < n
  rotate_left
  ·have hdi:¬ (j:Int) < (n:Int):=by omega
   have hd:decide ((j:Int) < (n:Int))=false:=decide_eq_false hdi;rw [List.drop_eq_nil_of_le (by have:=hn.o;omega)] at hrj;replace hrj:=Y hrj;replace hx:=Y hx;replace hm:=Y hm;go_wp2_with fail
   go_ret;exact ⟨by rw [hrj.o];rfl,hx.o⟩
  ·have hdi:(j:Int) < (n:Int):=by omega
   have hd:decide ((j:Int) < (n:Int))=true:=decide_eq_true hdi;have hjl:j < l.length:=by have:=hn.o;omega
   obtain ⟨b1,o1,a1,m1,c1,rfl,-,hF1,hI1,g0,g1,g2,g3,g4,g5,g6,g7,g8⟩:=(h.o.ext hx).cells hjl
   have hrest:Hid (∀ bb,bb=l[j] -> r=(vBk bb && ((l.take j).all (fun x=>!decide (x.id=bb.id)) && zeR (l.take (j+1)) (l.drop (j+1))))):=Y (fun bb e=>by
    rw [hrj,List.drop_eq_getElem_cons hjl,e];simp only [zeR]
    rw [List.take_succ_eq_append_getElem hjl])
   clear hrj;have hfol:=fun W (hX:Ext wr W)=>ziq (F:=F) M a1 m1 c1 l[j] W (hm.mod hX id) (hI1.ext hX)
   obtain ⟨bb,hbb⟩:∃ bb,bb=l[j]:=⟨_,rfl⟩;rw [<- hbb] at g0 g1 g2 g3 g4 g5 g7 g8 hfol;have hrest:=Y (hrest.o bb hbb);clear hI1 hF1;replace hbb:=Y hbb;obtain ⟨i1,k1,x1,s1,r1,t1,y1,p1,q1⟩:=bb;simp only at g0 g1 g2 g3 g4 g5 g6 g7 g8;have hB:=zaV wr #[.int .i64 i1,.int .i64 k1,.string ⟨x1.toArray⟩,.int .i64 s1,.int .i64 r1,.int .i64 t1,.slice a1 m1 c1,.int .i64 p1,.int .i64 q1] #[] 118 0;have hxa:=Mod.alloc (Mod.refl (fun _=>False) wr) (.cells #[.int .i64 i1,.int .i64 k1,.string ⟨x1.toArray⟩,.int .i64 s1,.int .i64 r1,.int .i64 t1,.slice a1 m1 c1,.int .i64 p1,.int .i64 q1] 118);have hfol:=Y (hfol _ hxa);unfold bkV at hfol;have hbx:=heap_alloc_new wr (.cells #[.int .i64 i1,.int .i64 k1,.string ⟨x1.toArray⟩,.int .i64 s1,.int .i64 r1,.int .i64 t1,.slice a1 m1 c1,.int .i64 p1,.int .i64 q1] 118);replace hxa:=Y hxa;replace hbx:=Y hbx;replace hm:=Y hm;replace hx:=Y hx;clear hB;go_wp2_with fail
   refine hfol.o.mono ?_;rintro e w2 ⟨rfl,hx2⟩;clear hfol g0 g1 g2 g3 g4 g5 g6 g7 g8;have hbx2:=Y (hx2.at hbx.o id);have hx2:=Y (hxa.o.trans hx2);have hm2:=Y (hm.o.mod hx2.o id);have hx2:=Y (hx.o.trans hx2.o);clear hx hm hxa hbx;generalize wr.heap.size=R at hbx2 ⊢;generalize vBk ⟨i1,k1,x1,s1,r1,t1,y1,p1,q1⟩=vb at hrest ⊢;have hjc:(j:Int)<=(cap:Int):=by omega
   cases vb with
   | false=>
    go_wp2_with fail
    go_ret;exact ⟨by rw [hrest.o];rfl,hx2.o⟩
   | true=>
    go_wp2_with fail
    obtain ⟨J,rfl⟩:∃ J,J=j:=⟨_,rfl⟩;obtain ⟨G,rfl⟩:∃ G,G=gk:=⟨_,rfl⟩;obtain ⟨rest,hrs⟩:∃ rest,rest=zeR (l.take (J+1)) (l.drop (J+1)):=⟨_,rfl⟩;rw [<- hrs] at hrest;replace hrs:=Y hrs;go_loopg [27] J (fun g i wi=>∃ k:Nat,k+g=J/\i=.int .i64 k/\Ext w wi/\zew wi M/\wi.heap[R]?=some (.cells #[.int .i64 i1,.int .i64 k1,.string ⟨x1.toArray⟩,.int .i64 s1,.int .i64 r1,.int .i64 t1,.slice a1 m1 c1,.int .i64 p1,.int .i64 q1] 118 (0,0))/\r=(((l.take J).drop k).all (fun x=>!decide (x.id=i1)) && rest))
    case atStart=>exact ⟨0,by omega,rfl,hx2.o,hm2.o,hbx2.o,hrest.o⟩
    case round=>
     obtain ⟨wi,rfl⟩:∃ wi:World,wi=wr:=⟨_,rfl⟩;clear hrest hx2 hm2 hbx2;obtain ⟨k,hk,rfl,hx,hm,hbx,hrk⟩:=hrel;replace hk:=Y hk
     by_cases hlk:k < J
     ·have hdk:(k:Int) < (J:Int):=by omega
      have hdd:decide ((k:Int) < (J:Int))=true:=decide_eq_true hdk;have hkl:k < l.length:=by omega
      obtain ⟨b2,o2,a2,m2,c2,e2,-,-,-,f0,f1,f2,f3,f4,f5,f6,f7,f8⟩:=(h.o.ext hx).cells hkl;injection e2 with e2;injection e2 with e2 e3 _
      subst e2;subst e3;rw [zjy hlk (Nat.le_of_lt hjl)] at hrk;have up2:∀ {o:Nat} {v:Value},wi.cell? ⟨b1,o,none⟩=some v -> ∀ ob,(wi.alloc ob).cell? ⟨b1,o,none⟩=some v:=fun h ob=>(Mod.alloc (Mod.refl (fun _=>False) wi) ob).cell h id
      have c0:∀ ob,(wi.alloc ob).cell? ⟨R,0,none⟩=some (.int .i64 i1):=fun ob=>(Mod.alloc (Mod.refl (fun _=>False) wi) ob).cell (zaa hbx 0) id
      obtain ⟨z,hz⟩:∃ z,z=l[k]:=⟨_,rfl⟩;rw [<- hz] at f0 f1 f2 f3 f4 f5 f7 f8 hrk;clear hz up2;have hc:=zaj z.id i1;have hxa:=Y (hx.alloc (.cells #[.int .i64 z.id,.int .i64 z.kd,.string ⟨z.tx.toArray⟩,.int .i64 z.st,.int .i64 z.rf,.int .i64 z.lb.til,.slice a2 m2 c2,.int .i64 z.lb.app,.int .i64 z.lb.den] 118));have hma:=Y (hm.mod (Mod.alloc (Mod.refl (fun _=>False) wi) (.cells #[.int .i64 z.id,.int .i64 z.kd,.string ⟨z.tx.toArray⟩,.int .i64 z.st,.int .i64 z.rf,.int .i64 z.lb.til,.slice a2 m2 c2,.int .i64 z.lb.app,.int .i64 z.lb.den] 118)) id);have hba:=Y ((Mod.alloc (Mod.refl (fun _=>False) wi) (.cells #[.int .i64 z.id,.int .i64 z.kd,.string ⟨z.tx.toArray⟩,.int .i64 z.st,.int .i64 z.rf,.int .i64 z.lb.til,.slice a2 m2 c2,.int .i64 z.lb.app,.int .i64 z.lb.den] 118)).at hbx id);generalize decide (z.id=i1)=q at hc hrk;replace hrk:=Y hrk;replace hx:=Y hx;replace hm:=Y hm;replace hbx:=Y hbx;cases q with
      | true=>
       go_wp2_with fail
       go_ret;exact ⟨by rw [hrk.o];rfl,hxa.o⟩
      | false=>
       go_wp2_with fail
       go_roundg (gk - 1)
       case measure=>have:=hk.o;omega
       case rel=>exact ⟨k+1,by have:=hk.o;omega,by go_num,hxa.o,hma.o,hba.o,by rw [hrk.o];rfl⟩
     ·obtain rfl:k=J:=by have:=hk.o;omega
      have hdk:¬ (k:Int) < (k:Int):=by omega
      rw [List.drop_eq_nil_of_le (by rw [List.length_take];omega)] at hrk;replace hrk:=Y hrk;replace hx:=Y hx;replace hm:=Y hm;replace hbx:=Y hbx;go_wp2_with fail
      go_roundg (G - 1)
      case measure=>have:=hj.o;omega
      case rel=>exact ⟨k+1,by have:=hj.o;omega,by go_num,hx.o,hm.o,by rw [hrk.o];exact hrs.o⟩
theorem zaT (n a b:Int) (w:World):Calls Tryz.prog 53 #[.int .i64 n,.int .i64 a,.int .i64 b] w fun e w'=>e=.returned (.bool (rng n a b))/\w=w':=by
 obtain ⟨r,hr⟩:∃ r,r=rng n a b:=⟨_,rfl⟩;rw [<- hr];unfold rng at hr
 by_cases h1:a<=n <;> by_cases h2:n<=b
 all_goals
  replace hr:=Y hr;go_enter Tryz.func53,Tryz.ntmps53;go_wp2;go_ret;exact ⟨by rw [hr.o];simp [*],rfl⟩
theorem zbo (n a b:Int) (w:World):Calls Tryz.prog 29 #[.int .i64 n,.int .i64 a,.int .i64 b] w fun e w'=>e=.returned (.bool (rng n a b))/\w=w':=by
 obtain ⟨r,hr⟩:∃ r,r=rng n a b:=⟨_,rfl⟩;rw [<- hr];unfold rng at hr
 by_cases h1:a<=n <;> by_cases h2:n<=b
 all_goals
  replace hr:=Y hr;go_enter Tryz.func29,Tryz.ntmps29;go_wp2;go_ret;exact ⟨by rw [hr.o];simp [*],rfl⟩
theorem zgo (c:UInt8) (w:World):Calls Tryz.prog 171 #[.int .u8 c.toNat] w fun e w'=>e=.returned (.bool (zdK c))/\w=w':=by
 have e1:Hid (zdK c=(decide (32<=c.toNat) && decide (c.toNat<=126))):=Y rfl;generalize zdK c=r at e1 ⊢;generalize c.toNat=n at e1 ⊢
 by_cases h1:(32:Int)<=(n:Int) <;> by_cases h2:(n:Int)<=126
 all_goals
  go_enter Tryz.func171,Tryz.ntmps171;go_wp2;go_ret;refine ⟨?_,rfl⟩;rw [e1.o];congr 2;simp only
  first | omega | (simp;omega)
theorem zjT (c:UInt8) (w:World):Calls Tryz.prog 172 #[.int .u8 c.toNat] w fun e w'=>e=.returned (.bool (zd8 c))/\w=w':=by
 have hc:=Y (znm c);generalize zd8 c=r at hc ⊢;generalize c.toNat=n at hc ⊢
 by_cases h1:(97:Int)<=(n:Int) <;> by_cases h2:(n:Int)<=122 <;> by_cases h3:(48:Int)<=(n:Int) <;> by_cases h4:(n:Int)<=57 <;> cases h5:((n:Int)==45)
 all_goals
  have h5':=h5;simp only [beq_iff_eq,beq_eq_false_iff_ne,ne_eq] at h5';replace h5':=Y h5'
 all_goals try (exfalso;have:=h5'.o;omega)
 all_goals
  go_enter Tryz.func172,Tryz.ntmps172;go_wp2;go_ret;refine ⟨?_,rfl⟩;rw [hc.o];congr 2;have:=h5'.o;simp;omega
theorem zhp (c:UInt8) (w:World):Calls Tryz.prog 173 #[.int .u8 c.toNat] w fun e w'=>e=.returned (.bool (zhk c))/\w=w':=by
 have hc:Hid (zhk c=(decide (c.toNat=10) || zdK c)):=Y rfl;have hp:=Y (zgo c w);generalize zhk c=r at hc ⊢;generalize zdK c=p at hc hp;cases h5:((c.toNat:Int)==10)
 ·have h5':=h5
  simp only [beq_eq_false_iff_ne,ne_eq] at h5';replace h5':=Y h5';go_enter Tryz.func173,Tryz.ntmps173;go_wp2_with fail
  refine hp.o.mono ?_;rintro e w' ⟨rfl,rfl⟩;go_wp2_with fail
  go_ret;refine ⟨?_,rfl⟩;rw [hc.o,decide_eq_false (show ¬ c.toNat=10 by have:=h5'.o;omega)]
  rfl
 ·have h5':=h5
  simp only [beq_iff_eq] at h5';replace h5':=Y h5';go_enter Tryz.func173,Tryz.ntmps173;go_wp2_with fail
  go_ret;refine ⟨?_,rfl⟩;rw [hc.o,decide_eq_true (show c.toNat=10 by have:=h5'.o;omega)]
  rfl
theorem zc4 (s:ByteArray) (a b:Nat) (fp:Nat) (p:UInt8 -> Bool) (hb:b<=100000) (he:∀ args w,(callFunc fp args).run Tryz.prog w=.ok (.enter fp args) w)
  (hp:∀ (c:UInt8) (w:World),Calls Tryz.prog fp #[.int .u8 c.toNat] w fun e w'=>e=.returned (.bool (p c))/\w=w') (w:World):
  Calls Tryz.prog 170 #[.string s,.int .i64 a,.int .i64 b,fnV fp] w fun e w'=>e=.returned (.bool (decide (a<=s.data.toList.length) && (decide (s.data.toList.length<=b) && s.data.toList.all p)))/\w=w':=by
 obtain ⟨r,hr⟩:∃ r,r=(decide (a<=s.data.toList.length) && (decide (s.data.toList.length<=b) && s.data.toList.all p)):=⟨_,rfl⟩;rw [<- hr];rw [<- zaN] at hr;have hw:=Y (zaT s.size a b w);have hrg:rng s.size a b=(decide (a<=s.size) && decide (s.size<=b)):=by unfold rng;rw [Bool.eq_iff_iff];simp
 rw [<- Bool.and_assoc,<- hrg] at hr;clear hrg;replace hp:=Y hp;cases hrg:rng (s.size:Int) a b with
 | false=>
  rw [hrg] at hw hr;replace hr:=Y hr;clear hrg;go_enter Tryz.func170,Tryz.ntmps170;go_wp2_with fail
  refine hw.o.mono ?_;rintro e w' ⟨rfl,rfl⟩;go_wp2_with fail
  go_ret;exact ⟨by rw [hr.o];rfl,rfl⟩
 | true=>
  have hsz:=(zam.1 hrg).2;rw [hrg] at hw hr;rw [Bool.true_and] at hr;replace hr:=Y hr;have hss:s.size<=100000:=by omega
  clear hrg hsz;go_enter Tryz.func170,Tryz.ntmps170;go_wp2_with fail
  refine hw.o.mono ?_;rintro e w' ⟨rfl,rfl⟩;clear hw;go_wp2_with fail
  go_loopg [9] s.size (fun g i wr=>∃ j:Nat,j+g=s.size/\i=.int .i64 j/\wr=w/\r=(s.data.toList.drop j).all p)
  case atStart=>exact ⟨0,by omega,rfl,rfl,hr.o⟩
  case round=>
   obtain ⟨j,hj,rfl,rfl,hrj⟩:=hrel;replace hj:=Y hj
   by_cases hlt:j < s.size
   ·rw [zcS s p hlt] at hrj
    have hc:=hp.o s[j] wr;generalize hrest:(s.data.toList.drop (j+1)).all p=rest at hrj;generalize p s[j]=pb at hc hrj;replace hrj:=Y hrj;replace hrest:=Y hrest;replace hc:=Y hc;go_wp2_with fail
    refine hc.o.mono ?_;rintro e w' ⟨rfl,rfl⟩;cases pb with
    | false=>
     go_wp2_with fail
     go_ret;exact ⟨by rw [hrj.o];rfl,rfl⟩
    | true=>
     go_wp2_with fail
     go_roundg (gk - 1)
     case measure=>have:=hj.o;omega
     case rel=>exact ⟨j+1,by have:=hj.o;omega,by go_num,rfl,by rw [hrj.o,Bool.true_and];exact hrest.o.symm⟩
   ·obtain rfl:j=s.size:=by have:=hj.o;omega
    rw [List.drop_eq_nil_of_le (by rw [<- zaN];exact Nat.le_refl _)] at hrj;replace hrj:=Y hrj;go_wp2_with fail
    go_ret;exact ⟨by rw [hrj.o];rfl,rfl⟩
theorem zde (s:ByteArray) (w:World):Calls Tryz.prog 92 #[.string s] w fun e w'=>e=.returned (.bool (zbT s.data.toList))/\w=w':=by
 have h:=Y (zc4 s 1 20 172 zd8 (by decide) (enters_of Tryz.func172 (by kernel_rfl) rfl) zjT w);have hr:Hid (zbT s.data.toList=(decide (1<=s.data.toList.length) && (decide (s.data.toList.length<=20) && s.data.toList.all zd8))):=Y rfl;rw [hr.o];clear hr;generalize (decide (1<=s.data.toList.length) && (decide (s.data.toList.length<=20) && s.data.toList.all zd8))=r at h ⊢;go_enter Tryz.func92,Tryz.ntmps92;go_wp2_with fail
 refine h.o.mono ?_;rintro e w' ⟨rfl,rfl⟩;go_wp2_with fail
 go_ret;exact ⟨rfl,rfl⟩
theorem zfC (s:ByteArray) (w:World):Calls Tryz.prog 91 #[.string s] w fun e w'=>e=.returned (.bool (zdL s.data.toList))/\w=w':=by
 have h:=Y (zc4 s 1 300 171 zdK (by decide) (enters_of Tryz.func171 (by kernel_rfl) rfl) zgo w);have hr:Hid (zdL s.data.toList=(decide (1<=s.data.toList.length) && (decide (s.data.toList.length<=300) && s.data.toList.all zdK))):=Y rfl;rw [hr.o];clear hr;generalize (decide (1<=s.data.toList.length) && (decide (s.data.toList.length<=300) && s.data.toList.all zdK))=r at h ⊢;go_enter Tryz.func91,Tryz.ntmps91;go_wp2_with fail
 refine h.o.mono ?_;rintro e w' ⟨rfl,rfl⟩;go_wp2_with fail
 go_ret;exact ⟨rfl,rfl⟩
theorem ziG (s:ByteArray) (w:World):Calls Tryz.prog 93 #[.string s] w fun e w'=>e=.returned (.bool (zj6 s.data.toList))/\w=w':=by
 have h:=Y (zc4 s 0 1000 173 zhk (by decide) (enters_of Tryz.func173 (by kernel_rfl) rfl) zhp w);have hr:Hid (zj6 s.data.toList=(decide (0<=s.data.toList.length) && (decide (s.data.toList.length<=1000) && s.data.toList.all zhk))):=Y (by simp [zj6]);rw [hr.o];clear hr;generalize (decide (0<=s.data.toList.length) && (decide (s.data.toList.length<=1000) && s.data.toList.all zhk))=r at h ⊢;go_enter Tryz.func93,Tryz.ntmps93;go_wp2_with fail
 refine h.o.mono ?_;rintro e w' ⟨rfl,rfl⟩;go_wp2_with fail
 go_ret;exact ⟨rfl,rfl⟩
theorem zcR {F:Nat -> Prop} {w:World} {ao:Option Addr} {n cap:Nat} {l:List Bs} (h:zbC F w (.slice ao n cap) l) {j:Nat} (hj:j < l.length):∃ b off,ao=some ⟨b,off,none⟩/\w.cell? ⟨b,off+j,none⟩=some (.string ⟨l[j].toArray⟩):=by
 obtain ⟨b,off,c,e,-,hc⟩:=h.get 1 zaC (by decide) hj;injection e with e1 _ _
 have:=hc 0 _ (by decide) rfl;rw [Nat.mul_one,Nat.add_zero] at this;exact ⟨b,off,e1,this⟩
theorem zlx:∀ (a b:Bs),Go.Op.bytesLess a b=ltS a b
 | [],[]=>rfl
 | _::_,[]=>rfl
 | [],_::_=>rfl
 | x::a,y::b=>by
  simp only [Go.Op.bytesLess,ltS,zlx a b];congr 1;congr 1;rw [Bool.eq_iff_iff,beq_iff_eq,decide_eq_true_eq,UInt8.toNat_inj]
theorem zhC:∀ (x y:Bs),ltS x y=!(ltS y x || decide (y=x))
 | [],[]=>rfl
 | _::_,[]=>rfl
 | [],_::_=>rfl
 | x::a,y::b=>by
  have ih:=zhC a b;simp only [ltS,List.cons.injEq];have h3:(y=x) ↔ y.toNat=x.toNat:=UInt8.toNat_inj.symm;simp only [h3];rcases Nat.lt_trichotomy x.toNat y.toNat with h | h | h
  ·simp [h,show ¬ y.toNat < x.toNat by omega,show ¬ y.toNat=x.toNat by omega]
  ·simp [h,ih]
  ·simp [h,show ¬ x.toNat < y.toNat by omega,show ¬ x.toNat=y.toNat by omega,show ¬ y.toNat=x.toNat by omega]
def zbY (l:List Bs) (j:Nat):Bool:=if j=0 then (match l with | []=>true | t::r=>zbT t && zn3 t r) else zn3 (l.getD (j - 1) []) (l.drop j)
theorem ze9 {l:List Bs} (h:0 < l.length):zbY l 0=(zbT l[0] && zbY l 1):=by
 cases l with
 | nil=>simp at h
 | cons t r=>simp [zbY]
theorem zfs {l:List Bs} {j:Nat} (hj:0 < j) (h:j < l.length):zbY l j=(zbT l[j] && (ltS (l[j - 1]'(by omega)) l[j] && zbY l (j+1))):=by
 unfold zbY;rw [if_neg (by omega),if_neg (by omega),List.drop_eq_getElem_cons h];simp only [zn3];have e1:l.getD (j - 1) []=l[j - 1]'(by omega):=by simp [List.getD,show j - 1 < l.length by omega]
 have e2:l.getD (j+1 - 1) []=l[j]:=by simp [List.getD,h]
 rw [e1,e2]
theorem zf4 {l:List Bs} {j:Nat} (h:l.length<=j):zbY l j=true:=by
 unfold zbY;split
 ·rename_i h0
  subst h0;have:l=[]:=List.eq_nil_of_length_eq_zero (by omega);subst this;rfl
 ·rw [List.drop_eq_nil_of_le h];rfl
theorem zix {F:Nat -> Prop} (v:Value) (l:List Bs) (w:World) (h:zbC F w v l):
  Calls Tryz.prog 167 #[v] w fun e w'=>e=.returned (.bool (vTp l))/\w=w':=by
 obtain ⟨r,hr⟩:∃ r,r=vTp l:=⟨_,rfl⟩;rw [<- hr];obtain ⟨ao,cap,rfl⟩:=h.slice;obtain ⟨n,hn⟩:∃ n,n=l.length:=⟨_,rfl⟩;have hr2:r=(decide (l.length<=4) && zbY l 0):=hr;clear hr;rw [<- hn] at h hr2 ⊢;replace hn:=Y hn;replace h:=Y h
 by_cases hl:n<=4
 rotate_left
 ·have hq:(4:Int) < (n:Int):=by omega
  rw [decide_eq_false hl,Bool.false_and] at hr2;replace hr2:=Y hr2;go_enter Tryz.func167,Tryz.ntmps167;go_wp2_with fail
  go_ret;exact ⟨by rw [hr2.o];rfl,rfl⟩
 have hq:¬ (4:Int) < (n:Int):=by omega
 rw [decide_eq_true hl,Bool.true_and] at hr2;replace hr2:=Y hr2;go_enter Tryz.func167,Tryz.ntmps167;go_wp2_with fail
 go_loopg [10] n (fun g i wr=>∃ j:Nat,j+g=n/\i=.int .i64 j/\wr=w/\r=zbY l j)
 case atStart=>exact ⟨0,by omega,rfl,rfl,hr2.o⟩
 case round=>
  clear hr2;obtain ⟨j,hj,rfl,rfl,hrj⟩:=hrel;replace hj:=Y hj
  by_cases hlt:j < n
  rotate_left
  ·have hdi:¬ (j:Int) < (n:Int):=by omega
   have hd:decide ((j:Int) < (n:Int))=false:=decide_eq_false hdi;rw [zf4 (by have:=hn.o;omega)] at hrj;replace hrj:=Y hrj;go_wp2_with fail
   go_ret;exact ⟨by rw [hrj.o];rfl,rfl⟩
  ·have hdi:(j:Int) < (n:Int):=by omega
   have hd:decide ((j:Int) < (n:Int))=true:=decide_eq_true hdi;have hjl:j < l.length:=by have:=hn.o;omega
   obtain ⟨b,off,rfl,c0⟩:=zcR h.o hjl;have hN:=zde ⟨l[j].toArray⟩ wr;rw [zeI] at hN
   by_cases h0:j=0
   ·subst h0
    rw [ze9 hjl] at hrj;generalize l[0]=x at c0 hN hrj;generalize zbT x=bx at hN hrj;replace hN:=Y hN;obtain ⟨rest,hrs⟩:∃ rest,rest=zbY l 1:=⟨_,rfl⟩;rw [<- hrs] at hrj;replace hrs:=Y hrs;replace hrj:=Y hrj;simp only [Nat.add_zero] at c0;go_wp2_with fail
    refine hN.o.mono ?_;rintro e w' ⟨rfl,rfl⟩;cases bx with
    | false=>
     go_wp2_with fail
     go_ret;exact ⟨by rw [hrj.o];rfl,rfl⟩
    | true=>
     go_wp2_with fail
     go_roundg (gk - 1)
     case measure=>have:=hj.o;omega
     case rel=>exact ⟨1,by have:=hj.o;omega,rfl,rfl,by rw [hrj.o];exact hrs.o⟩
   ·rw [zfs (by omega) hjl] at hrj
    have hp1:j - 1 < l.length:=by omega
    obtain ⟨b2,off2,e2,c1⟩:=zcR h.o hp1;injection e2 with e2;injection e2 with e2 e3 _
    subst e2;subst e3;rw [zhC,<- zlx,<- zbZ] at hrj;generalize l[j]=x at c0 hN hrj;generalize l[j - 1]=y at c1 hrj;generalize zbT x=bx at hN hrj;obtain ⟨q,hq1⟩:∃ q,q=Go.Op.bytesLess x y:=⟨_,rfl⟩;obtain ⟨q2,hq2⟩:∃ q2,q2=(x==y):=⟨_,rfl⟩;rw [<- hq1,<- hq2] at hrj;replace hq1:=hq1.symm;replace hq2:=hq2.symm;replace hN:=Y hN;obtain ⟨rest,hrs⟩:∃ rest,rest=zbY l (j+1):=⟨_,rfl⟩;rw [<- hrs] at hrj;replace hrs:=Y hrs;replace hrj:=Y hrj;have hj0:(0:Int) < (j:Int):=by omega
    have hj1:(j:Int) - 1=((j - 1:Nat):Int):=by omega
    obtain ⟨m,rfl⟩:∃ m,j=m+1:=⟨j - 1,by omega⟩;clear hj1;simp only [Nat.add_sub_cancel] at c1;go_wp2_with fail
    refine hN.o.mono ?_;rintro e w' ⟨rfl,rfl⟩;cases bx with
    | false=>
     go_wp2_with fail
     go_ret;exact ⟨by rw [hrj.o];rfl,rfl⟩
    | true=>
     cases q <;> cases q2
     ·go_wp2_with fail
      go_roundg (gk - 1)
      case measure=>have:=hj.o;omega
      case rel=>exact ⟨m+1+1,by have:=hj.o;omega,by go_num,rfl,by rw [hrj.o];exact hrs.o⟩
     all_goals
      go_wp2_with fail
      go_ret;exact ⟨by rw [hrj.o];rfl,rfl⟩
end Go.Proofs.YtjjfphalcibjfaaGreatDoor
