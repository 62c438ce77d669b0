import Derived.Test.YtjjfphalcibjfaaGreatDoorC16
set_option maxRecDepth 100000
set_option maxHeartbeats 16000000
namespace Go.Proofs.YtjjfphalcibjfaaGreatDoor
open Go.RowKit Cdk Scr
theorem zhN (s:ByteArray) (w:World) (hsz:s.size<=9223372036854775807):Calls Tryz.prog 174 #[.string s] w fun e w'=>e=.returned (.bool (zcF s.data.toList))/\w=w':=by
 obtain ⟨r,hr⟩:∃ r,r=(zcF s.data.toList):=⟨_,rfl⟩;rw [<- hr];unfold zcF at hr;rw [<- zaN,Bool.and_comm] at hr;replace hr:=Y hr;go_enter Tryz.func174,Tryz.ntmps174;go_wp2_with fail
 go_loopg [3] s.size (fun g i wr=>∃ j:Nat,j+g=s.size/\i=.int .i64 j/\wr=w/\r=((s.data.toList.drop j).all zdK && decide (s.size<=300)))
 case atStart=>exact ⟨0,by omega,rfl,rfl,hr.o⟩
 case round=>
  obtain ⟨j,hj,rfl,rfl,hrj⟩:=hrel;replace hj:=Y hj
  by_cases hlt:j < s.size
  ·have hd:decide ((j:Int) < (s.size:Int))=true:=decide_eq_true (by omega)
   rw [zcS s zdK hlt] at hrj;have hc:Hid (zdK s[j]=(decide (32<=s[j].toNat) && decide (s[j].toNat<=126))):=Y rfl;generalize hrest:(s.data.toList.drop (j+1)).all zdK=rest at hrj;generalize zdK s[j]=p at hc hrj;replace hrj:=Y hrj;replace hrest:=Y hrest;have hx8:(s[j].toNat:Int)<=255:=by have:=s[j].toNat_lt;omega
   by_cases h1:(s[j].toNat:Int) < 32 <;> by_cases h2:(126:Int) < (s[j].toNat:Int)
   all_goals try
     have hp:Hid (p=true):=Y (by rw [hc.o];simp;omega);go_wp2_with fail
     go_roundg (gk - 1)
     case measure=>have:=hj.o;omega
     case rel=>exact ⟨j+1,by have:=hj.o;omega,by have:=hsz;go_num,rfl,by rw [hrj.o,hp.o,Bool.true_and];rw [hrest.o]⟩
   all_goals
     have hp:Hid (p=false):=Y (by rw [hc.o];simp;omega);go_wp2_with fail
     go_ret;exact ⟨by rw [hrj.o,hp.o];simp,rfl⟩
  ·obtain rfl:j=s.size:=by have:=hj.o;omega
   have hd:decide ((s.size:Int) < (s.size:Int))=false:=decide_eq_false (by omega);rw [List.drop_eq_nil_of_le (by rw [<- zaN];exact Nat.le_refl _),List.all_nil,Bool.true_and] at hrj;replace hrj:=Y hrj
   by_cases q1:(s.size:Int)<=300
   all_goals
    go_wp2_with fail
    go_ret;exact ⟨by rw [hrj.o];congr 2;simp;omega,rfl⟩
theorem zir (s:ByteArray) (w:World) (hsz:s.size<=9223372036854775807):Calls Tryz.prog 100 #[.string s] w fun e w'=>e=.returned (.bool (zj6 s.data.toList))/\w=w':=by
 obtain ⟨r,hr⟩:∃ r,r=(zj6 s.data.toList):=⟨_,rfl⟩;rw [<- hr];unfold zj6 at hr;rw [<- zaN,Bool.and_comm] at hr;replace hr:=Y hr;go_enter Tryz.func100,Tryz.ntmps100;go_wp2_with fail
 go_loopg [3] s.size (fun g i wr=>∃ j:Nat,j+g=s.size/\i=.int .i64 j/\wr=w/\r=((s.data.toList.drop j).all zhk && decide (s.size<=1000)))
 case atStart=>exact ⟨0,by omega,rfl,rfl,hr.o⟩
 case round=>
  obtain ⟨j,hj,rfl,rfl,hrj⟩:=hrel;replace hj:=Y hj
  by_cases hlt:j < s.size
  ·have hd:decide ((j:Int) < (s.size:Int))=true:=decide_eq_true (by omega)
   rw [zcS s zhk hlt] at hrj;have hc:Hid (zhk s[j]=(decide (s[j].toNat=10) || (decide (32<=s[j].toNat) && decide (s[j].toNat<=126)))):=Y rfl;generalize hrest:(s.data.toList.drop (j+1)).all zhk=rest at hrj;generalize zhk s[j]=p at hc hrj;replace hrj:=Y hrj;replace hrest:=Y hrest;have hx8:(s[j].toNat:Int)<=255:=by have:=s[j].toNat_lt;omega
   cases h5:((s[j].toNat:Int) !=10) <;> by_cases h1:(s[j].toNat:Int) < 32 <;> by_cases h2:(126:Int) < (s[j].toNat:Int)
   all_goals
    have h5':=h5;simp only [bne_iff_ne,bne_eq_false_iff_eq,ne_eq] at h5';replace h5':=Y h5'
   all_goals try (exfalso;have:=h5'.o;omega)
   all_goals try
     have hp:Hid (p=true):=Y (by rw [hc.o];have:=h5'.o;simp;omega);go_wp2_with fail
     go_roundg (gk - 1)
     case measure=>have:=hj.o;omega
     case rel=>exact ⟨j+1,by have:=hj.o;omega,by have:=hsz;go_num,rfl,by rw [hrj.o,hp.o,Bool.true_and];rw [hrest.o]⟩
   all_goals
     have hp:Hid (p=false):=Y (by rw [hc.o];have:=h5'.o;simp;omega);go_wp2_with fail
     go_ret;exact ⟨by rw [hrj.o,hp.o];simp,rfl⟩
  ·obtain rfl:j=s.size:=by have:=hj.o;omega
   have hd:decide ((s.size:Int) < (s.size:Int))=false:=decide_eq_false (by omega);rw [List.drop_eq_nil_of_le (by rw [<- zaN];exact Nat.le_refl _),List.all_nil,Bool.true_and] at hrj;replace hrj:=Y hrj
   by_cases q1:(s.size:Int)<=1000
   all_goals
    go_wp2_with fail
    go_ret;exact ⟨by rw [hrj.o];congr 2;simp;omega,rfl⟩
theorem zdb (s:ByteArray) (w:World) (hsz:s.size<=9223372036854775807):Calls Tryz.prog 95 #[.string s] w fun e w'=>e=.returned (.bool (zbT s.data.toList))/\w=w':=by
 obtain ⟨r,hr⟩:∃ r,r=(zbT s.data.toList):=⟨_,rfl⟩;rw [<- hr];unfold zbT at hr;rw [<- zaN,<- Bool.and_assoc,Bool.and_comm] at hr;replace hr:=Y hr;go_enter Tryz.func95,Tryz.ntmps95;go_wp2_with fail
 go_loopg [3] s.size (fun g i wr=>∃ j:Nat,j+g=s.size/\i=.int .i64 j/\wr=w/\r=((s.data.toList.drop j).all zd8 && (decide (1<=s.size) && decide (s.size<=20))))
 case atStart=>exact ⟨0,by omega,rfl,rfl,hr.o⟩
 case round=>
  obtain ⟨j,hj,rfl,rfl,hrj⟩:=hrel;replace hj:=Y hj
  by_cases hlt:j < s.size
  ·have hd:decide ((j:Int) < (s.size:Int))=true:=decide_eq_true (by omega)
   rw [zcS s zd8 hlt] at hrj;have hc:Hid (zd8 s[j]=((decide (97<=s[j].toNat) && decide (s[j].toNat<=122)) || (decide (48<=s[j].toNat) && decide (s[j].toNat<=57)) || decide (s[j].toNat=45))):=Y rfl;generalize hrest:(s.data.toList.drop (j+1)).all zd8=rest at hrj;generalize zd8 s[j]=p at hc hrj;replace hrj:=Y hrj;replace hrest:=Y hrest;have hx8:(s[j].toNat:Int)<=255:=by have:=s[j].toNat_lt;omega
   by_cases h1:(97:Int)<=(s[j].toNat:Int) <;> by_cases h2:(s[j].toNat:Int)<=122 <;> by_cases h3:(48:Int)<=(s[j].toNat:Int) <;> by_cases h4:(s[j].toNat:Int)<=57 <;> cases h5:((s[j].toNat:Int)==45)
   all_goals
    have h5':=h5;simp only [beq_iff_eq,beq_eq_false_iff_ne,ne_eq] at h5';replace h5':=Y h5'
   all_goals try (exfalso;have:=h5'.o;omega)
   all_goals try
     have hp:Hid (p=true):=Y (by rw [hc.o];have:=h5'.o;simp;omega);go_wp2_with fail
     go_roundg (gk - 1)
     case measure=>have:=hj.o;omega
     case rel=>exact ⟨j+1,by have:=hj.o;omega,by have:=hsz;go_num,rfl,by rw [hrj.o,hp.o,Bool.true_and];rw [hrest.o]⟩
   all_goals
     have hp:Hid (p=false):=Y (by rw [hc.o];have:=h5'.o;simp;omega);go_wp2_with fail
     go_ret;exact ⟨by rw [hrj.o,hp.o];simp,rfl⟩
  ·obtain rfl:j=s.size:=by have:=hj.o;omega
   have hd:decide ((s.size:Int) < (s.size:Int))=false:=decide_eq_false (by omega);rw [List.drop_eq_nil_of_le (by rw [<- zaN];exact Nat.le_refl _),List.all_nil,Bool.true_and] at hrj;replace hrj:=Y hrj
   by_cases q1:(1:Int)<=(s.size:Int) <;> by_cases q2:(s.size:Int)<=20
   all_goals
    go_wp2_with fail
    go_ret;exact ⟨by rw [hrj.o];congr 2;simp;omega,rfl⟩
theorem zgr (s:ByteArray) (w:World) (hsz:s.size<=9223372036854775807):Calls Tryz.prog 96 #[.string s] w fun e w'=>e=.returned (.bool (zdL s.data.toList))/\w=w':=by
 obtain ⟨r,hr⟩:∃ r,r=zdL s.data.toList:=⟨_,rfl⟩;rw [<- hr];unfold zdL at hr;have hT:=Y (zhN s w hsz)
 by_cases h0:s=⟨#[]⟩
 ·subst h0
  replace hr:=Y hr;go_enter Tryz.func96,Tryz.ntmps96;go_wp2_with fail
  go_ret;exact ⟨by rw [hr.o];rfl,rfl⟩
 ·have hpos:0 < s.size:=by
   rcases Nat.eq_zero_or_pos s.size with h | h
   ·exact absurd (by obtain ⟨⟨l⟩⟩:=s;cases l with | nil=>rfl | cons c r=>simp [ByteArray.size] at h) h0
   ·exact h
  have hne:s.toList.isEmpty=false:=by
   rw [ByteArray.toList_eq];obtain ⟨⟨l⟩⟩:=s;cases l with
   | nil=>simp [ByteArray.size] at hpos
   | cons c r=>rfl
  rw [<- zaN,decide_eq_true (show 1<=s.size by omega),Bool.true_and] at hr;generalize zcF s.data.toList=q at hr hT;replace hr:=Y hr;clear h0;go_enter Tryz.func96,Tryz.ntmps96;go_wp2_with fail
  refine hT.o.mono ?_;rintro e w' ⟨rfl,rfl⟩;go_wp2_with fail
  go_ret;exact ⟨by rw [hr.o];try rfl,rfl⟩
theorem zck {α:Type} [DecidableEq α] {l1 l2:List α} {j:Nat} (h1:j < l1.length) (h2:j < l2.length):decide (l1.drop j=l2.drop j)=(decide (l1[j]=l2[j]) && decide (l1.drop (j+1)=l2.drop (j+1))):=by
 rw [List.drop_eq_getElem_cons h1,List.drop_eq_getElem_cons h2,Bool.eq_iff_iff];simp only [decide_eq_true_eq,Bool.and_eq_true,List.cons.injEq]
theorem zhZ {F:Nat -> Prop} (v1 v2:Value) (l1 l2:List Int) (w:World) (h1:zaF F w v1 l1) (h2:zaF F w v2 l2):
  Calls Tryz.prog 41 #[v1,v2] w fun e w'=>e=.returned (.bool (decide (l1=l2)))/\Ext w w':=by
 obtain ⟨r,hr⟩:∃ r,r=decide (l1=l2):=⟨_,rfl⟩;rw [<- hr];have hn0:=h1.len;obtain ⟨ao1,cap1,rfl⟩:=h1.slice;obtain ⟨ao2,cap2,rfl⟩:=h2.slice;obtain ⟨n,hn⟩:∃ n,n=l1.length:=⟨_,rfl⟩;obtain ⟨m,hm⟩:∃ m,m=l2.length:=⟨_,rfl⟩;rw [<- hn] at h1 hn0 ⊢;rw [<- hm] at h2 ⊢;have hne:((n:Int) !=(m:Int))=!decide (n=m):=by rw [Bool.eq_iff_iff,bne_iff_ne];simp;omega
 replace hn:=Y hn;replace hm:=Y hm;replace h1:=Y h1;replace h2:=Y h2;cases hnm:decide (n=m) with
 | false=>
  rw [hnm] at hne
  have hrf:Hid (r=false):=Y (by
   rw [hr,decide_eq_false_iff_not];intro e;rw [decide_eq_false_iff_not] at hnm
   exact hnm (by rw [hn.o,hm.o,e]))
  replace hr:=Y hr;replace hnm:=Y hnm;go_enter Tryz.func41,Tryz.ntmps41;go_wp2_with fail
  go_ret;exact ⟨by rw [hrf.o];rfl,Mod.refl _ _⟩
 | true=>
  rw [hnm] at hne;obtain rfl:n=m:=by simpa using hnm
  clear hnm;replace hr:r=decide (l1.drop 0=l2.drop 0):=by rw [hr];simp
  replace hr:=Y hr;go_enter Tryz.func41,Tryz.ntmps41;go_wp2_with fail
  go_loopg [5] n (fun g i wr=>∃ j:Nat,j+g=n/\i=.int .i64 j/\Ext w wr/\r=decide (l1.drop j=l2.drop j))
  case atStart=>exact ⟨0,by omega,rfl,Mod.refl _ _,hr.o⟩
  case round=>
   clear hne hr;obtain ⟨j,hj,rfl,hx,hrj⟩:=hrel;replace hj:=Y hj
   by_cases hlt:j < n
   ·have hdi:(j:Int) < (n:Int):=by omega
    have hd:decide ((j:Int) < (n:Int))=true:=decide_eq_true hdi;have hjl1:j < l1.length:=by have:=hn.o;omega
    have hjl2:j < l2.length:=by have:=hm.o;omega
    obtain ⟨b1,o1,rfl,c1⟩:=zbG (h1.o.ext hx) hjl1;obtain ⟨b2,o2,rfl,c2⟩:=zbG (h2.o.ext hx) hjl2;rw [zck hjl1 hjl2] at hrj;generalize l1[j]=x at c1 hrj;generalize l2[j]=y at c2 hrj;have hxy:=zdu x y;generalize decide (x=y)=p at hxy hrj;generalize hrest:decide (l1.drop (j+1)=l2.drop (j+1))=rest at hrj;replace hrj:=Y hrj;replace hrest:=Y hrest;replace hx:=Y hx;cases p with
    | false=>
     go_wp2_with fail
     go_quiet (fail)
     go_wp2_with fail
     go_ret;exact ⟨by rw [hrj.o];rfl,hx.o.ofDrewN _⟩
    | true=>
     go_wp2_with fail
     go_quiet (fail)
     go_wp2_with fail
     go_roundg (gk - 1)
     case measure=>have:=hj.o;omega
     case rel=>exact ⟨j+1,by have:=hj.o;omega,by go_num,hx.o.ofDrewN _,by rw [hrj.o,hrest.o,Bool.true_and]⟩
   ·obtain rfl:j=n:=by have:=hj.o;omega
    have hdi:¬ (j:Int) < (j:Int):=by omega
    have hd:decide ((j:Int) < (j:Int))=false:=decide_eq_false hdi;rw [List.drop_eq_nil_of_le (by have:=hn.o;omega),List.drop_eq_nil_of_le (by have:=hm.o;omega)] at hrj;replace hrj:=Y hrj;replace hx:=Y hx;go_wp2_with fail
    go_ret;exact ⟨by rw [hrj.o];rfl,hx.o⟩
theorem zdq {F:Nat -> Prop} (v1 v2:Value) (l1 l2:Lb) (w:World) (h1:zaF F w v1 l1.aft) (h2:zaF F w v2 l2.aft):
  Calls Tryz.prog 65 #[.agg (lbC v1 l1).toArray,.agg (lbC v2 l2).toArray] w fun e w'=>e=.returned (.bool (decide (l1=l2)))/\Ext w w':=by
 obtain ⟨t1,a1,p1,d1⟩:=l1;obtain ⟨t2,a2,p2,d2⟩:=l2;simp only at h1 h2;obtain ⟨r,hr⟩:∃ r,r=decide ((⟨t1,a1,p1,d1⟩:Lb)=⟨t2,a2,p2,d2⟩):=⟨_,rfl⟩;rw [<- hr];replace hr:r=(decide (a1=a2) && (decide (t1=t2) && (decide (p1=p2) && decide (d1=d2)))):=by
  rw [hr,Bool.eq_iff_iff];simp only [Lb.mk.injEq,decide_eq_true_eq,Bool.and_eq_true];exact and_left_comm
 have e1:=zaj t1 t2;have e3:=zaj p1 p2;have e4:=zaj d1 d2;have hn0:=h1.len;obtain ⟨ao1,cap1,rfl⟩:=h1.slice;obtain ⟨ao2,cap2,rfl⟩:=h2.slice;obtain ⟨n,hn⟩:∃ n,n=a1.length:=⟨_,rfl⟩;obtain ⟨m,hm⟩:∃ m,m=a2.length:=⟨_,rfl⟩;rw [<- hn] at h1 hn0 ⊢;rw [<- hm] at h2 ⊢;unfold lbC;dsimp only;have hne:((n:Int) !=(m:Int))=!decide (n=m):=by rw [Bool.eq_iff_iff,bne_iff_ne];simp;omega
 generalize decide (t1=t2)=b1 at e1 hr;generalize decide (p1=p2)=b3 at e3 hr;generalize decide (d1=d2)=b4 at e4 hr;replace hn:=Y hn;replace hm:=Y hm;have hz1:=heap_alloc_new w (.cells #[.int .i64 t1,.slice ao1 n cap1,.int .i64 p1,.int .i64 d1] 26);have hz2:=heap_alloc_new (w.alloc (.cells #[.int .i64 t1,.slice ao1 n cap1,.int .i64 p1,.int .i64 d1] 26)) (.cells #[.int .i64 t2,.slice ao2 m cap2,.int .i64 p2,.int .i64 d2] 26);have hx1:=Mod.alloc (Mod.refl (fun _=>False) w) (.cells #[.int .i64 t1,.slice ao1 n cap1,.int .i64 p1,.int .i64 d1] 26);have hx2:=Mod.alloc (Mod.refl (fun _=>False) (w.alloc (.cells #[.int .i64 t1,.slice ao1 n cap1,.int .i64 p1,.int .i64 d1] 26))) (.cells #[.int .i64 t2,.slice ao2 m cap2,.int .i64 p2,.int .i64 d2] 26);replace hz1:=hx2.at hz1 id;have hsz:(w.alloc (.cells #[.int .i64 t1,.slice ao1 n cap1,.int .i64 p1,.int .i64 d1] 26)).heap.size=w.heap.size+1:=World.size_alloc _ _;rw [hsz] at hz2;replace hx2:=Y (hx1.trans hx2);replace hz1:=Y hz1;replace hz2:=Y hz2;clear hx1 hsz;replace h1:=Y h1;replace h2:=Y h2;replace hr:=Y hr;go_enter Tryz.func65,Tryz.ntmps65;go_upto_region 1 with (fail)
 have hsz:(w.alloc (.cells #[.int .i64 t1,.slice ao1 n cap1,.int .i64 p1,.int .i64 d1] 26)).heap.size=w.heap.size+1:=World.size_alloc _ _;try rw [hsz]
 clear hsz;generalize ((w.alloc (.cells #[.int .i64 t1,.slice ao1 n cap1,.int .i64 p1,.int .i64 d1] 26)).alloc (.cells #[.int .i64 t2,.slice ao2 m cap2,.int .i64 p2,.int .i64 d2] 26))=W at hz1 hz2 hx2 ⊢;obtain ⟨R,hR⟩:∃ R,R=w.heap.size:=⟨_,rfl⟩;obtain ⟨Q,hQ⟩:∃ Q,Q=w.heap.size+1:=⟨_,rfl⟩;rw [<- hQ] at hz2 ⊢;rw [<- hR] at hz1 ⊢;replace hR:=Y hR;replace hQ:=Y hQ;cases hnm:decide (n=m) with
 | false=>
  rw [hnm] at hne
  have hrf:Hid (r=false):=Y (by
   rw [hr.o,Bool.and_eq_false_iff];left;rw [decide_eq_false_iff_not];intro e;rw [decide_eq_false_iff_not] at hnm
   exact hnm (by rw [hn.o,hm.o,e]))
  replace hnm:=Y hnm;have c1:=cS hz1.o 1;have c2:=cS hz2.o 1;go_wp2_with fail
  go_ret;exact ⟨by rw [hrf.o];rfl,hx2.o⟩
 | true=>
  rw [hnm] at hne;obtain rfl:n=m:=by simpa using hnm
  clear hnm;replace hr:r=(decide (a1.drop 0=a2.drop 0) && (b1 && (b3 && b4))):=by rw [hr.o];simp
  replace hr:=Y hr;have c1:=cS hz1.o 1;have c2:=cS hz2.o 1;go_wp2_with fail
  clear c1 c2;go_loopg [5] n (fun g i wr=>∃ j:Nat,j+g=n/\i=.int .i64 j/\Ext W wr/\r=(decide (a1.drop j=a2.drop j) && (b1 && (b3 && b4))))
  case atStart=>exact ⟨0,by omega,rfl,Mod.refl _ _,hr.o⟩
  case round=>
   clear hne hr;obtain ⟨j,hj,rfl,hx,hrj⟩:=hrel;replace hj:=Y hj;have c1:=cS (hx.at hz1.o id) 1;have c2:=cS (hx.at hz2.o id) 1
   by_cases hlt:j < n
   ·have hdi:(j:Int) < (n:Int):=by omega
    have hd:decide ((j:Int) < (n:Int))=true:=decide_eq_true hdi;have hjl1:j < a1.length:=by have:=hn.o;omega
    have hjl2:j < a2.length:=by have:=hm.o;omega
    obtain ⟨b1,o1,rfl,g1⟩:=zbG (h1.o.ext (hx2.o.trans hx)) hjl1;obtain ⟨b2,o2,rfl,g2⟩:=zbG (h2.o.ext (hx2.o.trans hx)) hjl2;rw [zck hjl1 hjl2] at hrj;generalize a1[j]=x at g1 hrj;generalize a2[j]=y at g2 hrj;have hxy:=zdu x y;generalize decide (x=y)=p at hxy hrj;generalize hrest:decide (a1.drop (j+1)=a2.drop (j+1))=rest at hrj;replace hrj:=Y hrj;replace hrest:=Y hrest;replace hx:=Y hx;clear e1 e3 e4;cases p with
    | false=>
     go_wp2_with fail
     go_quiet (fail)
     go_wp2_with fail
     go_ret;exact ⟨by rw [hrj.o];rfl,hx2.o.trans (hx.o.ofDrewN _)⟩
    | true=>
     go_wp2_with fail
     go_quiet (fail)
     go_wp2_with fail
     go_roundg (gk - 1)
     case measure=>have:=hj.o;omega
     case rel=>exact ⟨j+1,by have:=hj.o;omega,by go_num,hx.o.ofDrewN _,by rw [hrj.o,hrest.o,Bool.true_and]⟩
   ·obtain rfl:j=n:=by have:=hj.o;omega
    have hdi:¬ (j:Int) < (j:Int):=by omega
    have hd:decide ((j:Int) < (j:Int))=false:=decide_eq_false hdi;rw [List.drop_eq_nil_of_le (by have:=hn.o;omega),List.drop_eq_nil_of_le (by have:=hm.o;omega)] at hrj;have s0:=cS (hx.at hz1.o id) 0;have s2:=cS (hx.at hz1.o id) 2;have s3:=cS (hx.at hz1.o id) 3;have u0:=cS (hx.at hz2.o id) 0;have u2:=cS (hx.at hz2.o id) 2;have u3:=cS (hx.at hz2.o id) 3;replace hrj:=Y hrj;replace hx:=Y hx;go_wp2_with fail
    all_goals
     go_ret;exact ⟨by rw [hrj.o];simp [*],hx2.o.trans hx.o⟩
theorem zc7 {F:Nat -> Prop} (v:Value) (l:Lb) (w:World) (h:zaF F w v l.aft):
  Calls Tryz.prog 99 #[.agg (lbC v l).toArray] w fun e w'=>e=.returned (.bool (vLb l))/\Ext w w':=by
 obtain ⟨til,aft,app,den⟩:=l;obtain ⟨r,hr⟩:∃ r,r=vLb ⟨til,aft,app,den⟩:=⟨_,rfl⟩;rw [<- hr];simp only at h;have hn0:=h.len;obtain ⟨ao,cap,rfl⟩:=h.slice;obtain ⟨n,hn⟩:∃ n,n=aft.length:=⟨_,rfl⟩;rw [<- hn] at h hn0 ⊢;unfold vLb at hr;simp only at hr;unfold lbC;dsimp only;have hz:=heap_alloc_new w (.cells #[.int .i64 til,.slice ao n cap,.int .i64 app,.int .i64 den] 26);have hx:=Mod.alloc (Mod.refl (fun _=>False) w) (.cells #[.int .i64 til,.slice ao n cap,.int .i64 app,.int .i64 den] 26);replace hn:=Y hn;replace hr:=Y hr;replace h:=Y h;go_enter Tryz.func99,Tryz.ntmps99;go_upto_region 1 with (fail)
 generalize (w.alloc _)=W at hz hx ⊢;generalize w.heap.size=R at hz ⊢;replace hz:=Y hz;replace hx:=Y hx;have s0:=cS hz.o 0;have s1:=cS hz.o 1;have s2:=cS hz.o 2;have s3:=cS hz.o 3
 by_cases atil:til < 0
 ·have hrf:Hid (r=false):=Y (by rw [hr.o];unfold rng;simp;omega)
  go_wp2_with fail
  go_ret;exact ⟨by rw [hrf.o];rfl,hx.o⟩
 by_cases btil:(1000000000:Int) < til
 ·have hrf:Hid (r=false):=Y (by rw [hr.o];unfold rng;simp;omega)
  go_wp2_with fail
  go_ret;exact ⟨by rw [hrf.o];rfl,hx.o⟩
 by_cases aapp:app < 0
 ·have hrf:Hid (r=false):=Y (by rw [hr.o];unfold rng;simp;omega)
  go_wp2_with fail
  go_ret;exact ⟨by rw [hrf.o];rfl,hx.o⟩
 by_cases bapp:(5:Int) < app
 ·have hrf:Hid (r=false):=Y (by rw [hr.o];unfold rng;simp;omega)
  go_wp2_with fail
  go_ret;exact ⟨by rw [hrf.o];rfl,hx.o⟩
 by_cases aden:den < 0
 ·have hrf:Hid (r=false):=Y (by rw [hr.o];unfold rng;simp;omega)
  go_wp2_with fail
  go_ret;exact ⟨by rw [hrf.o];rfl,hx.o⟩
 by_cases bden:(15:Int) < den
 ·have hrf:Hid (r=false):=Y (by rw [hr.o];unfold rng;simp;omega)
  go_wp2_with fail
  go_ret;exact ⟨by rw [hrf.o];rfl,hx.o⟩
 replace hr:r=asc 0 (aft.drop 0):=by
  rw [hr.o,List.drop_zero];unfold rng;rw [decide_eq_true (show (0:Int)<=til by omega),decide_eq_true (show til<=(1000000000:Int) by omega),decide_eq_true (show (0:Int)<=app by omega),decide_eq_true (show app<=(5:Int) by omega),decide_eq_true (show (0:Int)<=den by omega),decide_eq_true (show den<=(15:Int) by omega)]
  rfl
 replace hr:=Y hr;go_wp2_with fail
 clear s0 s1 s2 s3 atil btil aapp bapp aden bden;go_loopg [3,4] n (fun g la i wr=>∃ (j:Nat) (p:Int),j+g=n/\i=.int .i64 j/\la=.int .i64 p/\wr=W/\r=asc p (aft.drop j))
 case atStart=>exact ⟨0,0,by omega,rfl,rfl,rfl,hr.o⟩
 case round=>
  clear hr;obtain ⟨j,p,hj,rfl,rfl,rfl,hrj⟩:=hrel;replace hj:=Y hj;have s1:=cS hz.o 1
  by_cases hlt:j < n
  ·have hdi:(j:Int) < (n:Int):=by omega
   have hd:decide ((j:Int) < (n:Int))=true:=decide_eq_true hdi;have hjl:j < aft.length:=by have:=hn.o;omega
   obtain ⟨b,off,rfl,c0⟩:=zbG (h.o.ext hx.o) hjl;rw [List.drop_eq_getElem_cons hjl] at hrj;simp only [asc] at hrj;generalize aft[j]=x at c0 hrj;have hb:Hid (rng x (p+1) 64=(decide (p+1<=x) && decide (x<=64))):=Y rfl;generalize rng x (p+1) 64=bx at hrj hb;replace hrj:=Y hrj
   by_cases h1:x<=p <;> by_cases h2:(64:Int) < x
   all_goals try
    have hp:Hid (bx=true):=Y (by rw [hb.o];simp;omega);go_wp2_with fail
    go_roundg (gk - 1)
    case measure=>have:=hj.o;omega
    case rel=>exact ⟨j+1,x,by have:=hj.o;omega,by go_num,rfl,rfl,by rw [hrj.o,hp.o,Bool.true_and]⟩
   all_goals
    have hp:Hid (bx=false):=Y (by rw [hb.o];simp;omega);go_wp2_with fail
    go_ret;exact ⟨by rw [hrj.o,hp.o];rfl,hx.o⟩
  ·obtain rfl:j=n:=by have:=hj.o;omega
   have hdi:¬ (j:Int) < (j:Int):=by omega
   have hd:decide ((j:Int) < (j:Int))=false:=decide_eq_false hdi;rw [List.drop_eq_nil_of_le (by have:=hn.o;omega)] at hrj;replace hrj:=Y hrj;go_wp2_with fail
   go_ret;exact ⟨by rw [hrj.o];rfl,hx.o⟩
theorem zfQ {F:Nat -> Prop} (v1 v2:Value) (b1 b2:Bk) (w:World) (h1:zaF F w v1 b1.lb.aft) (h2:zaF F w v2 b2.lb.aft):
  Calls Tryz.prog 103 #[.agg (bkC (v1,b1)).toArray,.agg (bkC (v2,b2)).toArray] w fun e w'=>e=.returned (.bool (decide (b1=b2)))/\Ext w w':=by
 obtain ⟨i1,k1,x1,s1,r1,l1⟩:=b1;obtain ⟨i2,k2,x2,s2,r2,l2⟩:=b2;simp only at h1 h2
 have hr:Hid (decide ((⟨i1,k1,x1,s1,r1,l1⟩:Bk)=⟨i2,k2,x2,s2,r2,l2⟩)=(decide (i1=i2) && (decide (k1=k2) && (decide (x1=x2) && (decide (s1=s2) && (decide (r1=r2) && decide (l1=l2))))))):=Y (by
  rw [Bool.eq_iff_iff];simp [Bk.mk.injEq])
 rw [hr.o];clear hr;have e1:=zaj i1 i2;have e2:=zaj k1 k2;have e3:=zbZ x1 x2;have e4:=zaj s1 s2;have e5:=zaj r1 r2;generalize decide (i1=i2)=d1 at e1 ⊢;generalize decide (k1=k2)=d2 at e2 ⊢;generalize decide (x1=x2)=d3 at e3 ⊢;generalize decide (s1=s2)=d4 at e4 ⊢;generalize decide (r1=r2)=d5 at e5 ⊢;have hx:=Y (zaV w (bkC (v1,⟨i1,k1,x1,s1,r1,l1⟩)).toArray (bkC (v2,⟨i2,k2,x2,s2,r2,l2⟩)).toArray 118 118).1;have hL:=zdq v1 v2 l1 l2 _ (h1.ext hx.o) (h2.ext hx.o);obtain ⟨ao1,c1,rfl⟩:=h1.slice;obtain ⟨ao2,c2,rfl⟩:=h2.slice;clear h1 h2;obtain ⟨t1,a1,p1,q1⟩:=l1;obtain ⟨t2,a2,p2,q2⟩:=l2;unfold bkC lbC zb0 at*;simp only at*;generalize a1.length=n1 at*;generalize a2.length=n2 at*;generalize decide ((⟨t1,a1,p1,q1⟩:Lb)=⟨t2,a2,p2,q2⟩)=d6 at hL ⊢;replace hL:=Y hL;go_enter Tryz.func103,Tryz.ntmps103;go_wp2_with fail
 ·refine hL.o.mono ?_
  rintro e w2 ⟨rfl,hx2⟩;have hx2:=Y (hx.o.trans hx2);go_wp2_with fail
  go_ret;exact ⟨by simp [*],hx2.o⟩
 all_goals
  go_ret;exact ⟨by simp [*],hx.o⟩
theorem ziz {F:Nat -> Prop} (v1 v2:Value) (l1 l2:List Bk) (w:World) (h1:zaE F w v1 l1) (h2:zaE F w v2 l2):
  Calls Tryz.prog 64 #[v1,v2] w fun e w'=>e=.returned (.bool (decide (l1=l2)))/\Ext w w':=by
 obtain ⟨r,hr⟩:∃ r,r=decide (l1=l2):=⟨_,rfl⟩;rw [<- hr];have hn0:=h1.len;obtain ⟨ao1,cap1,rfl⟩:=h1.slice;obtain ⟨ao2,cap2,rfl⟩:=h2.slice;obtain ⟨n,hn⟩:∃ n,n=l1.length:=⟨_,rfl⟩;obtain ⟨m,hm⟩:∃ m,m=l2.length:=⟨_,rfl⟩;rw [<- hn] at h1 hn0 ⊢;rw [<- hm] at h2 ⊢;have hne:((n:Int) !=(m:Int))=!decide (n=m):=by rw [Bool.eq_iff_iff,bne_iff_ne];simp;omega
 replace hn:=Y hn;replace hm:=Y hm;replace h1:=Y h1;replace h2:=Y h2;cases hnm:decide (n=m) with
 | false=>
  rw [hnm] at hne
  have hrf:Hid (r=false):=Y (by
   rw [hr,decide_eq_false_iff_not];intro e;rw [decide_eq_false_iff_not] at hnm
   exact hnm (by rw [hn.o,hm.o,e]))
  replace hr:=Y hr;replace hnm:=Y hnm;go_enter Tryz.func64,Tryz.ntmps64;go_wp2_with fail
  go_ret;exact ⟨by rw [hrf.o];rfl,Mod.refl _ _⟩
 | true=>
  rw [hnm] at hne;obtain rfl:n=m:=by simpa using hnm
  clear hnm;replace hr:r=decide (l1.drop 0=l2.drop 0):=by rw [hr];simp
  replace hr:=Y hr;go_enter Tryz.func64,Tryz.ntmps64;go_wp2_with fail
  go_loopg [5] n (fun g i wr=>∃ j:Nat,j+g=n/\i=.int .i64 j/\Ext w wr/\r=decide (l1.drop j=l2.drop j))
  case atStart=>exact ⟨0,by omega,rfl,Mod.refl _ _,hr.o⟩
  case round=>
   clear hne hr;obtain ⟨j,hj,rfl,hx,hrj⟩:=hrel;replace hj:=Y hj
   by_cases hlt:j < n
   ·have hdi:(j:Int) < (n:Int):=by omega
    have hd:decide ((j:Int) < (n:Int))=true:=decide_eq_true hdi;have hjl1:j < l1.length:=by have:=hn.o;omega
    have hjl2:j < l2.length:=by have:=hm.o;omega
    obtain ⟨b1,o1,a1,m1,c3,rfl,-,hF1,hI1,g0,g1,g2,g3,g4,g5,g6,g7,g8⟩:=(h1.o.ext hx).cells hjl1;obtain ⟨b2,o2,a2,m2,c4,rfl,-,hF2,hI2,f0,f1,f2,f3,f4,f5,f6,f7,f8⟩:=(h2.o.ext hx).cells hjl2;rw [zck hjl1 hjl2] at hrj;have hB:=fun W (hX:Ext wr W)=>zfQ (F:=F) (.slice a1 m1 c3) (.slice a2 m2 c4) l1[j] l2[j] W (hI1.ext hX) (hI2.ext hX)
    clear hI1 hI2 hF1 hF2;generalize hrest:decide (l1.drop (j+1)=l2.drop (j+1))=rest at hrj;replace hrest:=Y hrest;generalize l1[j]=x at*;generalize l2[j]=y at*;obtain ⟨i1,k1,x1,s1,r1,t1,y1,p1,q1⟩:=x;obtain ⟨i2,k2,x2,s2,r2,t2,y2,p2,q2⟩:=y;simp only at*;generalize hdec:decide ((⟨i1,k1,x1,s1,r1,⟨t1,y1,p1,q1⟩⟩:Bk)=⟨i2,k2,x2,s2,r2,⟨t2,y2,p2,q2⟩⟩)=bb at hrj hB;clear hdec;unfold bkC zb0 at hB;simp only at hB;replace hB:=Y (hB _ (Mod.refl (fun _=>False) wr).drew);replace hrj:=Y hrj;replace hx:=Y hx;go_wp2_with fail
    go_still_tail 8,(by kernel_rfl)
    change wpList _ _ _ _ _ wr.drew;go_wp2_with fail
    refine hB.o.mono ?_;rintro e w4 ⟨rfl,hx4⟩;have hx4:=Y (hx.o.drew.trans hx4);clear hB;cases bb with
    | false=>
     go_wp2_with fail
     go_ret;exact ⟨by rw [hrj.o];rfl,hx4.o⟩
    | true=>
     go_wp2_with fail
     go_roundg (gk - 1)
     case measure=>have:=hj.o;omega
     case rel=>exact ⟨j+1,by have:=hj.o;omega,by go_num,hx4.o,by rw [hrj.o,hrest.o,Bool.true_and]⟩
   ·obtain rfl:j=n:=by have:=hj.o;omega
    have hdi:¬ (j:Int) < (j:Int):=by omega
    have hd:decide ((j:Int) < (j:Int))=false:=decide_eq_false hdi;rw [List.drop_eq_nil_of_le (by have:=hn.o;omega),List.drop_eq_nil_of_le (by have:=hm.o;omega)] at hrj;replace hrj:=Y hrj;replace hx:=Y hx;go_wp2_with fail
    go_ret;exact ⟨by rw [hrj.o];rfl,hx.o⟩
theorem zpC {s:Bs} (h:zbT s=true):zcF s=true:=by
 simp only [zbT,zcF,Bool.and_eq_true,decide_eq_true_eq,List.all_eq_true] at h ⊢;refine ⟨by omega,fun c hc=>?_⟩;have:=h.2.2 c hc;simp only [zd8,zdK,Bool.or_eq_true,Bool.and_eq_true,decide_eq_true_eq] at this ⊢;omega
abbrev maxS (s:Bs):Prop:=s.length<=9223372036854775807
theorem zfL {F:Nat -> Prop} (v:Value) (b:Bk) (w:World) (h:zaF F w v b.lb.aft) (hs:maxS b.tx):
  Calls Tryz.prog 175 #[.agg (bkC (v,b)).toArray] w fun e w'=>e=.returned (.bool (vBk b))/\Ext w w':=by
 obtain ⟨id,kd,tx,st,rf,til,aft,app,den⟩:=b;obtain ⟨r,hr⟩:∃ r,r=vBk ⟨id,kd,tx,st,rf,til,aft,app,den⟩:=⟨_,rfl⟩;rw [<- hr];simp only at h hs;unfold vBk at hr;simp only at hr;have hT:=fun W=>zhN ⟨tx.toArray⟩ W hs
 have hN:=fun W=>zdb ⟨tx.toArray⟩ W hs
 simp only at hT hN;have hL:=fun W (hX:Ext w W)=>zc7 (F:=F) v ⟨til,aft,app,den⟩ W (h.ext hX)
 have hnt:zbT tx=true -> zcF tx=true:=zpC;have htx:zdL tx=(decide (1<=tx.length) && zcF tx):=rfl;rw [htx] at hr;generalize zbT tx=bn at hr hN hnt;generalize zcF tx=bt at hr hT hnt;clear htx hs;obtain ⟨ao,cap,rfl⟩:=h.slice;unfold lbC at hL;dsimp only at hL;unfold bkC zb0;dsimp only;generalize aft.length=n at hL ⊢;generalize vLb ⟨til,aft,app,den⟩=bl at hr hL;clear h;have hz:=heap_alloc_new w (.cells #[.int .i64 id,.int .i64 kd,.string ⟨tx.toArray⟩,.int .i64 st,.int .i64 rf,.int .i64 til,.slice ao n cap,.int .i64 app,.int .i64 den] 118);have hx:=Mod.alloc (Mod.refl (fun _=>False) w) (.cells #[.int .i64 id,.int .i64 kd,.string ⟨tx.toArray⟩,.int .i64 st,.int .i64 rf,.int .i64 til,.slice ao n cap,.int .i64 app,.int .i64 den] 118);replace hr:=Y hr;replace hT:=Y hT;replace hN:=Y hN;replace hL:=Y hL;replace hnt:=Y hnt;go_enter Tryz.func175,Tryz.ntmps175;go_upto_region 1 with (fail)
 generalize (w.alloc _)=W at hz hx ⊢;generalize w.heap.size=R at hz ⊢;replace hz:=Y hz;replace hx:=Y hx;have s2:=cS hz.o 2;have s5:=cS hz.o 5;have s6:=cS hz.o 6;have s7:=cS hz.o 7;have s8:=cS hz.o 8;go_wp2_with fail
 refine (hT.o _).mono ?_;rintro e w' ⟨rfl,rfl⟩;go_wp2_with fail
 refine (hL.o _ hx.o).mono ?_;rintro e W2 ⟨rfl,hx2⟩;replace hz:=Y (hx2.at hz.o (fun h=>h));replace hx:=Y (hx.o.trans hx2);clear hx2 s2 s5 s6 s7 s8 hT hL;have s0:=cS hz.o 0;have s1:=cS hz.o 1;have s2:=cS hz.o 2;have s3:=cS hz.o 3;have s4:=cS hz.o 4
 by_cases h1:id < 1
 ·have hrf:Hid (r=false):=Y (by rw [hr.o];unfold rng;rw [decide_eq_false (show ¬ 1<=id by omega)];simp)
  go_wp2_with fail
  go_ret;exact ⟨by rw [hrf.o];rfl,hx.o⟩
 by_cases h2:(1000:Int) < id
 ·have hrf:Hid (r=false):=Y (by rw [hr.o];unfold rng;rw [decide_eq_false (show ¬ id<=1000 by omega)];simp)
  go_wp2_with fail
  go_ret;exact ⟨by rw [hrf.o];rfl,hx.o⟩
 cases bt with
 | false=>
  have hnn:bn=false:=by cases bn with | false=>rfl | true=>exact absurd (hnt.o rfl) (by decide)
  subst hnn;have hrf:Hid (r=false):=Y (by rw [hr.o];simp);go_wp2_with fail
  go_ret;exact ⟨by rw [hrf.o];rfl,hx.o⟩
 | true=>
 cases bl with
 | false=>
  have hrf:Hid (r=false):=Y (by rw [hr.o];simp);go_wp2_with fail
  go_ret;exact ⟨by rw [hrf.o];rfl,hx.o⟩
 | true=>
 have hid1:rng id 1 1000=true:=by unfold rng;simp;omega
 replace hr:=hr.o;rw [hid1,Bool.true_and,Bool.true_and,Bool.and_true] at hr;clear hid1
 by_cases g1:kd=1
 ·subst g1
  rw [if_pos (by decide)] at hr;have e3:=zaj st 0;have e4:=zaj rf 0;generalize decide (st=0)=b3 at e3 hr;generalize decide (rf=0)=b4 at e4 hr;have e2:tx.isEmpty=!decide (1<=tx.length):=by cases tx <;> simp
  cases hb2:decide (1<=tx.length)
  all_goals
   rw [hb2] at e2 hr;simp only [Bool.not_true,Bool.not_false] at e2;replace hb2:=Y hb2;replace hr:=Y hr;go_wp2_with fail
   all_goals
    go_ret;exact ⟨by rw [hr.o];simp [*],hx.o⟩
 by_cases g2:kd=2
 ·subst g2
  rw [if_pos (by decide)] at hr;have e3:=zaj st 0;have e4:=zaj rf 0;generalize decide (st=0)=b3 at e3 hr;generalize decide (rf=0)=b4 at e4 hr;have e2:tx.isEmpty=!decide (1<=tx.length):=by cases tx <;> simp
  cases hb2:decide (1<=tx.length)
  all_goals
   rw [hb2] at e2 hr;simp only [Bool.not_true,Bool.not_false] at e2;replace hb2:=Y hb2;replace hr:=Y hr;go_wp2_with fail
   all_goals
    go_ret;exact ⟨by rw [hr.o];simp [*],hx.o⟩
 by_cases g3:kd=3
 ·subst g3
  rw [if_neg (by decide),if_pos (by decide)] at hr;unfold rng at hr;generalize q1:decide ((1:Int)<=st)=c1 at hr;generalize q2:decide (st<=64)=c2 at hr;generalize q3:decide ((1:Int)<=rf)=c3 at hr;generalize q4:decide (rf<=1000)=c4 at hr;replace hr:=Y hr;go_wp2_with fail
  all_goals
   go_ret;exact ⟨by rw [hr.o];simp [*],hx.o⟩
 by_cases g4:kd=4
 ·subst g4
  rw [if_pos (by decide)] at hr;have e3:=zaj st 0;have e4:=zaj rf 0;generalize decide (st=0)=b3 at e3 hr;generalize decide (rf=0)=b4 at e4 hr;have e2:tx.isEmpty=!decide (1<=tx.length):=by cases tx <;> simp
  cases hb2:decide (1<=tx.length)
  all_goals
   rw [hb2] at e2 hr;simp only [Bool.not_true,Bool.not_false] at e2;replace hb2:=Y hb2;replace hr:=Y hr;go_wp2_with fail
   all_goals
    go_ret;exact ⟨by rw [hr.o];simp [*],hx.o⟩
 by_cases g5:kd=5
 ·subst g5
  rw [if_neg (by decide),if_neg (by decide),if_pos rfl] at hr;have e3:=zaj st 0;have e4:=zaj rf 0;generalize decide (st=0)=b3 at e3 hr;generalize decide (rf=0)=b4 at e4 hr;replace hr:=Y hr;go_wp2_with fail
  refine (hN.o _).mono ?_;rintro e w' ⟨rfl,rfl⟩;go_wp2_with fail
  all_goals
   go_ret;exact ⟨by rw [hr.o];simp [*],hx.o⟩
 rw [if_neg (by omega),if_neg (by omega),if_neg (by omega)] at hr;replace hr:=Y hr;have e1:(kd==1)=false:=by rw [beq_eq_false_iff_ne];exact g1
 have e2:(kd==2)=false:=by rw [beq_eq_false_iff_ne];exact g2
 have e3:(kd==3)=false:=by rw [beq_eq_false_iff_ne];exact g3
 have e4:(kd==4)=false:=by rw [beq_eq_false_iff_ne];exact g4
 have e5:(kd==5)=false:=by rw [beq_eq_false_iff_ne];exact g5
 replace g1:=Y g1;replace g2:=Y g2;replace g3:=Y g3;replace g4:=Y g4;replace g5:=Y g5;go_wp2_with fail
 go_ret;exact ⟨by rw [hr.o];try rfl,hx.o⟩
end Go.Proofs.YtjjfphalcibjfaaGreatDoor
