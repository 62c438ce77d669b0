import Derived.Test.YtjjfphalcibjfaaGreatDoorH0
import Derived.Test.YtjjfphalcibjfaaGreatDoorJ12
set_option maxRecDepth 100000
set_option maxHeartbeats 16000000
namespace Go.Proofs.YtjjfphalcibjfaaGreatDoor
open Go.Shelf Go.RowKit Cdk Scr
attribute [local go_sem] Oper.semAt_some
theorem zo0 {W:World} {k:Nat} {l:Bs} {cs:Array Value} {n m B:Nat} (hk:W.heap[k]?=some (.cells cs 5 (0,0))) (hcs:(l.flatMap u8L).toArray=cs) (hn:l.length=n) (hm:l.length=m) (hB:B<=k) (hl:n<=1000):Cdk.Own W B 5 1 u8L (.slice (some ⟨k,0,none⟩) n m) l:=by
 subst hcs hn;rw [<- hm];have hf:(l.flatMap u8L).length=l.length:=by rw [flat_length u8L 1 zev,Nat.mul_one]
 refine ⟨by rw [hf,Nat.mul_one],.inr ⟨k,l.length,_,rfl,hB,hk,Nat.le_refl _,by unfold maxLen;omega,by simp [hf],?_⟩⟩;rw [List.toList_toArray,Nat.mul_one,List.take_of_length_le (Nat.le_of_eq hf)]
theorem zlF {f g n:Nat} (h1:n < 10 ^ f) (h2:n < 10 ^ g) (hf:0 < f) (hg:0 < g):zcT f n=zcT g n:=by rw [ze2 f n h1 hf,ze2 g n h2 hg]
theorem zmG {n:Nat} (h:n < 10):IntKind.u8.wrap (48+(n:Int))=((dig n).toNat:Int):=by rw [zdA h,show (48:Int)+n=((48+n:Nat):Int) by omega];exact u8_in _ (by omega)
def zo2 (t:Bs) (w:World) (e:Ending) (w':World):Prop:=e=.returned (.string ⟨t.toArray⟩)/\Ext w w'
theorem zhy:∀ (f n:Nat),n < 10 ^ (f+1) -> n < 4611686018427387904 -> f<=19 -> ∀ w:World,Calls Tryz.prog 74 #[.int .i64 n] w (zo2 (zcT (f+1) n) w):=by
 intro f
 induction f with
 | zero=>
  intro n hn _ _ w;have hn':n < 10:=by simpa using hn
  have i0:¬ (n:Int) < 0:=by omega
  have i1:(n:Int) < 10:=by omega
  have i2:IntKind.i64.wrap (48+(n:Int))=48+(n:Int):=IntWalk.i64_in _ (by omega);have i2b:wrap64 (48+(n:Int))=48+(n:Int):=IntWalk.wrap64_in _ (by omega);have i3:=zmG hn';have hd:zcT 1 n=[dig n]:=by rw [zcT,if_pos hn']
  rw [hd];generalize dig n=c at i3;have hO:=zo0 (heap_alloc_new w (.cells #[.int .u8 c.toNat] 5)) (l:=[c]) rfl rfl rfl (Nat.le_refl _) (by simp);have hxa:=Y (Mod.alloc (Mod.refl (fun _=>False) w) (.cells #[.int .u8 c.toNat] 5));obtain ⟨a9,c9,e9,hcv⟩:=zeY hO;injection e9 with e91 _ e93
  subst e91 e93;have hl1:[c].length=1:=rfl;rw [hl1] at hcv;clear hO hd hn;unfold zo2;go_enter Tryz.func74,Tryz.ntmps74;go_wp2_with fail
  go_ret;exact ⟨rfl,hxa.o⟩
 | succ f ih=>
  intro n hn h62 hf w
  by_cases hn':n < 10
  ·have:=ih n (Nat.lt_of_lt_of_le hn' (Nat.le_self_pow (by omega) 10)) h62 (by omega) w
   rw [zlF (f:=f+1+1) (g:=f+1) (Nat.lt_of_lt_of_le hn' (Nat.le_self_pow (by omega) 10)) (Nat.lt_of_lt_of_le hn' (Nat.le_self_pow (by omega) 10)) (by omega) (by omega)];exact this
  ·have i0:¬ (n:Int) < 0:=by omega
   have i1:¬ (n:Int) < 10:=by omega
   have q1:(n:Int).tdiv 10=((n / 10:Nat):Int):=by rw [Int.tdiv_eq_ediv_of_nonneg (by omega)];omega
   have q2:(n:Int).tmod 10=((n % 10:Nat):Int):=by rw [Int.tmod_eq_emod_of_nonneg (by omega)];omega
   have hA:=ih (n / 10) (by rw [Nat.div_lt_iff_lt_mul (by decide)];rw [Nat.pow_succ] at hn;exact hn) (by omega) (by omega);have hB:=ih (n % 10) (Nat.lt_of_lt_of_le (Nat.mod_lt _ (by decide)) (Nat.le_self_pow (by omega) 10)) (by omega) (by omega);have hb:zcT (f+1) (n % 10)=[dig (n % 10)]:=by rw [zcT,if_pos (Nat.mod_lt _ (by decide))]
   have hd:zcT (f+1+1) n=zcT (f+1) (n / 10)++[dig (n % 10)]:=by rw [zcT,if_neg hn']
   have hl:=zdM (f+1) (n / 10);rw [hb] at hB;rw [hd];generalize dig (n % 10)=c at hB;generalize zcT (f+1) (n / 10)=t at hA hl;have r1:wrap64 ((n / 10:Nat):Int)=((n / 10:Nat):Int):=IntWalk.wrap64_in _ (by omega);have r2:IntKind.i64.wrap ((n / 10:Nat):Int)=((n / 10:Nat):Int):=IntWalk.i64_in _ (by omega);generalize n / 10=m1 at q1 hA r1 r2;generalize n % 10=m2 at q2 hB;obtain ⟨T,hT⟩:∃ T:ByteArray,T=⟨t.toArray⟩:=⟨_,rfl⟩;have hTs:T.size=t.length:=by rw [hT];rfl
   have hs1:T.size+(⟨#[c]⟩:ByteArray).size<=1000000:=by rw [hTs];show t.length+1<=_;omega
   have hfin:Hid ((T++(⟨#[c]⟩:ByteArray))=⟨(t++[c]).toArray⟩):=Y (by rw [hT];exact zbl t [c]);unfold zo2 at hA hB;rw [<- hT] at hA;replace hA:=Y hA;replace hB:=Y hB;clear hn h62 hb hd ih hT hl hTs;unfold zo2;go_enter Tryz.func74,Tryz.ntmps74;go_wp2_with fail
   refine (hA.o _).mono ?_;rintro e w1 ⟨rfl,hx1⟩;replace hx1:=Y hx1;go_wp2_with fail
   refine (hB.o _).mono ?_;rintro e w2 ⟨rfl,hx2⟩;replace hx2:=Y (hx1.o.trans hx2);go_wp2_with fail
   go_ret;exact ⟨by rw [<- hfin.o];try rfl,hx2.o⟩
theorem zaP (n:Int) (h1:-9<=n) (h2:n<=4611686018427387903) (w:World):Calls Tryz.prog 74 #[.int .i64 n] w fun e w'=>e=.returned (.string ⟨(itoa n).toArray⟩)/\Ext w w':=by
 by_cases hn:n < 0
 ·obtain ⟨q,rfl⟩:∃ q:Nat,n=-(q:Int):=⟨n.natAbs,by omega⟩
  have hit:itoa (-(q:Int))=45::zcT 20 q:=by unfold itoa;rw [if_pos hn];simp
  have hA:=zhy 19 q (Nat.lt_of_le_of_lt (show q<=9 by omega) (by decide)) (by omega) (by omega);have hl:=zdM 20 q;rw [hit];generalize zcT 20 q=t at hA hl;obtain ⟨T,hT⟩:∃ T:ByteArray,T=⟨t.toArray⟩:=⟨_,rfl⟩;have hTs:T.size=t.length:=by rw [hT];rfl
  have hs1:(⟨#[45]⟩:ByteArray).size+T.size<=1000000:=by rw [hTs];show 1+t.length<=_;omega
  have hfin:Hid (((⟨#[45]⟩:ByteArray)++T)=⟨(45::t).toArray⟩):=Y (by rw [hT];exact zbl [45] t);have i1:(-10:Int) < -(q:Int):=by omega
  have i2:wrap64 (- -(q:Int))=(q:Int):=by rw [Int.neg_neg];exact IntWalk.wrap64_in _ (by omega)
  unfold zo2 at hA;rw [<- hT] at hA;replace hA:=Y hA;clear hit hT hl hTs;go_enter Tryz.func74,Tryz.ntmps74;go_wp2_with fail
  refine (hA.o _).mono ?_;rintro e w1 ⟨rfl,hx1⟩;replace hx1:=Y hx1;go_wp2_with fail
  go_ret;exact ⟨by rw [<- hfin.o];try rfl,hx1.o⟩
 ·obtain ⟨q,rfl⟩:∃ q:Nat,n=(q:Int):=⟨n.toNat,by omega⟩
  have hit:itoa (q:Int)=zcT 20 q:=by unfold itoa;rw [if_neg hn];simp
  rw [hit];exact zhy 19 q (Nat.lt_of_lt_of_le (show q < 4611686018427387904 by omega) (by decide)) (by omega) (by omega) w
theorem zhA (c:UInt8):∀ (l:List Bs) (x:Bs),l ≠ [] -> Scr.join c (l++[x])=Scr.join c l++c::x
 | [],_,h=>absurd rfl h
 | [y],x,_=>rfl
 | y::z::l,x,_=>by
  have ih:=zhA c (z::l) x (by simp);show y++c::Scr.join c (z::l++[x])=_
  rw [ih];simp [Scr.join]
theorem zbg {F:Nat -> Prop} (v:Value) (l:List Bs) (c:UInt8) (w:World) (h:zbC F w v l) (hn0:l.length<=1000) (hk:∀ x ∈ l,x.length<=3000000):
  Calls Tryz.prog 78 #[v,.string ⟨#[c]⟩] w fun e w'=>e=.returned (.string ⟨(Scr.join c l).toArray⟩)/\w=w':=by
 obtain ⟨tz,htz⟩:∃ tz,tz=Scr.join c l:=⟨_,rfl⟩;rw [<- htz];obtain ⟨ao,cap,rfl⟩:=h.slice;obtain ⟨n,hn⟩:∃ n,n=l.length:=⟨_,rfl⟩;rw [<- hn] at h hn0 ⊢
 have hle:Hid (∀ j,(Scr.join c (l.take j)).length<=1000*3000001):=Y (fun j=>by
  have:=zdd c 3000000 (l.take j) (fun x hx=>hk x (List.mem_of_mem_take hx));have h2:(l.take j).length<=1000:=by rw [List.length_take];omega
  exact Nat.le_trans this (Nat.mul_le_mul_right _ h2))
 replace htz:=Y htz;replace hn:=Y hn;replace h:=Y h;replace hk:=Y hk;go_enter Tryz.func78,Tryz.ntmps78;go_wp2_with fail
 go_loopg [5,6] n (fun g s i wr=>∃ (j:Nat) (T:ByteArray),j+g=n/\i=.int .i64 j/\s=.string T/\T=⟨(Scr.join c (l.take j)).toArray⟩/\w=wr)
 case atStart=>exact ⟨0,⟨#[]⟩,by omega,rfl,rfl,rfl,rfl⟩
 case round=>
  obtain ⟨j,T,hj,rfl,rfl,hT,rfl⟩:=hrel;replace hj:=Y hj;have hTs:T.size<=1000*3000001:=by rw [hT];exact hle.o j
  by_cases hlt:j < n
  ·have hdi:(j:Int) < (n:Int):=by omega
   have hd:decide ((j:Int) < (n:Int))=true:=decide_eq_true hdi;have hjl:j < l.length:=by have:=hn.o;omega
   have h':=h.o;rw [hn.o] at h';obtain ⟨b,off,cc,e0,-,hcL⟩:=zac.get h' 1 zaC (by decide) hjl;injection e0 with e1 e2 e3
   subst e1;subst e3;have hcell:=hcL 0 (.string ⟨l[j].toArray⟩) (by decide) rfl;simp only [Nat.mul_one,Nat.add_zero] at hcell;have hxl:=hk.o l[j] (List.getElem_mem _);have htk:l.take (j+1)=l.take j++[l[j]]:=List.take_succ_eq_append_getElem hjl;generalize hx:l[j]=x at hcell hxl htk;obtain ⟨X,hX⟩:∃ X:ByteArray,X=⟨x.toArray⟩:=⟨_,rfl⟩;have hXs:X.size<=3000000:=by rw [hX];exact hxl
   rw [<- hX] at hcell;clear hcL h' hx e2 hxl
   by_cases hj0:j=0
   ·subst hj0
    simp only [Nat.add_zero] at hcell;have hnx:Hid (T++X=⟨(Scr.join c (l.take (0+1))).toArray⟩):=Y (by rw [htk,hT,hX];simp only [List.take_zero,List.nil_append];exact zbl [] x);have hs1:T.size+X.size<=4000000000:=by omega
    replace hT:=Y hT;replace hX:=Y hX;replace htk:=Y htk;go_wp2_with fail
    go_roundg (gk - 1)
    case measure=>have:=hj.o;omega
    case rel=>exact ⟨0+1,T++X,by have:=hj.o;omega,by go_num,rfl,hnx.o,rfl⟩
   ·have hj1:(0:Int) < (j:Int):=by omega
    have hj2:decide (0 < j)=true:=decide_eq_true (by omega);have hs1:T.size+(⟨#[c]⟩:ByteArray).size<=4000000000:=by show T.size+1<=_;omega
    obtain ⟨U,hU⟩:∃ U:ByteArray,U=T++(⟨#[c]⟩:ByteArray):=⟨_,rfl⟩;have hUs:U.size+X.size<=4000000000:=by rw [hU,ByteArray.size_append];show T.size+1+X.size<=_;omega
    have hnx:Hid (U++X=⟨(Scr.join c (l.take (j+1))).toArray⟩):=Y (by
     rw [htk,zhA c _ x (by intro e;have:=congrArg List.length e;rw [List.length_take,List.length_nil] at this;omega),hU,hT,hX,show (⟨#[c]⟩:ByteArray)=⟨([c]:Bs).toArray⟩ from rfl,zbl,zbl]
     simp)
    rw [hU] at hUs hnx;replace hT:=Y hT;replace hX:=Y hX;replace htk:=Y htk;clear hU;go_wp2_with fail
    go_roundg (gk - 1)
    case measure=>have:=hj.o;omega
    case rel=>exact ⟨j+1,T++(⟨#[c]⟩:ByteArray)++X,by have:=hj.o;omega,by go_num,rfl,hnx.o,rfl⟩
  ·obtain rfl:j=n:=by have:=hj.o;omega
   have hdi:¬ (j:Int) < (j:Int):=by omega
   have hd:decide ((j:Int) < (j:Int))=false:=decide_eq_false hdi;rw [List.take_of_length_le (by have:=hn.o;omega),<- htz.o] at hT;replace hT:=Y hT;go_wp2_with fail
   go_ret;exact ⟨by rw [hT.o];try rfl,rfl⟩
theorem zgd {F:Nat -> Prop} (v:Value) (l:List Bs) (w:World) (h:zbC F w v l) (hn0:l.length<=1000) (hk:∀ x ∈ l,x.length<=1000000):
  Calls Tryz.prog 155 #[v] w fun e w'=>e=.returned (.string ⟨(listW l).toArray⟩)/\w=w':=by
 have hjn:=Y (zbg v l 44 w h hn0 (fun x hx=>Nat.le_trans (hk x hx) (by decide)));obtain ⟨ao,cap,rfl⟩:=h.slice;obtain ⟨n,hn⟩:∃ n,n=l.length:=⟨_,rfl⟩;rw [<- hn] at hjn hn0 ⊢
 by_cases h0:n=0
 ·have htz:Hid (listW l=[42]):=Y (by
   have:l=[]:=List.eq_nil_of_length_eq_zero (by omega)
   rw [this];rfl)
  subst h0;clear hn hjn h;go_enter Tryz.func155,Tryz.ntmps155;go_wp2_with fail
  go_ret;exact ⟨by rw [htz.o];rfl,rfl⟩
 ·have htz:Hid (listW l=Scr.join 44 l):=Y (by unfold listW;rw [if_neg (by intro e;rw [List.isEmpty_iff] at e;subst e;simp at hn;omega)])
  have hn1:((n:Int)==0)=false:=by rw [beq_eq_false_iff_ne];omega
  have hni:¬ (n:Int)=0:=by omega
  replace hn:=Y hn;clear h;go_enter Tryz.func155,Tryz.ntmps155;go_wp2_with fail
  refine hjn.o.mono ?_;rintro e w1 ⟨rfl,rfl⟩;go_wp2_with fail
  go_ret;exact ⟨by rw [htz.o];try rfl,rfl⟩
theorem zem {F:Nat -> Prop} (v:Value) (l:List Int) (hl:∀ x ∈ l,-9<=x/\x<=4611686018427387903) (w:World) (_hF:∀ k,F k -> k < w.heap.size) (h:zaF F w v l) (hn0:l.length<=1000):
  Calls Tryz.prog 75 #[v] w fun e w'=>e=.returned (.string ⟨(listW (l.map itoa)).toArray⟩)/\Ext w w':=by
 obtain ⟨tz,htz⟩:∃ tz,tz=listW (l.map itoa):=⟨_,rfl⟩;rw [<- htz];obtain ⟨ao,cap,rfl⟩:=h.slice;obtain ⟨n,hn⟩:∃ n,n=l.length:=⟨_,rfl⟩;rw [<- hn] at h hn0 ⊢;replace htz:=Y htz;replace hn:=Y hn;replace h:=Y h;replace hl:=Y hl;go_enter Tryz.func75,Tryz.ntmps75;go_wp2_with fail
 go_loopg [3,4] n (fun g s i wr=>∃ (j:Nat) (av:Option Addr) (cv:Nat),j+g=n/\i=.int .i64 j/\s=.slice av j cv/\Cdk.Own wr w.heap.size 9 1 zdz (.slice av j cv) ((l.map itoa).take j)/\Ext w wr)
 case atStart=>exact ⟨0,none,0,by omega,rfl,rfl,Own.nil _ _ _ _ _,Mod.refl _ _⟩
 case round=>
  obtain ⟨j,av,cv,hj,rfl,rfl,hO,hx⟩:=hrel;replace hj:=Y hj;have hsz:w.heap.size<=wr.heap.size:=hx.size
  by_cases hlt:j < n
  ·have hdi:(j:Int) < (n:Int):=by omega
   have hd:decide ((j:Int) < (n:Int))=true:=decide_eq_true hdi;have hjl:j < l.length:=by have:=hn.o;omega
   have h':=h.o.ext hx;rw [hn.o] at h';obtain ⟨b',off,rfl,c0⟩:=zbG h' hjl;have htk:(l.map itoa).take (j+1)=(l.map itoa).take j++[itoa l[j]]:=by
    rw [List.take_succ_eq_append_getElem (by rw [List.length_map];omega)];rw [List.getElem_map]
   have hcl:=Y (fun W=>zaP l[j] (hl.o _ (List.getElem_mem _)).1 (hl.o _ (List.getElem_mem _)).2 W);generalize l[j]=x at c0 hcl htk;generalize itoa x=tx at hcl htk;replace hO:=Y hO;replace hx:=Y hx;replace htk:=Y htk;clear h';go_wp2_with fail
   refine (hcl.o _).mono ?_;rintro e w2 ⟨rfl,hx2⟩;have hO2:=Y (hO.o.ext hx2);have hx2:=Y (hx.o.trans hx2);clear hcl hO hx;have hsz2:w.heap.size<=w2.heap.size:=hx2.o.size;have hlt2:((l.map itoa).take j).length<=1000:=by rw [List.length_take,List.length_map];omega
   replace hlt2:=Y hlt2;go_wp2_with (at_builtin;refine zaI rfl _ _ _ rfl Tryz.underlying22 el9 rfl (hO2.o.ext ((Mod.refl _ _).alloc _)) _ 1 1 rfl [tx] rfl (by exact zaJ.new _ _ _) zaC (fun y hy u hu=>by simp only [List.mem_singleton] at hy;subst hy;simp [zdz] at hu;subst hu;rfl) (by have:=hlt2.o;simp only [List.length_singleton];omega) (by rw [World.size_alloc];omega) (fun e=>nomatch e) (fun v6 w6 H6=>?_);skip)
   obtain ⟨hO6,hm6⟩:=H6.o;have hx6:=Y (zbi (hx2.o.trans ((Mod.refl _ w2).alloc _)) (hO2.o.ext ((Mod.refl _ w2).alloc _)) (Nat.le_refl _) hm6);rw [<- htk.o] at hO6;obtain ⟨av6,cv6,rfl,-⟩:=hO6.row;have e6:((l.map itoa).take (j+1)).length=j+1:=by rw [List.length_take,List.length_map];omega
   rw [e6] at hO6 ⊢;clear H6 hm6 e6;replace hO6:=Y hO6;go_wp2_with fail
   go_roundg (gk - 1)
   case measure=>have:=hj.o;omega
   case rel=>exact ⟨j+1,av6,cv6,by have:=hj.o;omega,by go_num,rfl,hO6.o,hx6.o⟩
  ·obtain rfl:j=n:=by have:=hj.o;omega
   have hdi:¬ (j:Int) < (j:Int):=by omega
   have hd:decide ((j:Int) < (j:Int))=false:=decide_eq_false hdi;rw [List.take_of_length_le (by have:=hn.o;rw [List.length_map];omega)] at hO;have hrow:=zbk hO (by have:=hn.o;rw [List.length_map];omega)
   have hjn:=Y (zgd (.slice av j cv) _ wr hrow (by have:=hn.o;rw [List.length_map];omega) (fun x hx=>by
    obtain ⟨z,-,rfl⟩:=List.mem_map.1 hx
    exact Nat.le_trans (zaR z) (by decide)))
   rw [<- htz.o] at hjn;replace hx:=Y hx;clear hO hrow;go_wp2_with fail
   refine hjn.o.mono ?_;rintro e w1 ⟨rfl,rfl⟩;go_wp2_with fail
   go_ret;exact ⟨rfl,hx.o⟩
theorem zhb (t:Bs) (w:World) (hlen:t.length<=1000000):
  Calls Tryz.prog 77 #[.string ⟨t.toArray⟩] w fun e w'=>e=.returned (.string ⟨(hexW t).toArray⟩)/\Ext w w':=by
 obtain ⟨tz,htz⟩:∃ tz,tz=hexW t:=⟨_,rfl⟩;rw [<- htz];obtain ⟨s,hs⟩:∃ s:ByteArray,s=⟨t.toArray⟩:=⟨_,rfl⟩;have hst:s.data.toList=t:=by rw [hs]
 have hsl:s.size<=1000000:=by rw [hs];exact hlen
 have he:s.toList.isEmpty=t.isEmpty:=by rw [hs];simp
 rw [<- hs];cases hb:t.isEmpty with
 | true=>
  replace htz:=Y (show tz=[42] by rw [htz,hexW,if_pos hb]);rw [hb] at he;clear hst hb;replace hs:=Y hs;go_enter Tryz.func77,Tryz.ntmps77;go_wp2_with fail
  go_ret;exact ⟨by rw [htz.o];rfl,Mod.refl _ _⟩
 | false=>
  replace htz:tz=s.data.toList.flatMap zhE:=by rw [htz,hexW,if_neg (by rw [hb];decide),hst];rfl
  rw [hb] at he;clear hst hb;replace hs:=Y hs;replace htz:=Y htz;go_enter Tryz.func77,Tryz.ntmps77;go_wp2_with fail
  go_loopg [3,4] s.size (fun g o i wr=>∃ (j:Nat) (ty:Bs),j+g=s.size/\i=.int .i64 j/\o=.string ⟨ty.toArray⟩/\Ext w wr/\tz=ty++(s.data.toList.drop j).flatMap zhE/\ty.length=2*j)
  case atStart=>exact ⟨0,[],by omega,rfl,rfl,Mod.refl _ _,htz.o,by simp⟩
  case round=>
   clear htz;obtain ⟨j,ty,hj,rfl,rfl,hx,ht,hlen⟩:=hrel;replace hj:=Y hj
   by_cases hlt:j < s.size
   ·have hd:decide ((j:Int) < (s.size:Int))=true:=decide_eq_true (by omega)
    have hdi:(j:Int) < (s.size:Int):=by omega
    rw [drop_at s hlt] at ht;have ht2:tz=((ty++[hexD (s[j].toNat / 16)])++[hexD (s[j].toNat % 16)])++(s.data.toList.drop (j+1)).flatMap zhE:=by rw [ht];simp [zhE]
    clear ht;have hc:=s[j].toNat_lt;have e1:(s[j].toNat:Int).tdiv 16=((s[j].toNat / 16:Nat):Int):=by rw [Int.tdiv_eq_ediv_of_nonneg (by omega)];omega
    have e2:(s[j].toNat:Int).tmod 16=((s[j].toNat % 16:Nat):Int):=by rw [Int.tmod_eq_emod_of_nonneg (by omega)];omega
    have k1:s[j].toNat / 16 < 16:=by omega
    have k2:s[j].toNat % 16 < 16:=by omega
    generalize s[j].toNat / 16=x at e1 k1 ht2;generalize s[j].toNat % 16=y at e2 k2 ht2;have f1:IntKind.u8.wrap ((x:Int)+1)=(x:Int)+1:=by rw [show (x:Int)+1=((x+1:Nat):Int) by omega];exact u8_in _ (by omega)
    have f2:IntKind.u8.wrap ((y:Int)+1)=(y:Int)+1:=by rw [show (y:Int)+1=((y+1:Nat):Int) by omega];exact u8_in _ (by omega)
    have g1:(⟨#[48,49,50,51,52,53,54,55,56,57,97,98,99,100,101,102]⟩:ByteArray).extract x (x+1)=⟨#[hexD x]⟩:=by
     have:∀ k:Fin 16,(⟨#[48,49,50,51,52,53,54,55,56,57,97,98,99,100,101,102]⟩:ByteArray).extract k.val (k.val+1)=⟨#[hexD k.val]⟩:=by decide+kernel
     exact this ⟨x,k1⟩
    have g2:(⟨#[48,49,50,51,52,53,54,55,56,57,97,98,99,100,101,102]⟩:ByteArray).extract y (y+1)=⟨#[hexD y]⟩:=by
     have:∀ k:Fin 16,(⟨#[48,49,50,51,52,53,54,55,56,57,97,98,99,100,101,102]⟩:ByteArray).extract k.val (k.val+1)=⟨#[hexD k.val]⟩:=by decide+kernel
     exact this ⟨y,k2⟩
    have x16:(x:Int)+1<=16:=by omega
    have y16:(y:Int)+1<=16:=by omega
    generalize hexD x=cx at g1 ht2;generalize hexD y=cy at g2 ht2;obtain ⟨T,hT⟩:∃ T:ByteArray,T=⟨ty.toArray⟩:=⟨_,rfl⟩;have hTs:T.size=2*j:=by rw [hT];exact hlen
    have s1:T.size+(⟨#[cx]⟩:ByteArray).size<=3000000:=by show T.size+1<=_;omega
    have s2:(T++(⟨#[cx]⟩:ByteArray)).size+(⟨#[cy]⟩:ByteArray).size<=3000000:=by rw [ByteArray.size_append];show T.size+1+1<=_;omega
    have hnx:Hid (T++(⟨#[cx]⟩:ByteArray)++(⟨#[cy]⟩:ByteArray)=⟨(ty++[cx]++[cy]).toArray⟩):=Y (by rw [hT,show (⟨#[cx]⟩:ByteArray)=⟨([cx]:Bs).toArray⟩ from rfl,show (⟨#[cy]⟩:ByteArray)=⟨([cy]:Bs).toArray⟩ from rfl,zbl,zbl]);rw [<- hT];replace hT:=Y hT;replace hTs:=Y hTs;replace ht2:=Y ht2;replace hlen:=Y hlen;replace hx:=Y hx;go_wp2_with fail
    go_quiet (fail)
    go_wp2_with fail
    go_roundg (gk - 1)
    case measure=>have:=hj.o;omega
    case rel=>exact ⟨j+1,ty++[cx]++[cy],by have:=hj.o;omega,by go_num,by rw [hnx.o],hx.o.ofDrewN _,by rw [ht2.o],by have:=hlen.o;simp;omega⟩
   ·obtain rfl:j=s.size:=by have:=hj.o;omega
    have hdi:¬ (s.size:Int) < (s.size:Int):=by omega
    have hd:decide ((s.size:Int) < (s.size:Int))=false:=decide_eq_false hdi;rw [List.drop_eq_nil_of_le (Nat.le_of_eq (zaN s).symm)] at ht;replace ht:=Y ht;replace hx:=Y hx;go_wp2_with fail
    go_ret;exact ⟨by rw [ht.o];simp,hx.o⟩
attribute [local go_sem] Oper.semAt_some
theorem zcD (t:Bs) (c:UInt8) (K M:Nat) (hM:M=K+1) (hs:t.length<=1000000) (hK:K<=10000000) (w:World):Calls Tryz.prog 51 #[.string ⟨t.toArray⟩,.int .u8 c.toNat,.int .i64 M] w (InP (zat c K t) w):=by
 obtain ⟨P,hP⟩:∃ P,P=zat c K t:=⟨_,rfl⟩;have hst:=WdP.start t c K;rw [<- hP];obtain ⟨S,hS⟩:∃ S:ByteArray,S=⟨t.toArray⟩:=⟨_,rfl⟩;have hSs:S.size=t.length:=by rw [hS];rfl
 have hex:Hid (∀ a b:Nat,S.extract a b=⟨((t.take b).drop a).toArray⟩):=Y (fun a b=>by rw [hS,zdD]);have hget:Hid (∀ (j:Nat) (h:j < S.size) (h2:j < t.length),S[j]=t[j]):=Y (fun j h h2=>by subst hS;rfl);rw [<- hS];have hsl:S.size<=1000000:=by omega
 have hMi:(M:Int)=(K:Int)+1:=by omega
 rw [hMi];have hK1:IntKind.i64.wrap ((K:Int)+1 - 1)=(K:Int):=by rw [IntWalk.i64_in _ (by omega)];omega
 have hK2:wrap64 ((K:Int)+1 - 1)=(K:Int):=by rw [IntWalk.wrap64_in _ (by omega)];omega
 replace hS:=Y hS;replace hP:=Y hP;replace hSs:=Y hSs;replace hst:=Y hst;clear hM hMi;go_enter Tryz.func51,Tryz.ntmps51;go_wp2_with fail
 go_loopg [7,8,9] S.size (fun g o f i wr=>∃ (j k:Nat) (pre:List Bs) (av:Option Addr) (cv:Nat),j+g=S.size/\i=.int .i64 j/\f=.int .i64 k/\o=.slice av pre.length cv/\WdP t c K pre k j/\pre.length<=j/\Cdk.Own wr w.heap.size 9 1 zdz (.slice av pre.length cv) pre/\Ext w wr)
 case atStart=>exact ⟨0,0,[],none,0,by omega,rfl,rfl,rfl,hst.o,by simp,Own.nil _ _ _ _ _,Mod.refl _ _⟩
 case round=>
  clear hst;obtain ⟨j,k,pre,av,cv,hj,rfl,rfl,rfl,hL,hpj,hO,hx⟩:=hrel;have hsz:w.heap.size<=wr.heap.size:=hx.size;have hjl:j<=S.size:=by omega
  have hkj:k<=j:=hL.le;have hkji:(k:Int)<=(j:Int):=by omega
  replace hj:=Y hj;replace hO:=Y hO;replace hx:=Y hx
  by_cases hlt:j < S.size
  ·have hdi:(j:Int) < (S.size:Int):=by omega
   have hd:decide ((j:Int) < (S.size:Int))=true:=decide_eq_true hdi;have hjt:j < t.length:=by have:=hSs.o;omega
   have hgj:=hget.o j hlt hjt;have hjw:IntKind.i64.wrap ((j:Int)+1)=(j:Int)+1:=IntWalk.i64_in _ (by omega);have hxe:=hex.o k j;have htd:(t.take j).drop k=(t.drop k).take (j - k):=by rw [List.drop_take]
   rw [htd] at hxe
   by_cases hc:t[j]=c
   ·have hbi:(S[j].toNat:Int)=(c.toNat:Int):=by rw [hgj,hc]
    have hbe:((S[j].toNat:Int)==(c.toNat:Int))=true:=by rw [hbi];simp
    by_cases hp:pre.length < K
    ·have hpi:(pre.length:Int) < (K:Int):=by omega
     have hnext:=Y (hL.cut hjt hc hp);obtain ⟨X,hX⟩:∃ X,X=(t.drop k).take (j - k):=⟨_,rfl⟩;rw [<- hX] at hxe hnext;replace hX:=Y hX;replace hL:=Y hL;replace hbi:=Y hbi;replace hc:=Y hc;replace hgj:=Y hgj;have hxa:=Mod.alloc (Mod.refl (fun _=>False) wr) (.cells #[.string ⟨X.toArray⟩] 9);go_wp2_with (at_builtin;refine zaI rfl _ _ _ rfl Tryz.underlying22 el9 rfl (hO.o.ext hxa) _ 1 1 rfl [X] rfl (by exact zaJ.new _ _ _) zaC (fun y hy u hu=>by simp only [List.mem_singleton] at hy;subst hy;simp [zdz,zb0] at hu;subst hu;rfl) (by simp only [List.length_singleton];omega) (by rw [World.size_alloc];omega) (fun e=>nomatch e) (fun v6 w6 H6=>Hid.o ?_))
     obtain ⟨hO6,hm6⟩:=H6.o;have hx6:=Y (zbi (hx.o.trans hxa) (hO.o.ext hxa) (Nat.le_refl _) hm6);obtain ⟨av6,cv6,rfl,-⟩:=hO6.row;have hl6:(pre++[X]).length=pre.length+1:=by simp
     rw [hl6];rw [hl6] at hO6;clear H6 hm6 hxa;replace hO6:=Y hO6;refine Y ?_;go_wp2_with fail
     go_roundg (gk - 1)
     case measure=>have:=hj.o;omega
     case rel=>exact ⟨j+1,j+1,pre++[X],av6,cv6,by have:=hj.o;omega,by go_num,by go_num,by rw [hl6],hnext.o,by rw [hl6];omega,by rw [hl6];exact hO6.o,hx6.o⟩
    ·have hpi:¬ (pre.length:Int) < (K:Int):=by omega
     have hnext:=Y (hL.pass hjt (.inr hp));replace hL:=Y hL;replace hbi:=Y hbi;replace hc:=Y hc;replace hgj:=Y hgj;replace hxe:=Y hxe;go_wp2_with fail
     go_roundg (gk - 1)
     case measure=>have:=hj.o;omega
     case rel=>exact ⟨j+1,k,pre,av,cv,by have:=hj.o;omega,by go_num,rfl,rfl,hnext.o,by omega,hO.o,hx.o⟩
   ·have hbi:¬ (S[j].toNat:Int)=(c.toNat:Int):=fun e=>hc (by rw [<- hgj];exact UInt8.toNat_inj.1 (by omega))
    have hbe:((S[j].toNat:Int)==(c.toNat:Int))=false:=by rw [beq_eq_false_iff_ne];exact hbi
    have hnext:=Y (hL.pass hjt (.inl hc));replace hL:=Y hL;replace hc:=Y hc;replace hgj:=Y hgj;replace hxe:=Y hxe;go_wp2_with fail
    go_roundg (gk - 1)
    case measure=>have:=hj.o;omega
    case rel=>exact ⟨j+1,k,pre,av,cv,by have:=hj.o;omega,by go_num,rfl,rfl,hnext.o,by omega,hO.o,hx.o⟩
  ·obtain rfl:j=S.size:=by have:=hj.o;omega
   have hdi:¬ (S.size:Int) < (S.size:Int):=by omega
   have hd:decide ((S.size:Int) < (S.size:Int))=false:=decide_eq_false hdi;have hlast:zat c K t=pre++[t.drop k]:=WdP.last (by rw [<- hSs.o];exact hL);rw [<- hP.o] at hlast;have hxe:=hex.o k S.size;rw [List.take_of_length_le (by have:=hSs.o;omega)] at hxe;obtain ⟨X,hX⟩:∃ X,X=t.drop k:=⟨_,rfl⟩;rw [<- hX] at hxe hlast;replace hX:=Y hX;replace hL:=Y hL;have hxa:=Mod.alloc (Mod.refl (fun _=>False) wr) (.cells #[.string ⟨X.toArray⟩] 9);go_wp2_with (at_builtin;refine zaI rfl _ _ _ rfl Tryz.underlying22 el9 rfl (hO.o.ext hxa) _ 1 1 rfl [X] rfl (by exact zaJ.new _ _ _) zaC (fun y hy u hu=>by simp only [List.mem_singleton] at hy;subst hy;simp [zdz,zb0] at hu;subst hu;rfl) (by simp only [List.length_singleton];omega) (by rw [World.size_alloc];omega) (fun e=>nomatch e) (fun v6 w6 H6=>Hid.o ?_))
   obtain ⟨hO6,hm6⟩:=H6.o;have hx6:=Y (zbi (hx.o.trans hxa) (hO.o.ext hxa) (Nat.le_refl _) hm6);rw [<- hlast] at hO6;have hl6:P.length=pre.length+1:=by rw [hlast];simp
   have hrow:=zbk hO6 (by omega);obtain ⟨av6,cv6,rfl,-⟩:=hO6.row;replace hrow:=Y hrow;replace hlast:=Y hlast;replace hl6:=Y hl6;clear H6 hm6 hxa hO6;refine Y ?_;go_wp2_with fail
   go_ret;exact ⟨av6,cv6,by simp [hlast.o],hrow.o,hx6.o⟩
theorem zgq (t:Bs) (hs:t.length<=1000000) (w:World):Calls Tryz.prog 162 #[.string ⟨t.toArray⟩] w (InP (zbI t) w):=by
 by_cases h:t=[42]
 ·subst h
  have e:Hid (zbI [42]=[]):=Y rfl;go_enter Tryz.func162,Tryz.ntmps162;go_wp2_with fail
  go_ret;rw [e.o];exact ⟨none,0,rfl,zac.nil _ _ _,Mod.refl _ _⟩
 ·have e:zbI t=zat 44 99 t:=by unfold zbI;rw [if_neg h]
  have hse:(t==[42])=false:=by rw [beq_eq_false_iff_ne];exact h
  have hc:=Y (zcD t 44 99 100 rfl hs (by decide) w);rw [e];generalize zat 44 99 t=L at hc;replace h:=Y h;clear e;go_enter Tryz.func162,Tryz.ntmps162;go_wp2_with fail
  refine hc.o.mono ?_;rintro e w1 ⟨ao,cap,rfl,hr,hx⟩;replace hr:=Y hr;replace hx:=Y hx;go_wp2_with fail
  go_ret;exact ⟨ao,cap,rfl,hr.o,hx.o⟩
attribute [local go_sem] Oper.semAt_some
theorem zba (t:Bs) (hs:t.length<=1000000) (w:World):Calls Tryz.prog 83 #[.string ⟨t.toArray⟩] w fun e w'=>e=.returned (.int .i64 (zbu t))/\w=w':=by
 obtain ⟨v,hv0⟩:∃ v,v=zbu t:=⟨_,rfl⟩;rw [<- hv0];obtain ⟨S,hS⟩:∃ S:ByteArray,S=⟨t.toArray⟩:=⟨_,rfl⟩;have hSs:S.size=t.length:=by rw [hS];rfl
 have hSe:S.toList.isEmpty=t.isEmpty:=by rw [hS];simp
 rw [<- hS];rcases t with _ | ⟨c,r⟩
 ·have hv:Hid (v=0):=Y (by rw [hv0];rfl)
  have hd:decide ((0:Int) < (S.size:Int))=false:=by rw [hSs];rfl
  have hz:S.size=0:=hSs;simp only [List.isEmpty_nil] at hSe;clear hv0;replace hS:=Y hS;replace hSs:=Y hSs;go_enter Tryz.func83,Tryz.ntmps83;go_wp2_with fail
  go_loopg [3,5] 0 (fun _ n i wr=>n=.int .i64 0/\i=.int .i64 0/\w=wr)
  case atStart=>exact ⟨rfl,rfl,rfl⟩
  case round=>
   obtain ⟨rfl,rfl,rfl⟩:=hrel;have hnl:¬ (0:Int) < (S.size:Int):=by omega
   go_wp2_with fail
   go_ret;exact ⟨by rw [hv.o];try rfl,rfl⟩
 simp only [List.isEmpty_cons] at hSe;have hlen:(c::r).length=r.length+1:=rfl
 by_cases hc:c=45
 ·subst hc
  have hS0:(0:Int) < (S.size:Int):=by omega
  have hg0:Hid (∀ h:0 < S.size,S[0]=45):=Y (fun h=>by subst hS;rfl);have hp0:0 < S.size:=by omega
  have hb0:((S[0].toNat:Int)==45)=true:=by rw [hg0.o hp0];rfl
  have hb1:(S[0].toNat:Int)=45:=by rw [hg0.o hp0];rfl
  simp only [zbu,if_true] at hv0;obtain ⟨D,hD⟩:∃ D:Bs,D=r:=⟨_,rfl⟩;have hDl:S.size=D.length+1:=by rw [hSs,hD];rfl
  have hDg:Hid (∀ (k:Nat) (h:1+k < S.size) (h2:k < D.length),S[1+k]=D[k]):=Y (fun k h h2=>by subst hS;subst hD;show (45::D).toArray[1+k]=D[k];simp [Nat.add_comm]);have hv:Hid (v=-zco 0 (D.take 10)):=Y (by rw [hv0,hD]);have hDl2:D.length<=1000000:=by omega
  replace hD:=Y hD;replace hS:=Y hS;replace hSs:=Y hSs;replace hDl:=Y hDl;clear hv0;go_enter Tryz.func83,Tryz.ntmps83;go_wp2_with fail
  go_loopg [3,5] 10 (fun g n i wr=>∃ k:Nat,k+g=10/\k<=D.length/\i=.int .i64 ((k+1:Nat):Int)/\n=.int .i64 (zco 0 (D.take k))/\w=wr)
  case atStart=>exact ⟨0,rfl,Nat.zero_le _,rfl,rfl,rfl⟩
  case round=>
   obtain ⟨k,hk,hkD,rfl,rfl,rfl⟩:=hrel;have hk10:k<=10:=by omega
   have hb:=zg9 (l:=D.take k) (by rw [List.length_take];omega);obtain ⟨kF,hkF⟩:∃ kF:Nat,kF=k+1:=⟨_,rfl⟩;rw [<- hkF]
   by_cases hlt:k < D.length
   ·have hkS:kF < S.size:=by have:=hDl.o;omega
    have hkSi:(kF:Int) < (S.size:Int):=by omega
    have hd:decide ((kF:Int) < (S.size:Int))=true:=decide_eq_true hkSi;have hsn:=zhv 0 (D.take k) D[k];rw [<- List.take_succ_eq_append_getElem hlt] at hsn;have hb2:=zg9 (l:=D.take (k+1))
    by_cases h10:k < 10
    ·have hki:(kF:Int) < 11:=by omega
     have hkd:decide ((kF:Int) < 11)=true:=decide_eq_true hki;have hgk:S[kF]=D[k]:=by have:=hDg.o k (by omega) hlt;rw [<- this];congr 1;omega
     replace hb2:=hb2 (by rw [List.length_take];omega);have hcl:=D[k].toNat_lt;rw [<- hgk] at hsn hcl;have e1:IntKind.i64.wrap (10*zco 0 (D.take k))=10*zco 0 (D.take k):=IntWalk.i64_in _ (by omega);have e2:IntKind.i64.wrap (10*zco 0 (D.take k)+(S[kF].toNat:Int))=10*zco 0 (D.take k)+(S[kF].toNat:Int):=IntWalk.i64_in _ (by omega);have e3:IntKind.i64.wrap (10*zco 0 (D.take k)+(S[kF].toNat:Int) - 48)=zco 0 (D.take (k+1)):=by rw [IntWalk.i64_in _ (by omega)];omega
     have e4:IntKind.i64.wrap (S[kF].toNat:Int)=(S[kF].toNat:Int):=IntWalk.i64_in _ (by omega);have e5:wrap64 (S[kF].toNat:Int)=(S[kF].toNat:Int):=IntWalk.wrap64_in _ (by omega);have hjw:IntKind.i64.wrap ((kF:Int)+1)=(kF:Int)+1:=IntWalk.i64_in _ (by omega);generalize zco 0 (D.take k)=n0 at e1 e2 e3 hb hsn ⊢;obtain ⟨n1,hn1⟩:∃ n1,n1=zco 0 (D.take (k+1)):=⟨_,rfl⟩;rw [<- hn1] at e3 hb2 hsn;replace hn1:=Y hn1;replace hsn:=Y hsn;replace hb2:=Y hb2;replace hb:=Y hb;replace hgk:=Y hgk;replace hkF:=Y hkF;replace hk:=Y hk;go_wp2_with fail
     go_roundg (gk - 1)
     case measure=>have:=hk.o;omega
     case rel=>exact ⟨k+1,by have:=hk.o;omega,by omega,by have:=hkF.o;rw [show k+1+1=kF+1 by omega];go_num,by rw [hn1.o],rfl⟩
    ·obtain rfl:k=10:=by omega
     have hki:¬ (kF:Int) < 11:=by omega
     have hkd:decide ((kF:Int) < 11)=false:=decide_eq_false hki;clear hsn hb2;generalize zco 0 (D.take 10)=n0 at hb hv ⊢;have e6:wrap64 (-n0)=-n0:=IntWalk.wrap64_in _ (by omega);replace hkF:=Y hkF;replace hb:=Y hb;go_wp2_with fail
     go_ret;exact ⟨by rw [hv.o];try rfl,rfl⟩
   ·obtain rfl:k=D.length:=by omega
    have hkSi:¬ (kF:Int) < (S.size:Int):=by have:=hDl.o;omega
    have hd:decide ((kF:Int) < (S.size:Int))=false:=decide_eq_false hkSi;have htt:D.take D.length=D.take 10:=by rw [List.take_of_length_le (Nat.le_refl _),List.take_of_length_le hk10]
    rw [htt] at hb ⊢;generalize zco 0 (D.take 10)=n0 at hb hv ⊢;have e6:wrap64 (-n0)=-n0:=IntWalk.wrap64_in _ (by omega);replace hkF:=Y hkF;replace hb:=Y hb;clear htt;go_wp2_with fail
    go_ret;exact ⟨by rw [hv.o];try rfl,rfl⟩
 ·have hS0:(0:Int) < (S.size:Int):=by omega
  have hg0:Hid (∀ h:0 < S.size,S[0]=c):=Y (fun h=>by subst hS;rfl);have hp0:0 < S.size:=by omega
  have hb1:¬ (S[0].toNat:Int)=45:=by rw [hg0.o hp0];intro e;exact hc (UInt8.toNat_inj.1 (by show c.toNat=45;omega))
  have hb0:((S[0].toNat:Int)==45)=false:=by rw [beq_eq_false_iff_ne];exact hb1
  simp only [zbu,if_neg hc] at hv0;replace hc:=Y hc;obtain ⟨D,hD⟩:∃ D:Bs,D=c::r:=⟨_,rfl⟩;have hDl:S.size=D.length+0:=by rw [hSs,hD];rfl
  have hDg:Hid (∀ (k:Nat) (h:0+k < S.size) (h2:k < D.length),S[0+k]=D[k]):=Y (fun k h h2=>by subst hS;subst hD;show (c::r).toArray[0+k]=(c::r)[k];simp);have hv:Hid (v=zco 0 (D.take 10)):=Y (by rw [hv0,hD]);have hDl2:D.length<=1000000:=by omega
  replace hD:=Y hD;replace hS:=Y hS;replace hSs:=Y hSs;replace hDl:=Y hDl;clear hv0;go_enter Tryz.func83,Tryz.ntmps83;go_wp2_with fail
  go_loopg [3,5] 10 (fun g n i wr=>∃ k:Nat,k+g=10/\k<=D.length/\i=.int .i64 ((k+0:Nat):Int)/\n=.int .i64 (zco 0 (D.take k))/\w=wr)
  case atStart=>exact ⟨0,rfl,Nat.zero_le _,rfl,rfl,rfl⟩
  case round=>
   obtain ⟨k,hk,hkD,rfl,rfl,rfl⟩:=hrel;have hk10:k<=10:=by omega
   have hb:=zg9 (l:=D.take k) (by rw [List.length_take];omega);obtain ⟨kF,hkF⟩:∃ kF:Nat,kF=k+0:=⟨_,rfl⟩;rw [<- hkF]
   by_cases hlt:k < D.length
   ·have hkS:kF < S.size:=by have:=hDl.o;omega
    have hkSi:(kF:Int) < (S.size:Int):=by omega
    have hd:decide ((kF:Int) < (S.size:Int))=true:=decide_eq_true hkSi;have hsn:=zhv 0 (D.take k) D[k];rw [<- List.take_succ_eq_append_getElem hlt] at hsn;have hb2:=zg9 (l:=D.take (k+1))
    by_cases h10:k < 10
    ·have hki:(kF:Int) < 10:=by omega
     have hkd:decide ((kF:Int) < 10)=true:=decide_eq_true hki;have hgk:S[kF]=D[k]:=by have:=hDg.o k (by omega) hlt;rw [<- this];congr 1;omega
     replace hb2:=hb2 (by rw [List.length_take];omega);have hcl:=D[k].toNat_lt;rw [<- hgk] at hsn hcl;have e1:IntKind.i64.wrap (10*zco 0 (D.take k))=10*zco 0 (D.take k):=IntWalk.i64_in _ (by omega);have e2:IntKind.i64.wrap (10*zco 0 (D.take k)+(S[kF].toNat:Int))=10*zco 0 (D.take k)+(S[kF].toNat:Int):=IntWalk.i64_in _ (by omega);have e3:IntKind.i64.wrap (10*zco 0 (D.take k)+(S[kF].toNat:Int) - 48)=zco 0 (D.take (k+1)):=by rw [IntWalk.i64_in _ (by omega)];omega
     have e4:IntKind.i64.wrap (S[kF].toNat:Int)=(S[kF].toNat:Int):=IntWalk.i64_in _ (by omega);have e5:wrap64 (S[kF].toNat:Int)=(S[kF].toNat:Int):=IntWalk.wrap64_in _ (by omega);have hjw:IntKind.i64.wrap ((kF:Int)+1)=(kF:Int)+1:=IntWalk.i64_in _ (by omega);generalize zco 0 (D.take k)=n0 at e1 e2 e3 hb hsn ⊢;obtain ⟨n1,hn1⟩:∃ n1,n1=zco 0 (D.take (k+1)):=⟨_,rfl⟩;rw [<- hn1] at e3 hb2 hsn;replace hn1:=Y hn1;replace hsn:=Y hsn;replace hb2:=Y hb2;replace hb:=Y hb;replace hgk:=Y hgk;replace hkF:=Y hkF;replace hk:=Y hk;go_wp2_with fail
     go_roundg (gk - 1)
     case measure=>have:=hk.o;omega
     case rel=>exact ⟨k+1,by have:=hk.o;omega,by omega,by have:=hkF.o;rw [show k+1+0=kF+1 by omega];go_num,by rw [hn1.o],rfl⟩
    ·obtain rfl:k=10:=by omega
     have hki:¬ (kF:Int) < 10:=by omega
     have hkd:decide ((kF:Int) < 10)=false:=decide_eq_false hki;clear hsn hb2;generalize zco 0 (D.take 10)=n0 at hb hv ⊢;have e6:wrap64 (-n0)=-n0:=IntWalk.wrap64_in _ (by omega);replace hkF:=Y hkF;replace hb:=Y hb;go_wp2_with fail
     go_ret;exact ⟨by rw [hv.o];try rfl,rfl⟩
   ·obtain rfl:k=D.length:=by omega
    have hkSi:¬ (kF:Int) < (S.size:Int):=by have:=hDl.o;omega
    have hd:decide ((kF:Int) < (S.size:Int))=false:=decide_eq_false hkSi;have htt:D.take D.length=D.take 10:=by rw [List.take_of_length_le (Nat.le_refl _),List.take_of_length_le hk10]
    rw [htt] at hb ⊢;generalize zco 0 (D.take 10)=n0 at hb hv ⊢;have e6:wrap64 (-n0)=-n0:=IntWalk.wrap64_in _ (by omega);replace hkF:=Y hkF;replace hb:=Y hb;clear htt;go_wp2_with fail
    go_ret;exact ⟨by rw [hv.o];try rfl,rfl⟩
end Go.Proofs.YtjjfphalcibjfaaGreatDoor
