import Derived.Test.YtjjfphalcibjfaaGreatDoorH0
set_option maxRecDepth 100000
set_option maxHeartbeats 16000000
namespace Go.Proofs.YtjjfphalcibjfaaGreatDoor
open Go.Shelf Go.RowKit Cdk Scr
attribute [local go_sem] Oper.semAt_some
theorem zm5 {W:World} {k:Nat} {l:Bs} {cs:Array Value} {n m B:Nat} (hk:W.heap[k]?=some (.cells cs 5 (0,0))) (hcs:(l.flatMap u8L).toArray=cs) (hn:l.length=n) (hm:l.length=m) (hB:B<=k) (hl:n<=1000):Cdk.Own W B 5 1 u8L (.slice (some ⟨k,0,none⟩) n m) l:=by
 subst hcs hn;rw [<- hm];have hf:(l.flatMap u8L).length=l.length:=by rw [flat_length u8L 1 zew,Nat.mul_one]
 refine ⟨by rw [hf,Nat.mul_one],.inr ⟨k,l.length,_,rfl,hB,hk,Nat.le_refl _,by unfold maxLen;omega,by simp [hf],?_⟩⟩;rw [List.toList_toArray,Nat.mul_one,List.take_of_length_le (Nat.le_of_eq hf)]
theorem zjo {f g n:Nat} (h1:n < 10 ^ f) (h2:n < 10 ^ g) (hf:0 < f) (hg:0 < g):zdM f n=zdM g n:=by rw [zd6 f n h1 hf,zd6 g n h2 hg]
theorem zlk {n:Nat} (h:n < 10):IntKind.u8.wrap (48+(n:Int))=((dig n).toNat:Int):=by rw [zg9 h,show (48:Int)+n=((48+n:Nat):Int) by omega];exact u8_in _ (by omega)
def znz (t:Bs) (w:World) (e:Ending) (w':World):Prop:=e=.returned (.string ⟨t.toArray⟩)/\Ext w w'
theorem zge:∀ (f n:Nat),n < 10 ^ (f+1) -> n < 4611686018427387904 -> f<=19 -> ∀ w:World,Calls Tryz.prog 74 #[.int .i64 n] w (znz (zdM (f+1) n) w):=by
 intro f
 induction f with
 | zero=>
  intro n hn _ _ w;have hn':n < 10:=by simpa using hn
  have i0:¬ (n:Int) < 0:=by omega
  have i1:(n:Int) < 10:=by omega
  have i2:IntKind.i64.wrap (48+(n:Int))=48+(n:Int):=IntWalk.i64_in _ (by omega);have i2b:wrap64 (48+(n:Int))=48+(n:Int):=IntWalk.wrap64_in _ (by omega);have i3:=zlk hn';have hd:zdM 1 n=[dig n]:=by rw [zdM,if_pos hn']
  rw [hd];generalize dig n=c at i3;have hO:=zm5 (heap_alloc_new w (.cells #[.int .u8 c.toNat] 5)) (l:=[c]) rfl rfl rfl (Nat.le_refl _) (by simp);have hxa:=hid (Mod.alloc (Mod.refl (fun _=>False) w) (.cells #[.int .u8 c.toNat] 5));obtain ⟨a9,c9,e9,hcv⟩:=zfS hO;injection e9 with e91 _ e93
  subst e91 e93;have hl1:[c].length=1:=rfl;rw [hl1] at hcv;clear hO hd hn;unfold znz;go_enter Tryz.func74,Tryz.ntmps74;go_wp2_with fail
  go_ret;exact ⟨rfl,hxa.out⟩
 | succ f ih=>
  intro n hn h62 hf w
  by_cases hn':n < 10
  ·have:=ih n (Nat.lt_of_lt_of_le hn' (Nat.le_self_pow (by omega) 10)) h62 (by omega) w
   rw [zjo (f:=f+1+1) (g:=f+1) (Nat.lt_of_lt_of_le hn' (Nat.le_self_pow (by omega) 10)) (Nat.lt_of_lt_of_le hn' (Nat.le_self_pow (by omega) 10)) (by omega) (by omega)];exact this
  ·have i0:¬ (n:Int) < 0:=by omega
   have i1:¬ (n:Int) < 10:=by omega
   have q1:(n:Int).tdiv 10=((n / 10:Nat):Int):=by rw [Int.tdiv_eq_ediv_of_nonneg (by omega)];omega
   have q2:(n:Int).tmod 10=((n % 10:Nat):Int):=by rw [Int.tmod_eq_emod_of_nonneg (by omega)];omega
   have hA:=ih (n / 10) (by rw [Nat.div_lt_iff_lt_mul (by decide)];rw [Nat.pow_succ] at hn;exact hn) (by omega) (by omega);have hB:=ih (n % 10) (Nat.lt_of_lt_of_le (Nat.mod_lt _ (by decide)) (Nat.le_self_pow (by omega) 10)) (by omega) (by omega);have hb:zdM (f+1) (n % 10)=[dig (n % 10)]:=by rw [zdM,if_pos (Nat.mod_lt _ (by decide))]
   have hd:zdM (f+1+1) n=zdM (f+1) (n / 10)++[dig (n % 10)]:=by rw [zdM,if_neg hn']
   have hl:=zda (f+1) (n / 10);rw [hb] at hB;rw [hd];generalize dig (n % 10)=c at hB;generalize zdM (f+1) (n / 10)=t at hA hl;have r1:wrap64 ((n / 10:Nat):Int)=((n / 10:Nat):Int):=IntWalk.wrap64_in _ (by omega);have r2:IntKind.i64.wrap ((n / 10:Nat):Int)=((n / 10:Nat):Int):=IntWalk.i64_in _ (by omega);generalize n / 10=m1 at q1 hA r1 r2;generalize n % 10=m2 at q2 hB;obtain ⟨T,hT⟩:∃ T:ByteArray,T=⟨t.toArray⟩:=⟨_,rfl⟩;have hTs:T.size=t.length:=by rw [hT];rfl
   have hs1:T.size+(⟨#[c]⟩:ByteArray).size<=1000000:=by rw [hTs];show t.length+1<=_;omega
   have hfin:Hid ((T++(⟨#[c]⟩:ByteArray))=⟨(t++[c]).toArray⟩):=hid (by rw [hT];exact zba t [c]);unfold znz at hA hB;rw [<- hT] at hA;replace hA:=hid hA;replace hB:=hid hB;clear hn h62 hb hd ih hT hl hTs;unfold znz;go_enter Tryz.func74,Tryz.ntmps74;go_wp2_with fail
   refine (hA.out _).mono ?_;rintro e w1 ⟨rfl,hx1⟩;replace hx1:=hid hx1;go_wp2_with fail
   refine (hB.out _).mono ?_;rintro e w2 ⟨rfl,hx2⟩;replace hx2:=hid (hx1.out.trans hx2);go_wp2_with fail
   go_ret;exact ⟨by rw [<- hfin.out];try rfl,hx2.out⟩
theorem zaN (n:Int) (h1:-9<=n) (h2:n<=4611686018427387903) (w:World):Calls Tryz.prog 74 #[.int .i64 n] w fun e w'=>e=.returned (.string ⟨(itoa n).toArray⟩)/\Ext w w':=by
 by_cases hn:n < 0
 ·obtain ⟨q,rfl⟩:∃ q:Nat,n=-(q:Int):=⟨n.natAbs,by omega⟩
  have hit:itoa (-(q:Int))=45::zdM 20 q:=by unfold itoa;rw [if_pos hn];simp
  have hA:=zge 19 q (Nat.lt_of_le_of_lt (show q<=9 by omega) (by decide)) (by omega) (by omega);have hl:=zda 20 q;rw [hit];generalize zdM 20 q=t at hA hl;obtain ⟨T,hT⟩:∃ T:ByteArray,T=⟨t.toArray⟩:=⟨_,rfl⟩;have hTs:T.size=t.length:=by rw [hT];rfl
  have hs1:(⟨#[45]⟩:ByteArray).size+T.size<=1000000:=by rw [hTs];show 1+t.length<=_;omega
  have hfin:Hid (((⟨#[45]⟩:ByteArray)++T)=⟨(45::t).toArray⟩):=hid (by rw [hT];exact zba [45] t);have i1:(-10:Int) < -(q:Int):=by omega
  have i2:wrap64 (- -(q:Int))=(q:Int):=by rw [Int.neg_neg];exact IntWalk.wrap64_in _ (by omega)
  unfold znz at hA;rw [<- hT] at hA;replace hA:=hid hA;clear hit hT hl hTs;go_enter Tryz.func74,Tryz.ntmps74;go_wp2_with fail
  refine (hA.out _).mono ?_;rintro e w1 ⟨rfl,hx1⟩;replace hx1:=hid hx1;go_wp2_with fail
  go_ret;exact ⟨by rw [<- hfin.out];try rfl,hx1.out⟩
 ·obtain ⟨q,rfl⟩:∃ q:Nat,n=(q:Int):=⟨n.toNat,by omega⟩
  have hit:itoa (q:Int)=zdM 20 q:=by unfold itoa;rw [if_neg hn];simp
  rw [hit];exact zge 19 q (Nat.lt_of_lt_of_le (show q < 4611686018427387904 by omega) (by decide)) (by omega) (by omega) w
theorem zf7 (c:UInt8):∀ (l:List Bs) (x:Bs),l ≠ [] -> Scr.join c (l++[x])=Scr.join c l++c::x
 | [],_,h=>absurd rfl h
 | [y],x,_=>rfl
 | y::z::l,x,_=>by
  have ih:=zf7 c (z::l) x (by simp);show y++c::Scr.join c (z::l++[x])=_
  rw [ih];simp [Scr.join]
theorem zbf {F:Nat -> Prop} (v:Value) (l:List Bs) (c:UInt8) (w:World) (h:zbw F w v l) (hn0:l.length<=1000) (hk:∀ x ∈ l,x.length<=3000000):
  Calls Tryz.prog 78 #[v,.string ⟨#[c]⟩] w fun e w'=>e=.returned (.string ⟨(Scr.join c l).toArray⟩)/\w=w':=by
 obtain ⟨tz,htz⟩:∃ tz,tz=Scr.join c l:=⟨_,rfl⟩;rw [<- htz];obtain ⟨ao,cap,rfl⟩:=h.slice;obtain ⟨n,hn⟩:∃ n,n=l.length:=⟨_,rfl⟩;rw [<- hn] at h hn0 ⊢
 have hle:Hid (∀ j,(Scr.join c (l.take j)).length<=1000*3000001):=hid (fun j=>by
  have:=zcB c 3000000 (l.take j) (fun x hx=>hk x (List.mem_of_mem_take hx));have h2:(l.take j).length<=1000:=by rw [List.length_take];omega
  exact Nat.le_trans this (Nat.mul_le_mul_right _ h2))
 replace htz:=hid htz;replace hn:=hid hn;replace h:=hid h;replace hk:=hid hk;go_enter Tryz.func78,Tryz.ntmps78;go_wp2_with fail
 go_loopg [5,6] n (fun g s i wr=>∃ (j:Nat) (T:ByteArray),j+g=n/\i=.int .i64 j/\s=.string T/\T=⟨(Scr.join c (l.take j)).toArray⟩/\w=wr)
 case atStart=>exact ⟨0,⟨#[]⟩,by omega,rfl,rfl,rfl,rfl⟩
 case round=>
  obtain ⟨j,T,hj,rfl,rfl,hT,rfl⟩:=hrel;replace hj:=hid hj;have hTs:T.size<=1000*3000001:=by rw [hT];exact hle.out j
  by_cases hlt:j < n
  ·have hdi:(j:Int) < (n:Int):=by omega
   have hd:decide ((j:Int) < (n:Int))=true:=decide_eq_true hdi;have hjl:j < l.length:=by have:=hn.out;omega
   have h':=h.out;rw [hn.out] at h';obtain ⟨b,off,cc,e0,-,hcL⟩:=zai.get h' 1 za5 (by decide) hjl;injection e0 with e1 e2 e3
   subst e1;subst e3;have hcell:=hcL 0 (.string ⟨l[j].toArray⟩) (by decide) rfl;simp only [Nat.mul_one,Nat.add_zero] at hcell;have hxl:=hk.out l[j] (List.getElem_mem _);have htk:l.take (j+1)=l.take j++[l[j]]:=List.take_succ_eq_append_getElem hjl;generalize hx:l[j]=x at hcell hxl htk;obtain ⟨X,hX⟩:∃ X:ByteArray,X=⟨x.toArray⟩:=⟨_,rfl⟩;have hXs:X.size<=3000000:=by rw [hX];exact hxl
   rw [<- hX] at hcell;clear hcL h' hx e2 hxl
   by_cases hj0:j=0
   ·subst hj0
    simp only [Nat.add_zero] at hcell;have hnx:Hid (T++X=⟨(Scr.join c (l.take (0+1))).toArray⟩):=hid (by rw [htk,hT,hX];simp only [List.take_zero,List.nil_append];exact zba [] x);have hs1:T.size+X.size<=4000000000:=by omega
    replace hT:=hid hT;replace hX:=hid hX;replace htk:=hid htk;go_wp2_with fail
    go_roundg (gk - 1)
    case measure=>have:=hj.out;omega
    case rel=>exact ⟨0+1,T++X,by have:=hj.out;omega,by go_num,rfl,hnx.out,rfl⟩
   ·have hj1:(0:Int) < (j:Int):=by omega
    have hj2:decide (0 < j)=true:=decide_eq_true (by omega);have hs1:T.size+(⟨#[c]⟩:ByteArray).size<=4000000000:=by show T.size+1<=_;omega
    obtain ⟨U,hU⟩:∃ U:ByteArray,U=T++(⟨#[c]⟩:ByteArray):=⟨_,rfl⟩;have hUs:U.size+X.size<=4000000000:=by rw [hU,ByteArray.size_append];show T.size+1+X.size<=_;omega
    have hnx:Hid (U++X=⟨(Scr.join c (l.take (j+1))).toArray⟩):=hid (by
     rw [htk,zf7 c _ x (by intro e;have:=congrArg List.length e;rw [List.length_take,List.length_nil] at this;omega),hU,hT,hX,show (⟨#[c]⟩:ByteArray)=⟨([c]:Bs).toArray⟩ from rfl,zba,zba]
     simp)
    rw [hU] at hUs hnx;replace hT:=hid hT;replace hX:=hid hX;replace htk:=hid htk;clear hU;go_wp2_with fail
    go_roundg (gk - 1)
    case measure=>have:=hj.out;omega
    case rel=>exact ⟨j+1,T++(⟨#[c]⟩:ByteArray)++X,by have:=hj.out;omega,by go_num,rfl,hnx.out,rfl⟩
  ·obtain rfl:j=n:=by have:=hj.out;omega
   have hdi:¬ (j:Int) < (j:Int):=by omega
   have hd:decide ((j:Int) < (j:Int))=false:=decide_eq_false hdi;rw [List.take_of_length_le (by have:=hn.out;omega),<- htz.out] at hT;replace hT:=hid hT;go_wp2_with fail
   go_ret;exact ⟨by rw [hT.out];try rfl,rfl⟩
theorem zfb {F:Nat -> Prop} (v:Value) (l:List Bs) (w:World) (h:zbw F w v l) (hn0:l.length<=1000) (hk:∀ x ∈ l,x.length<=1000000):
  Calls Tryz.prog 155 #[v] w fun e w'=>e=.returned (.string ⟨(listW l).toArray⟩)/\w=w':=by
 have hjn:=hid (zbf v l 44 w h hn0 (fun x hx=>Nat.le_trans (hk x hx) (by decide)));obtain ⟨ao,cap,rfl⟩:=h.slice;obtain ⟨n,hn⟩:∃ n,n=l.length:=⟨_,rfl⟩;rw [<- hn] at hjn hn0 ⊢
 by_cases h0:n=0
 ·have htz:Hid (listW l=[42]):=hid (by
   have:l=[]:=List.eq_nil_of_length_eq_zero (by omega)
   rw [this];rfl)
  subst h0;clear hn hjn h;go_enter Tryz.func155,Tryz.ntmps155;go_wp2_with fail
  go_ret;exact ⟨by rw [htz.out];rfl,rfl⟩
 ·have htz:Hid (listW l=Scr.join 44 l):=hid (by unfold listW;rw [if_neg (by intro e;rw [List.isEmpty_iff] at e;subst e;simp at hn;omega)])
  have hn1:((n:Int)==0)=false:=by rw [beq_eq_false_iff_ne];omega
  have hni:¬ (n:Int)=0:=by omega
  replace hn:=hid hn;clear h;go_enter Tryz.func155,Tryz.ntmps155;go_wp2_with fail
  refine hjn.out.mono ?_;rintro e w1 ⟨rfl,rfl⟩;go_wp2_with fail
  go_ret;exact ⟨by rw [htz.out];try rfl,rfl⟩
theorem zdE {F:Nat -> Prop} (v:Value) (l:List Int) (hl:∀ x ∈ l,-9<=x/\x<=4611686018427387903) (w:World) (_hF:∀ k,F k -> k < w.heap.size) (h:zaF F w v l) (hn0:l.length<=1000):
  Calls Tryz.prog 75 #[v] w fun e w'=>e=.returned (.string ⟨(listW (l.map itoa)).toArray⟩)/\Ext w w':=by
 obtain ⟨tz,htz⟩:∃ tz,tz=listW (l.map itoa):=⟨_,rfl⟩;rw [<- htz];obtain ⟨ao,cap,rfl⟩:=h.slice;obtain ⟨n,hn⟩:∃ n,n=l.length:=⟨_,rfl⟩;rw [<- hn] at h hn0 ⊢;replace htz:=hid htz;replace hn:=hid hn;replace h:=hid h;replace hl:=hid hl;go_enter Tryz.func75,Tryz.ntmps75;go_wp2_with fail
 go_loopg [3,4] n (fun g s i wr=>∃ (j:Nat) (av:Option Addr) (cv:Nat),j+g=n/\i=.int .i64 j/\s=.slice av j cv/\Cdk.Own wr w.heap.size 9 1 zdj (.slice av j cv) ((l.map itoa).take j)/\Ext w wr)
 case atStart=>exact ⟨0,none,0,by omega,rfl,rfl,Own.nil _ _ _ _ _,Mod.refl _ _⟩
 case round=>
  obtain ⟨j,av,cv,hj,rfl,rfl,hO,hx⟩:=hrel;replace hj:=hid hj;have hsz:w.heap.size<=wr.heap.size:=hx.size
  by_cases hlt:j < n
  ·have hdi:(j:Int) < (n:Int):=by omega
   have hd:decide ((j:Int) < (n:Int))=true:=decide_eq_true hdi;have hjl:j < l.length:=by have:=hn.out;omega
   have h':=h.out.ext hx;rw [hn.out] at h';obtain ⟨b',off,rfl,c0⟩:=zbA h' hjl;have htk:(l.map itoa).take (j+1)=(l.map itoa).take j++[itoa l[j]]:=by
    rw [List.take_succ_eq_append_getElem (by rw [List.length_map];omega)];rw [List.getElem_map]
   have hcl:=hid (fun W=>zaN l[j] (hl.out _ (List.getElem_mem _)).1 (hl.out _ (List.getElem_mem _)).2 W);generalize l[j]=x at c0 hcl htk;generalize itoa x=tx at hcl htk;replace hO:=hid hO;replace hx:=hid hx;replace htk:=hid htk;clear h';go_wp2_with fail
   refine (hcl.out _).mono ?_;rintro e w2 ⟨rfl,hx2⟩;have hO2:=hid (hO.out.ext hx2);have hx2:=hid (hx.out.trans hx2);clear hcl hO hx;have hsz2:w.heap.size<=w2.heap.size:=hx2.out.size;have hlt2:((l.map itoa).take j).length<=1000:=by rw [List.length_take,List.length_map];omega
   replace hlt2:=hid hlt2;go_wp2_with (at_builtin;refine zaX rfl _ _ _ rfl Tryz.underlying22 el9 rfl (hO2.out.ext ((Mod.refl _ _).alloc _)) _ 1 1 rfl [tx] rfl (by exact zaR.new _ _ _) za5 (fun y hy u hu=>by simp only [List.mem_singleton] at hy;subst hy;simp [zdj] at hu;subst hu;rfl) (by have:=hlt2.out;simp only [List.length_singleton];omega) (by rw [World.size_alloc];omega) (fun e=>nomatch e) (fun v6 w6 H6=>?_);skip)
   obtain ⟨hO6,hm6⟩:=H6.out;have hx6:=hid (zbC (hx2.out.trans ((Mod.refl _ w2).alloc _)) (hO2.out.ext ((Mod.refl _ w2).alloc _)) (Nat.le_refl _) hm6);rw [<- htk.out] at hO6;obtain ⟨av6,cv6,rfl,-⟩:=hO6.row;have e6:((l.map itoa).take (j+1)).length=j+1:=by rw [List.length_take,List.length_map];omega
   rw [e6] at hO6 ⊢;clear H6 hm6 e6;replace hO6:=hid hO6;go_wp2_with fail
   go_roundg (gk - 1)
   case measure=>have:=hj.out;omega
   case rel=>exact ⟨j+1,av6,cv6,by have:=hj.out;omega,by go_num,rfl,hO6.out,hx6.out⟩
  ·obtain rfl:j=n:=by have:=hj.out;omega
   have hdi:¬ (j:Int) < (j:Int):=by omega
   have hd:decide ((j:Int) < (j:Int))=false:=decide_eq_false hdi;rw [List.take_of_length_le (by have:=hn.out;rw [List.length_map];omega)] at hO;have hrow:=zbk hO (by have:=hn.out;rw [List.length_map];omega)
   have hjn:=hid (zfb (.slice av j cv) _ wr hrow (by have:=hn.out;rw [List.length_map];omega) (fun x hx=>by
    obtain ⟨z,-,rfl⟩:=List.mem_map.1 hx
    exact Nat.le_trans (zaM z) (by decide)))
   rw [<- htz.out] at hjn;replace hx:=hid hx;clear hO hrow;go_wp2_with fail
   refine hjn.out.mono ?_;rintro e w1 ⟨rfl,rfl⟩;go_wp2_with fail
   go_ret;exact ⟨rfl,hx.out⟩
theorem zfH (t:Bs) (w:World) (hlen:t.length<=1000000):
  Calls Tryz.prog 77 #[.string ⟨t.toArray⟩] w fun e w'=>e=.returned (.string ⟨(hexW t).toArray⟩)/\Ext w w':=by
 obtain ⟨tz,htz⟩:∃ tz,tz=hexW t:=⟨_,rfl⟩;rw [<- htz];obtain ⟨s,hs⟩:∃ s:ByteArray,s=⟨t.toArray⟩:=⟨_,rfl⟩;have hst:s.data.toList=t:=by rw [hs]
 have hsl:s.size<=1000000:=by rw [hs];exact hlen
 have he:s.toList.isEmpty=t.isEmpty:=by rw [hs];simp
 rw [<- hs];cases hb:t.isEmpty with
 | true=>
  replace htz:=hid (show tz=[42] by rw [htz,hexW,if_pos hb]);rw [hb] at he;clear hst hb;replace hs:=hid hs;go_enter Tryz.func77,Tryz.ntmps77;go_wp2_with fail
  go_ret;exact ⟨by rw [htz.out];rfl,Mod.refl _ _⟩
 | false=>
  replace htz:tz=s.data.toList.flatMap zf5:=by rw [htz,hexW,if_neg (by rw [hb];decide),hst];rfl
  rw [hb] at he;clear hst hb;replace hs:=hid hs;replace htz:=hid htz;go_enter Tryz.func77,Tryz.ntmps77;go_wp2_with fail
  go_loopg [3,4] s.size (fun g o i wr=>∃ (j:Nat) (ty:Bs),j+g=s.size/\i=.int .i64 j/\o=.string ⟨ty.toArray⟩/\Ext w wr/\tz=ty++(s.data.toList.drop j).flatMap zf5/\ty.length=2*j)
  case atStart=>exact ⟨0,[],by omega,rfl,rfl,Mod.refl _ _,htz.out,by simp⟩
  case round=>
   clear htz;obtain ⟨j,ty,hj,rfl,rfl,hx,ht,hlen⟩:=hrel;replace hj:=hid hj
   by_cases hlt:j < s.size
   ·have hd:decide ((j:Int) < (s.size:Int))=true:=decide_eq_true (by omega)
    have hdi:(j:Int) < (s.size:Int):=by omega
    rw [drop_at s hlt] at ht;have ht2:tz=((ty++[hexD (s[j].toNat / 16)])++[hexD (s[j].toNat % 16)])++(s.data.toList.drop (j+1)).flatMap zf5:=by rw [ht];simp [zf5]
    clear ht;have hc:=s[j].toNat_lt;have e1:(s[j].toNat:Int).tdiv 16=((s[j].toNat / 16:Nat):Int):=by rw [Int.tdiv_eq_ediv_of_nonneg (by omega)];omega
    have e2:(s[j].toNat:Int).tmod 16=((s[j].toNat % 16:Nat):Int):=by rw [Int.tmod_eq_emod_of_nonneg (by omega)];omega
    have k1:s[j].toNat / 16 < 16:=by omega
    have k2:s[j].toNat % 16 < 16:=by omega
    generalize s[j].toNat / 16=x at e1 k1 ht2;generalize s[j].toNat % 16=y at e2 k2 ht2;have f1:IntKind.u8.wrap ((x:Int)+1)=(x:Int)+1:=by rw [show (x:Int)+1=((x+1:Nat):Int) by omega];exact u8_in _ (by omega)
    have f2:IntKind.u8.wrap ((y:Int)+1)=(y:Int)+1:=by rw [show (y:Int)+1=((y+1:Nat):Int) by omega];exact u8_in _ (by omega)
    have g1:(⟨#[48,49,50,51,52,53,54,55,56,57,97,98,99,100,101,102]⟩:ByteArray).extract x (x+1)=⟨#[hexD x]⟩:=by
     have:∀ k:Fin 16,(⟨#[48,49,50,51,52,53,54,55,56,57,97,98,99,100,101,102]⟩:ByteArray).extract k.val (k.val+1)=⟨#[hexD k.val]⟩:=by decide+kernel
     exact this ⟨x,k1⟩
    have g2:(⟨#[48,49,50,51,52,53,54,55,56,57,97,98,99,100,101,102]⟩:ByteArray).extract y (y+1)=⟨#[hexD y]⟩:=by
     have:∀ k:Fin 16,(⟨#[48,49,50,51,52,53,54,55,56,57,97,98,99,100,101,102]⟩:ByteArray).extract k.val (k.val+1)=⟨#[hexD k.val]⟩:=by decide+kernel
     exact this ⟨y,k2⟩
    have x16:(x:Int)+1<=16:=by omega
    have y16:(y:Int)+1<=16:=by omega
    generalize hexD x=cx at g1 ht2;generalize hexD y=cy at g2 ht2;obtain ⟨T,hT⟩:∃ T:ByteArray,T=⟨ty.toArray⟩:=⟨_,rfl⟩;have hTs:T.size=2*j:=by rw [hT];exact hlen
    have s1:T.size+(⟨#[cx]⟩:ByteArray).size<=3000000:=by show T.size+1<=_;omega
    have s2:(T++(⟨#[cx]⟩:ByteArray)).size+(⟨#[cy]⟩:ByteArray).size<=3000000:=by rw [ByteArray.size_append];show T.size+1+1<=_;omega
    have hnx:Hid (T++(⟨#[cx]⟩:ByteArray)++(⟨#[cy]⟩:ByteArray)=⟨(ty++[cx]++[cy]).toArray⟩):=hid (by rw [hT,show (⟨#[cx]⟩:ByteArray)=⟨([cx]:Bs).toArray⟩ from rfl,show (⟨#[cy]⟩:ByteArray)=⟨([cy]:Bs).toArray⟩ from rfl,zba,zba]);rw [<- hT];replace hT:=hid hT;replace hTs:=hid hTs;replace ht2:=hid ht2;replace hlen:=hid hlen;replace hx:=hid hx;go_wp2_with fail
    go_quiet (fail)
    go_wp2_with fail
    go_roundg (gk - 1)
    case measure=>have:=hj.out;omega
    case rel=>exact ⟨j+1,ty++[cx]++[cy],by have:=hj.out;omega,by go_num,by rw [hnx.out],hx.out.ofDrewN _,by rw [ht2.out],by have:=hlen.out;simp;omega⟩
   ·obtain rfl:j=s.size:=by have:=hj.out;omega
    have hdi:¬ (s.size:Int) < (s.size:Int):=by omega
    have hd:decide ((s.size:Int) < (s.size:Int))=false:=decide_eq_false hdi;rw [List.drop_eq_nil_of_le (Nat.le_of_eq (zaO s).symm)] at ht;replace ht:=hid ht;replace hx:=hid hx;go_wp2_with fail
    go_ret;exact ⟨by rw [ht.out];simp,hx.out⟩
end Go.Proofs.YtjjfphalcibjfaaGreatDoor
