import Derived.Test.YtjjfphalcibjfaaGreatDoorD15
import Derived.Test.YtjjfphalcibjfaaGreatDoorTh18
import Derived.Test.YtjjfphalcibjfaaGreatDoorTh5
set_option maxRecDepth 100000
set_option maxHeartbeats 16000000
namespace Go.Proofs.YtjjfphalcibjfaaGreatDoor
open Go.Shelf Go.RowKit Cdk Scr
attribute [local go_sem] Oper.semAt_some
theorem u64_in (n:Nat) (h:n < 18446744073709551616):IntKind.u64.wrap (n:Int)=n:=by rw [IntKind.wrap_u64];omega
theorem znq (z:Nat) (h:z < 256):IntKind.u8.wrap (z:Int)=((UInt8.ofNat z).toNat:Int):=by
 have e:(UInt8.ofNat z).toNat=z:=by
  rw [UInt8.toNat_ofNat'];exact Nat.mod_eq_of_lt h
 rw [e,IntKind.wrap_u8];omega
theorem u8_in (n:Nat) (h:n < 256):IntKind.u8.wrap (n:Int)=n:=by rw [IntKind.wrap_u8];omega
theorem zlC (n:Int) (h1:-4611686018427387903<=n) (h2:n<=4611686018427387903) (w:World):
  Calls Tryz.prog 198 #[.int .i64 n] w fun e w'=>e=.returned (.int .u64 (zz n))/\w=w':=by
 by_cases hn:n < 0
 ·obtain ⟨q,rfl⟩:∃ q:Nat,n=-(q:Int):=⟨n.natAbs,by omega⟩
  have hz:zz (-(q:Int))=2*q - 1:=by unfold zz;rw [if_pos hn];simp
  rw [hz];have f1:wrap64 (- -(q:Int))=(q:Int):=by rw [Int.neg_neg];exact IntWalk.wrap64_in _ (by omega)
  have f2:IntKind.u64.wrap (q:Int)=(q:Int):=u64_in q (by omega);have f3:IntKind.u64.wrap ((q:Int)*2)=((2*q:Nat):Int):=by rw [show (q:Int)*2=((2*q:Nat):Int) by omega];exact u64_in _ (by omega)
  have f4:IntKind.u64.wrap (((2*q:Nat):Int) - 1)=((2*q - 1:Nat):Int):=by rw [show ((2*q:Nat):Int) - 1=((2*q - 1:Nat):Int) by omega];exact u64_in _ (by omega)
  clear hz;go_enter Tryz.func198,Tryz.ntmps198;go_wp2_with fail
  go_ret;simp;try omega
 ·obtain ⟨q,rfl⟩:∃ q:Nat,n=(q:Int):=⟨n.toNat,by omega⟩
  have hz:zz (q:Int)=2*q:=by unfold zz;rw [if_neg hn];simp
  rw [hz];have f2:IntKind.u64.wrap (q:Int)=(q:Int):=u64_in q (by omega);have f3:IntKind.u64.wrap ((q:Int)*2)=((2*q:Nat):Int):=by rw [show (q:Int)*2=((2*q:Nat):Int) by omega];exact u64_in _ (by omega)
  clear hz;go_enter Tryz.func198,Tryz.ntmps198;go_wp2_with fail
  go_ret;simp;try omega
def zkD (n:Int):Int:=if n < -4611686018427387903 \/ 4611686018427387903 < n then 10 else 0
theorem zch (n:Int) (w:World):
  Calls Tryz.prog 158 #[.int .i64 n] w fun e w'=>e=.returned (.tuple #[.string ⟨(zbs n).toArray⟩,.int .i64 (zkD n)])/\Ext w w':=by
 by_cases hn:n < -4611686018427387903
 ·have e1:=hid (show zbs n=[] by unfold zbs;rw [if_pos (.inl hn)])
  have e2:=hid (show zkD n=10 by unfold zkD;rw [if_pos (.inl hn)]);go_enter Tryz.func158,Tryz.ntmps158;go_wp2_with fail
  go_ret2
  exact ⟨by rw [e1.out,e2.out];rfl,Mod.refl _ _⟩
 by_cases hm:4611686018427387903 < n
 ·have e1:=hid (show zbs n=[] by unfold zbs;rw [if_pos (.inr hm)])
  have e2:=hid (show zkD n=10 by unfold zkD;rw [if_pos (.inr hm)]);go_enter Tryz.func158,Tryz.ntmps158;go_wp2_with fail
  go_ret2
  exact ⟨by rw [e1.out,e2.out];rfl,Mod.refl _ _⟩
 have e2:=hid (show zkD n=0 by unfold zkD;rw [if_neg (by omega)]);obtain ⟨P,hP⟩:∃ P,P=zbs n:=⟨_,rfl⟩;have hP0:P=ze1 10 (zz n):=by rw [hP];unfold zbs;rw [if_neg (by omega)]
 have hzl:zz n < 128 ^ 10:=by
  have:(128:Nat) ^ 10=1180591620717411303424:=by decide
  unfold zz;split <;> omega
 have hz64:zz n < 18446744073709551616:=by unfold zz;split <;> omega
 have hzg:=hid (fun W=>zlC n (by omega) (by omega) W);rw [<- hP];generalize zz n=z0 at hP0 hzl hz64 hzg;replace hP0:=hid hP0;replace hzl:=hid hzl;clear hP;go_enter Tryz.func158,Tryz.ntmps158;go_wp2_with fail
 refine (hzg.out w).mono ?_;rintro e w1 ⟨rfl,rfl⟩;go_wp2_with fail
 go_loopg [4,5] 9 (fun g zv b wr=>∃ (z:Nat) (l:Bs) (av:Option Addr) (cv:Nat),zv=.int .u64 z/\b=.slice av l.length cv/\Cdk.Own wr w.heap.size 5 1 u8L (.slice av l.length cv) l/\Ext w wr/\P=l++ze1 (g+1) z/\z < 128 ^ (g+1)/\z < 18446744073709551616/\l.length<=9 - g/\g<=9)
 case atStart=>exact ⟨z0,[],none,0,rfl,rfl,Own.nil _ _ _ _ _,Mod.refl _ _,by rw [hP0.out];rfl,hzl.out,hz64,by simp,by omega⟩
 case round=>
  clear hP0 hzl;obtain ⟨z,l,av,cv,rfl,rfl,hO,hx,hPz,hz1,hz2,hl9,hg9⟩:=hrel;have hsz:w.heap.size<=wr.heap.size:=hx.size;have hl9':l.length<=9:=by omega
  replace hO:=hid hO;replace hx:=hid hx
  by_cases hlt:z < 128
  ·have hdi:¬ (128:Int)<=(z:Int):=by omega
   have hdl:(z:Int) < 128:=by omega
   rw [zd5 hlt] at hPz;have hc:=znq z (by omega);generalize UInt8.ofNat z=c at hc hPz;replace hPz:=hid hPz;replace hz1:=hid hz1;replace hl9:=hid hl9;have hxa:=Mod.alloc (Mod.refl (fun _=>False) wr) (.cells #[.int .u8 c.toNat] 5);go_wp2_with (at_builtin;refine zaX rfl _ _ _ rfl Tryz.underlying63 el5 rfl (hO.out.ext hxa) _ 1 1 rfl [c] rfl (by exact zaR.new _ _ _) zew (fun z hz u hu=>by simp only [List.mem_singleton] at hz;subst hz;simp [u8L] at hu;subst hu;rfl) (by simp only [List.length_singleton];omega) (by rw [World.size_alloc];omega) (fun e=>nomatch e) (fun v6 w6 H6=>Hid.out ?_))
   obtain ⟨hO6,hm6⟩:=H6.out;have hx6:=hid (zbC (hx.out.trans hxa) (hO.out.ext hxa) (Nat.le_refl _) hm6);obtain ⟨av6,cap6,rfl,hcv⟩:=zfS hO6;have hl6:(l++[c]).length=l.length+1:=by simp
   rw [hl6] at hcv ⊢;rw [<- hPz.out] at hcv;clear H6 hm6 hxa hO6;refine hid ?_;go_wp2_with fail
   go_ret2
   exact ⟨by rw [e2.out];rfl,hx6.out⟩
  ·have hdi:(128:Int)<=(z:Int):=by omega
   have hdl:¬ (z:Int) < 128:=by omega
   obtain ⟨g,rfl⟩:∃ g,gk=g+1:=by
    cases gk with
    | zero=>simp at hz1;omega
    | succ g=>exact ⟨g,rfl⟩
   rw [zhe hlt] at hPz;obtain ⟨k0,hk0⟩:∃ k0,k0=z % 128:=⟨_,rfl⟩;obtain ⟨m0,hm0⟩:∃ m0,m0=z % 128+128:=⟨_,rfl⟩;have f1:(z:Int).tmod 128=(k0:Int):=by rw [Int.tmod_eq_emod_of_nonneg (by omega)];omega
   have f2:IntKind.u64.wrap ((k0:Int)+128)=(m0:Int):=by rw [show (k0:Int)+128=(m0:Int) by omega];exact u64_in _ (by omega)
   have hc:=znq m0 (by omega);rw [<- hm0] at hPz;replace hk0:=hid hk0;replace hm0:=hid hm0;have f3:(z:Int).tdiv 128=((z / 128:Nat):Int):=by rw [Int.tdiv_eq_ediv_of_nonneg (by omega)];omega
   have hz4:z / 128 < 128 ^ (g+1):=by rw [Nat.div_lt_iff_lt_mul (by decide)];rw [Nat.pow_succ] at hz1;exact hz1
   generalize hcc:UInt8.ofNat m0=c at hc hPz;generalize hzz:z / 128=z' at f3 hPz hz4;have hz5:z' < 18446744073709551616:=by omega
   replace hPz:=hid hPz;replace hz4:=hid hz4;replace hl9:=hid hl9;clear hz1 hcc hzz;have hxa:=Mod.alloc (Mod.refl (fun _=>False) wr) (.cells #[.int .u8 c.toNat] 5);go_wp2_with (at_builtin;refine zaX rfl _ _ _ rfl Tryz.underlying63 el5 rfl (hO.out.ext hxa) _ 1 1 rfl [c] rfl (by exact zaR.new _ _ _) zew (fun z hz u hu=>by simp only [List.mem_singleton] at hz;subst hz;simp [u8L] at hu;subst hu;rfl) (by simp only [List.length_singleton];omega) (by rw [World.size_alloc];omega) (fun e=>nomatch e) (fun v6 w6 H6=>Hid.out ?_))
   obtain ⟨hO6,hm6⟩:=H6.out;have hx6:=hid (zbC (hx.out.trans hxa) (hO.out.ext hxa) (Nat.le_refl _) hm6);obtain ⟨av6,cv6,rfl,-⟩:=hO6.row;have hl6:(l++[c]).length=l.length+1:=by simp
   rw [hl6];rw [hl6] at hO6;clear H6 hm6 hxa;replace hO6:=hid hO6;refine hid ?_;go_wp2_with fail
   go_roundg g
   case measure=>omega
   case rel=>exact ⟨z',l++[c],av6,cv6,rfl,by rw [hl6],by rw [hl6];exact hO6.out,hx6.out,by rw [hPz.out];simp,hz4.out,hz5,by have:=hl9.out;rw [hl6];omega,by omega⟩
theorem za7 (n:Int) (w:World):
  Calls Tryz.prog 196 #[.int .i64 n] w fun e w'=>e=.returned (.string ⟨(zbs n).toArray⟩)/\Ext w w':=by
 have h:=hid (zch n w);go_enter Tryz.func196,Tryz.ntmps196;go_wp2_with fail
 refine h.out.mono ?_;rintro e w1 ⟨rfl,hx⟩;replace hx:=hid hx;go_wp2_with fail
 go_ret;exact ⟨rfl,hx.out⟩
theorem zcS (s:Bs) (hs:s.length<=65536) (w:World):
  Calls Tryz.prog 197 #[.string ⟨s.toArray⟩] w fun e w'=>e=.returned (.tuple #[.string ⟨(zeL s).toArray⟩,.int .i64 0])/\Ext w w':=by
 obtain ⟨S,hS⟩:∃ S:ByteArray,S=⟨s.toArray⟩:=⟨_,rfl⟩;have hSs:S.size=s.length:=by rw [hS];rfl
 rw [<- hS];have hp:=hid (zch (S.size:Int));have hput:Hid (zeL s=zbs S.size++s):=hid (by unfold zeL;rw [if_neg (by omega),hSs]);have h1:¬ (65536:Int) < (S.size:Int):=by omega
 have h2:=zau (S.size:Int);obtain ⟨T,hT⟩:∃ T,T=zbs (S.size:Int):=⟨_,rfl⟩;rw [<- hT] at h2;have hsum:(⟨T.toArray⟩:ByteArray).size+S.size<=1000000:=by rw [zaS];omega
 replace hT:=hid hT;replace h2:=hid h2;replace hSs:=hid hSs;replace hS:=hid hS;go_enter Tryz.func197,Tryz.ntmps197;go_wp2_with fail
 refine (hp.out _).mono ?_;rintro e w' ⟨rfl,hx⟩;rw [<- hT.out];replace hx:=hid hx;go_wp2_with fail
 go_ret2
 refine ⟨?_,hx.out⟩;rw [hput.out,<- hT.out,<- zba,<- hS.out]
 rfl
def znv:Nat -> UInt32 -> UInt32
 | 0,r=>r
 | k+1,r=>znv k (ziW r)
theorem zn1 (r:UInt32):znv 8 r=nib (nib r):=by rw [zhL,zhL];rfl
theorem zlR {r:UInt32} (h:r.toNat % 2=1):bits .xor .u32 ((r.toNat:Int) / 2) 2197175160=((ziW r).toNat:Int):=by
 have e:r % 2=1:=by apply UInt32.toNat_inj.1;rw [UInt32.toNat_mod];exact h
 unfold ziW;rw [if_pos e];have:=zir (r / 2) 0x82F63B78;rw [UInt32.toNat_div] at this;exact this
theorem zjc {r:UInt32} (h:¬ r.toNat % 2=1):(r.toNat:Int) / 2=((ziW r).toNat:Int):=by
 have e:¬ r % 2=1:=fun e=>h (by have:=congrArg UInt32.toNat e;rw [UInt32.toNat_mod] at this;exact this)
 unfold ziW;rw [if_neg e,UInt32.toNat_div]
 rfl
theorem zlx (t:Bs) (w:World) (hsz:t.length<=1000000):
  Calls Tryz.prog 159 #[.string ⟨t.toArray⟩] w fun e w'=>e=.returned (.int .i64 (crc t))/\w=w':=by
 obtain ⟨C,hC⟩:∃ C,C=zj0 0xFFFFFFFF t:=⟨_,rfl⟩;have hcr:Hid (crc t=((C ^^^ 0xFFFFFFFF).toNat:Int)):=hid (by rw [hC];rfl);obtain ⟨s,hs⟩:∃ s:ByteArray,s=⟨t.toArray⟩:=⟨_,rfl⟩;have hst:s.data.toList=t:=by rw [hs]
 have hsl:s.size<=1000000:=by rw [hs];exact hsz
 rw [<- hs];rw [<- hst] at hC;replace hst:=hid hst;replace hs:=hid hs;go_enter Tryz.func159,Tryz.ntmps159;go_wp2_with fail
 go_loopg [3,4] s.size (fun g rv i wr=>∃ (j:Nat) (r:UInt32),j+g=s.size/\i=.int .i64 j/\rv=.int .u32 r.toNat/\wr=w/\C=zj0 r (s.data.toList.drop j))
 case atStart=>exact ⟨0,0xFFFFFFFF,by omega,rfl,rfl,rfl,by rw [hC];rfl⟩
 case round=>
  clear hC;obtain ⟨j,r,hj,rfl,rfl,rfl,hCj⟩:=hrel;replace hj:=hid hj
  by_cases hlt:j < s.size
  ·have hd:decide ((j:Int) < (s.size:Int))=true:=decide_eq_true (by omega)
   have hdi:(j:Int) < (s.size:Int):=by omega
   rw [drop_at s hlt] at hCj;obtain ⟨r1,hr1⟩:∃ r1,r1=r ^^^ s[j].toUInt32:=⟨_,rfl⟩;have e1:(s[j].toNat:Int) % 4294967296=s[j].toNat:=by have:=s[j].toNat_lt;omega
   have e2:bits .xor .u32 (r.toNat:Int) (s[j].toNat:Int)=(r1.toNat:Int):=by
    rw [hr1,<- zir];simp
   simp only [zj0] at hCj;rw [<- hr1,<- zn1] at hCj;obtain ⟨R2,hR2⟩:∃ R2,R2=znv 8 r1:=⟨_,rfl⟩;rw [<- hR2] at hCj;replace hCj:=hid hCj;replace hr1:=hid hr1;replace hR2:=hid hR2;go_wp2_with fail
   obtain ⟨J,rfl⟩:∃ J,J=j:=⟨_,rfl⟩;obtain ⟨G,rfl⟩:∃ G,G=gk:=⟨_,rfl⟩;obtain ⟨W,rfl⟩:∃ W,W=wr:=⟨_,rfl⟩;go_loopg [3,5] 8 (fun g rv kv wi=>∃ (k:Nat) (x:UInt32),k+g=8/\kv=.int .i64 k/\rv=.int .u32 x.toNat/\wi=W/\R2=znv g x)
   case atStart=>exact ⟨0,r1,rfl,rfl,rfl,rfl,hR2.out⟩
   case round=>
    clear hR2;obtain ⟨k,x,hk,rfl,rfl,rfl,hx⟩:=hrel;replace hk:=hid hk
    by_cases hk8:k < 8
    ·have hdk:(k:Int) < 8:=by omega
     obtain ⟨g,rfl⟩:∃ g,gk=g+1:=⟨gk - 1,by have:=hk.out;omega⟩;simp only [znv] at hx;have q1:(x.toNat:Int).tmod 2=((x.toNat % 2:Nat):Int):=by rw [Int.tmod_eq_emod_of_nonneg (by omega)];omega
     have q2:(x.toNat:Int).tdiv 2=(x.toNat:Int) / 2:=by rw [Int.tdiv_eq_ediv_of_nonneg (by omega)]
     by_cases hodd:x.toNat % 2=1
     ·have q3:=zlR hodd
      have q4:(x.toNat:Int) / 2 % 4294967296=(x.toNat:Int) / 2:=by have:=x.toNat_lt;omega
      rw [hodd] at q1;generalize ziW x=y at hx q3;replace hx:=hid hx;go_wp2_with fail
      go_roundg g
      case measure=>omega
      case rel=>exact ⟨k+1,y,by have:=hk.out;omega,by go_num,rfl,rfl,hx.out⟩
     ·have q3:=zjc hodd
      have hev:x.toNat % 2=0:=by omega
      rw [hev] at q1;rw [q3] at q2;generalize ziW x=y at hx q2;have q4:(y.toNat:Int) % 4294967296=(y.toNat:Int):=by have:=y.toNat_lt;omega
      replace hx:=hid hx;go_wp2_with fail
      go_roundg g
      case measure=>omega
      case rel=>exact ⟨k+1,y,by have:=hk.out;omega,by go_num,rfl,rfl,hx.out⟩
    ·have hdk:¬ (k:Int) < 8:=by omega
     obtain rfl:gk=0:=by have:=hk.out;omega
     have hx2:x=R2:=hx.symm;subst hx2;clear hx;go_wp2_with fail
     go_roundg (G - 1)
     case measure=>have:=hj.out;omega
     case rel=>exact ⟨J+1,x,by have:=hj.out;omega,by go_num,rfl,rfl,hCj.out⟩
  ·obtain rfl:j=s.size:=by have:=hj.out;omega
   have hdi:¬ (s.size:Int) < (s.size:Int):=by omega
   have hd:decide ((s.size:Int) < (s.size:Int))=false:=decide_eq_false hdi;rw [List.drop_eq_nil_of_le (Nat.le_of_eq (zaO s).symm)] at hCj;simp only [zj0] at hCj;have e9:bits .xor .u32 IntKind.u32.max (r.toNat:Int)=((C ^^^ 0xFFFFFFFF).toNat:Int):=by
    rw [hCj,UInt32.xor_comm];exact zir 0xFFFFFFFF r
   have e10:wrap64 ((C ^^^ 0xFFFFFFFF).toNat:Int)=((C ^^^ 0xFFFFFFFF).toNat:Int):=by
    have:=(C ^^^ 0xFFFFFFFF).toNat_lt;exact IntWalk.wrap64_in _ (by omega)
   generalize (C ^^^ 0xFFFFFFFF).toNat=Z at e9 e10 hcr;replace hCj:=hid hCj;go_wp2_with fail
   go_ret;exact ⟨by rw [hcr.out];rfl,rfl⟩
end Go.Proofs.YtjjfphalcibjfaaGreatDoor
