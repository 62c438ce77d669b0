import Derived.Test.YtjjfphalcibjfaaGreatDoorH0
import Derived.Test.YtjjfphalcibjfaaGreatDoorC4
import Derived.Test.YtjjfphalcibjfaaGreatDoorRegIn
import Derived.Test.YtjjfphalcibjfaaGreatDoorD10
import Derived.Test.YtjjfphalcibjfaaGreatDoorD5
set_option maxRecDepth 100000
set_option maxHeartbeats 16000000
namespace Go.Proofs.YtjjfphalcibjfaaGreatDoor
open Go.Shelf Go.RowKit Cdk Scr
theorem zpD {a b:Bs} (h:a ≠ b):((⟨a.toArray⟩:ByteArray).toList !=(⟨b.toArray⟩:ByteArray).toList)=true/\¬ (⟨a.toArray⟩:ByteArray).toList=(⟨b.toArray⟩:ByteArray).toList:=by
 have:¬ (⟨a.toArray⟩:ByteArray).toList=(⟨b.toArray⟩:ByteArray).toList:=fun e=>h (by simpa using e)
 exact ⟨by rw [bne_iff_ne];exact this,this⟩
theorem zpx {y:Nat} (h:y < 4611686018427387904):IntKind.i64.wrap (y:Int)=y:=IntWalk.i64_in _ (by omega)
theorem znB {j k:Nat} (h:k=j+1) (hk:k<=9000000):IntKind.i64.wrap ((j:Int)+1)=(k:Int):=by rw [IntWalk.i64_in _ (by omega)];omega
theorem zpo (z:Nat) {y:Nat} (h:y=z / 2):(z:Int).tdiv 2=(y:Int):=by rw [Int.tdiv_eq_ediv_of_nonneg (by omega)];omega
theorem zpl (z:Nat) {y:Nat} (h:y=z % 2):(z:Int).tmod 2=(y:Int):=by rw [Int.tmod_eq_emod_of_nonneg (by omega)];omega
theorem zm5 {z:Nat} (h:z < 9223372036854775808):¬ 4611686018427387903 < zeT z:=by unfold zeT;split <;> omega
theorem zm7 {g j acc z:Nat} {Bt:UInt8} {pre r:Bs} (hm:¬ 128<=Bt.toNat) (hp:∀ c ∈ pre,128<=c.toNat) (hpl:pre.length=j) (hj:j < 9) (hacc:acc=zeK pre) (hz:z=acc+Bt.toNat*2 ^ (7*j)) (hzl:z < 9223372036854775808):
  (ziY (zeT z)=10/\zcr (g+1) j acc (Bt::r)=none) \/ (ziY (zeT z)=0/\zbc (zeT z) ≠ pre++[Bt]/\zcr (g+1) j acc (Bt::r)=none) \/ (ziY (zeT z)=0/\zbc (zeT z)=pre++[Bt]/\zcr (g+1) j acc (Bt::r)=some (zeT z,r)):=by
 have hzV:z=zeK (pre++[Bt]):=by rw [zdV,hpl,<- hacc,hz,Nat.mod_eq_of_lt (by omega:Bt.toNat < 128)]
 have hput:=fun h=>zi9 (l:=pre) (b:=Bt) hp (by omega) (by omega) h
 rw [<- hzV,hpl] at hput;have hg:=zea (g:=g) (j:=j) (acc:=acc) (r:=r) hm;rw [<- hz] at hg;have htop:=zm5 hzl;generalize zeT z=n at hput hg htop ⊢;rw [hg];clear hg
 by_cases hn:n < -4611686018427387903
 ·exact .inl ⟨if_pos (.inl hn),if_pos (.inr hn)⟩
 ·have hE:ziY n=0:=if_neg (by omega)
  by_cases h0:Bt.toNat=0/\0 < j
  ·exact .inr (.inl ⟨hE,fun e=>(hput hn).1 e h0,if_pos (.inl h0)⟩)
  ·exact .inr (.inr ⟨hE,(hput hn).2 h0,if_neg (by rintro (h | h);exact h0 h;exact hn h)⟩)
theorem zeV (t:Bs) (a:Nat) (ha:a<=t.length) (hs:t.length<=1000000) (w:World):
  Calls Tryz.prog 164 #[.string ⟨t.toArray⟩,.int .i64 a] w fun e w'=>zjo t a e/\Ext w w':=by
 have hrest:=fun n r (h:zdt (t.drop a)=some (n,r))=>zhL h
 obtain ⟨G,hG⟩:∃ G,G=zdt (t.drop a):=⟨_,rfl⟩;have hR:Hid (∀ e,zjo t a e=zlP t a e G):=Y (fun e=>by rw [hG];rfl);obtain ⟨S,hS⟩:∃ S:ByteArray,S=⟨t.toArray⟩:=⟨_,rfl⟩;have hSs:S.size=t.length:=by rw [hS];rfl
 have hSd:S.data.toList=t:=by rw [hS]
 have hex:Hid (∀ p q:Nat,S.extract p q=⟨((t.take q).drop p).toArray⟩):=Y (fun p q=>by rw [hS,zdD]);rw [<- hS];have hsl:S.size<=1000000:=by omega
 have haS:a<=S.size:=by omega
 have hG0:Hid (G=zcr 9 0 0 (S.data.toList.drop (a+0))):=Y (by rw [hG,hSd];rfl);have h1:¬ (a:Int) < 0:=by omega
 have h2:¬ (S.size:Int) < (a:Int):=by omega
 replace hS:=Y hS;replace hSd:=Y hSd;replace hSs:=Y hSs;replace hG:=Y hG;replace hrest:=Y hrest;go_enter Tryz.func164,Tryz.ntmps164;go_wp2_with fail
 clear h1 h2;go_loopg [7,8] 9 (fun g z i wr=>∃ (j acc aj:Nat) (pre:Bs),j+g=9/\aj=a+j/\i=.int .i64 j/\z=.int .u64 acc/\acc < 2 ^ (7*j)/\aj<=S.size/\wr=w/\G=zcr g j acc (S.data.toList.drop aj)/\pre=(t.drop a).take j/\(∀ c ∈ pre,128<=c.toNat)/\acc=zeK pre/\pre.length=j)
 case atStart=>exact ⟨0,0,a,[],rfl,rfl,rfl,rfl,by decide,haS,rfl,hG0.o,by simp,by simp,rfl,rfl⟩
 case round=>
  clear hG0 hG;obtain ⟨j,acc,aj,pre,hj,haj,rfl,rfl,hacc,hajS,rfl,hGj,hpre,hp128,hpacc,hpl⟩:=hrel;have hjl9:j<=9:=by omega
  have haw:IntKind.i64.wrap ((a:Int)+(j:Int))=(aj:Int):=by rw [IntWalk.i64_in _ (by omega)];omega
  have hjw:IntKind.i64.wrap ((j:Int)+1)=(j:Int)+1:=IntWalk.i64_in _ (by omega)
  by_cases hj9:j < 9
  ·obtain ⟨g,rfl⟩:∃ g,gk=g+1:=⟨gk - 1,by omega⟩
   have hj9i:(j:Int) < 9:=by omega
   by_cases hend:aj=S.size
   ·rw [hend,List.drop_eq_nil_of_le (Nat.le_of_eq (zaN S).symm),zjr] at hGj
    have hei:¬ (aj:Int) < (S.size:Int):=by omega
    replace hj:=Y hj;replace hacc:=Y hacc;replace hGj:=Y hGj;replace haj:=Y haj;replace hpre:=Y hpre;replace hp128:=Y hp128;replace hpacc:=Y hpacc;replace hpl:=Y hpl;clear hend;go_wp2_with fail
    go_ret3
    exact ⟨by rw [hR.o,hGj.o];rfl,Mod.refl _ _⟩
   ·have hlt:aj < S.size:=by omega
    have hei:(aj:Int) < (S.size:Int):=by omega
    rw [drop_at S hlt] at hGj;have hbt:S[aj]=t[aj]'(by have:=hSs.o;omega):=by have:=hS.o;subst this;rfl
    have htk:(t.drop a).take (j+1)=pre++[S[aj]]:=by
     rw [List.take_succ_eq_append_getElem (by rw [List.length_drop];have:=hSs.o;omega),<- hpre,List.getElem_drop,hbt];simp only [haj]
    have hxe:=hex.o a (aj+1);rw [List.drop_take,show aj+1 - a=j+1 by omega,htk] at hxe;replace hj:=Y hj;replace hacc:=Y hacc;replace hGj:=Y hGj;replace haj:=Y haj;replace hpre:=Y hpre;replace hp128:=Y hp128;replace hpacc:=Y hpacc;replace hpl:=Y hpl;replace hbt:=Y hbt;clear hend;obtain ⟨sj,hsj⟩:∃ sj,sj=7*j:=⟨_,rfl⟩;have hsw:IntKind.i64.wrap (7*(j:Int))=(sj:Int):=by rw [IntWalk.i64_in _ (by omega)];omega
    have hsn:¬ (sj:Int) < 0:=by omega
    have hsm:min sj 64=sj:=by omega
    replace hsj:=Y hsj;go_upto_region 8 with fail
    generalize S[aj]=Bt at hGj hxe htk hbt ⊢;have hb256:=Bt.toNat_lt;obtain ⟨x,hx⟩:∃ x,x=Bt.toNat % 128:=⟨_,rfl⟩;have hx128:x < 128:=by omega
    obtain ⟨m,hm0⟩:∃ m,m=x*2 ^ (7*j):=⟨_,rfl⟩;obtain ⟨z,hz⟩:∃ z,z=acc+m:=⟨_,rfl⟩;have hnx:=zdj (x:=x) hacc.o hx128;rw [<- hm0,<- hz] at hnx;have hzl:=zoz hj9 hnx;have hzV:z=zeK (pre++[Bt]):=by rw [zdV,hpl.o,<- hpacc.o,hz,hm0,hx]
    have f0:(Bt.toNat:Int).tmod 128=(x:Int):=by rw [Int.tmod_eq_emod_of_nonneg (by omega)];omega
    have f1:IntKind.u64.wrap (Bt.toNat:Int)=(Bt.toNat:Int):=u64_in _ (by omega);have f2:IntKind.u64.wrap ((x:Int)*2 ^ sj)=(m:Int):=by
     have:(x:Int)*2 ^ sj=(m:Int):=by rw [hm0,hsj.o];push_cast;rfl
     rw [this];exact u64_in _ (by omega)
    have f3:IntKind.u64.wrap ((acc:Int)+(m:Int))=(z:Int):=by rw [show (acc:Int)+(m:Int)=(z:Int) by omega];exact u64_in _ (by omega)
    replace hm0:=Y hm0;replace hz:=Y hz
    by_cases hmm:128<=Bt.toNat
    ·have hgm:=zdP (g:=g) (j:=j) (acc:=acc) (r:=S.data.toList.drop (aj+1)) hmm
     have hGn:=Y (hGj.o.trans hgm);rw [<- hx,<- hm0.o,<- hz.o] at hGn;have hmi:(128:Int)<=(Bt.toNat:Int):=by omega
     have hmn:¬ (Bt.toNat:Int) < 128:=by omega
     have hn1:=Y (show ∀ c ∈ pre++[Bt],128<=c.toNat from fun c hc=>by
      rcases List.mem_append.1 hc with hc | hc
      ·exact hp128.o c hc
      ·simp only [List.mem_singleton] at hc;subst hc;exact hmm)
     have hn2:Hid ((pre++[Bt]).length=j+1):=Y (by rw [List.length_append,hpl.o];rfl);replace hzV:=Y hzV;replace hnx:=Y hnx;replace htk:=Y htk;replace hxe:=Y hxe;replace hx:=Y hx;clear hGj hgm;go_wp2_with fail
     go_roundg g
     case measure=>omega
     case rel=>exact ⟨j+1,z,aj+1,pre++[Bt],by have:=hj.o;omega,by have:=haj.o;omega,by go_num,rfl,hnx.o,by omega,rfl,hGn.o,htk.o.symm,hn1.o,hzV.o,hn2.o⟩
    ·have hxb:x=Bt.toNat:=by omega
     have hL:=zm7 (g:=g) (acc:=acc) (z:=z) (r:=S.data.toList.drop (aj+1)) hmm hp128.o hpl.o hj9 hpacc.o (by rw [hz.o,hm0.o,hxb]) hzl;rw [<- hGj.o] at hL;have hmi:¬ (128:Int)<=(Bt.toNat:Int):=by omega
     have hmn:(Bt.toNat:Int) < 128:=by omega
     obtain ⟨P,hP⟩:∃ P,P=pre++[Bt]:=⟨_,rfl⟩;rw [<- hP] at hxe hL;obtain ⟨n,hn⟩:∃ n,n=zeT z:=⟨_,rfl⟩;rw [<- hn] at hL;have cP:=zca n;generalize zbc n=T at hL cP;generalize ziY n=E at hL cP;replace cP:=Y cP;obtain ⟨q,hq⟩:∃ q,q=aj+1:=⟨_,rfl⟩;rw [<- hq] at hxe hL;replace hL:=Y hL;replace hxe:=Y hxe;replace f0:=Y f0;replace f1:=Y f1;replace f2:=Y f2;replace f3:=Y f3;replace haw:=Y haw;replace hjw:=Y hjw;replace hsw:=Y hsw;obtain ⟨y,hy⟩:∃ y,y=z / 2:=⟨_,rfl⟩;have hyl:y < 4611686018427387904:=by omega
     have fb:(q:Int)<=(S.size:Int):=by omega
     have fc:(a:Int)<=(q:Int):=by have:=haj.o;omega
     have hq9:q<=9000000:=by omega
     obtain ⟨zm,hzm⟩:∃ zm,zm=z % 2:=⟨_,rfl⟩;have hm2:zm=0 \/ zm=1:=by omega
     have hov:(zm=1/\n=-(y:Int) - 1) \/ (¬ zm=1/\n=(y:Int)):=by
      rcases hm2 with h0 | h1
      ·exact .inr ⟨by omega,by rw [hn,zhG (by omega),hy]⟩
      ·exact .inl ⟨h1,by rw [hn,zjI (by omega),hy]⟩
     have hfin:=Y (show ∀ e,G=some (n,S.data.toList.drop q) -> e=.returned (.tuple #[.int .i64 n,.int .i64 q,.int .i64 0]) -> zjo t a e from fun e h1 h2=>by
      rw [hR.o,h1]
      exact ⟨q,by have:=haj.o;omega,by have:=hSs.o;omega,by rw [hSd.o],h2⟩)
     have hbad:=Y (show ∀ e,G=none -> e=.returned (.tuple #[.int .i64 0,.int .i64 0,.int .i64 10]) -> zjo t a e from fun e h1 h2=>by rw [hR.o,h1];exact h2);have f4:=zpo z hy;have fd:=zpl z hzm;have fa:=znB hq hq9;have f7:=zm0 hyl;have f8:=zpx hyl;have f6:=zoq hyl;have f9:wrap64 (-(y:Int) - 1)=-(y:Int) - 1:=znd hyl;have f5:=zoy hyl;clear hzl hyl hb256 hx128 hmm hq9;replace hn:=Y hn;replace hP:=Y hP;replace hq:=Y hq;replace hzm:=Y hzm;replace hy:=Y hy;replace hzV:=Y hzV;replace hnx:=Y hnx;replace htk:=Y htk;replace hx:=Y hx;replace hxb:=Y hxb;clear hGj hR;replace hxe:=hxe.o;replace f0:=f0.o;replace f1:=f1.o;replace f2:=f2.o;replace f3:=f3.o;replace haw:=haw.o;replace hsw:=hsw.o;rcases hL.o with ⟨hE,hGn⟩ | ⟨hE,hTP,hGn⟩ | ⟨hE,hTP,hGn⟩
     ·subst hE
      replace hGn:=Y hGn;rcases hov with ⟨rfl,rfl⟩ | ⟨hz1,rfl⟩
      ·go_wp2_with fail
       refine (cP.o _).mono ?_;rintro e w1 ⟨rfl,hx1⟩;replace hx1:=Y hx1;go_wp2_with fail
       go_ret3
       exact ⟨hbad.o _ hGn.o rfl,hx1.o⟩
      ·obtain rfl:zm=0:=hm2.resolve_right hz1
       go_wp2_with fail
       refine (cP.o _).mono ?_;rintro e w1 ⟨rfl,hx1⟩;replace hx1:=Y hx1;go_wp2_with fail
       go_ret3
       exact ⟨hbad.o _ hGn.o rfl,hx1.o⟩
     ·obtain ⟨hne1,hne2⟩:=zpD hTP
      have hne3:(T==P)=false:=by rw [beq_eq_false_iff_ne];exact hTP
      have hne4:(T !=P)=true:=by rw [bne_iff_ne];exact hTP
      have hne5:¬ T=P:=hTP;replace hTP:=Y hTP;subst hE;replace hGn:=Y hGn;rcases hov with ⟨rfl,rfl⟩ | ⟨hz1,rfl⟩
      ·go_wp2_with fail
       refine (cP.o _).mono ?_;rintro e w1 ⟨rfl,hx1⟩;replace hx1:=Y hx1;go_wp2_with fail
       go_ret3
       exact ⟨hbad.o _ hGn.o rfl,hx1.o⟩
      ·obtain rfl:zm=0:=hm2.resolve_right hz1
       go_wp2_with fail
       refine (cP.o _).mono ?_;rintro e w1 ⟨rfl,hx1⟩;replace hx1:=Y hx1;go_wp2_with fail
       go_ret3
       exact ⟨hbad.o _ hGn.o rfl,hx1.o⟩
     ·subst hTP
      subst hE;replace hGn:=Y hGn;rcases hov with ⟨rfl,rfl⟩ | ⟨hz1,rfl⟩
      ·go_wp2_with fail
       refine (cP.o _).mono ?_;rintro e w1 ⟨rfl,hx1⟩;replace hx1:=Y hx1;go_wp2_with fail
       all_goals
        go_ret3
        exact ⟨hfin.o _ hGn.o rfl,hx1.o⟩
      ·obtain rfl:zm=0:=hm2.resolve_right hz1
       go_wp2_with fail
       refine (cP.o _).mono ?_;rintro e w1 ⟨rfl,hx1⟩;replace hx1:=Y hx1;go_wp2_with fail
       all_goals
        go_ret3
        exact ⟨hfin.o _ hGn.o rfl,hx1.o⟩
  ·obtain rfl:j=9:=by omega
   have hg0:gk=0:=by omega
   subst hg0;have hj9i:¬ ((9:Nat):Int) < 9:=by omega
   have hGz:G=none:=hGj;replace hj:=Y hj;replace hacc:=Y hacc;replace hGj:=Y hGj;replace haj:=Y haj;replace hpre:=Y hpre;replace hp128:=Y hp128;replace hpacc:=Y hpacc;replace hpl:=Y hpl;replace hGz:=Y hGz;go_wp2_with fail
   go_ret3
   exact ⟨by rw [hR.o,hGz.o];rfl,Mod.refl _ _⟩
theorem zfb (t:Bs) (a:Nat) (ha:a<=t.length) (hs:t.length<=1000000) (w:World):
  Calls Tryz.prog 165 #[.string ⟨t.toArray⟩,.int .i64 a] w fun e w'=>znq t a e/\Ext w w':=by
 have h1:=Y (zeV t a ha hs w);obtain ⟨G,hG⟩:∃ G,G=zhj (t.drop a):=⟨_,rfl⟩;have hR:Hid (∀ e,znq t a e=znX t a e G):=Y (fun e=>by rw [hG];rfl);obtain ⟨S,hS⟩:∃ S:ByteArray,S=⟨t.toArray⟩:=⟨_,rfl⟩;have hSs:S.size=t.length:=by rw [hS];rfl
 rw [<- hS] at h1 ⊢;have hsl:S.size<=1000000:=by omega
 have hex:Hid (∀ b k:Nat,S.extract b (b+k)=⟨((t.drop b).take k).toArray⟩):=Y (fun b k=>by rw [hS,zdD,<- List.take_drop]);replace hS:=Y hS;replace hSs:=Y hSs;go_enter Tryz.func165,Tryz.ntmps165;go_wp2_with fail
 refine h1.o.mono ?_;rintro e w1 ⟨hi,hxx⟩;replace hxx:=Y hxx;unfold zjo zlP at hi;unfold zhj at hG;clear h1;cases hg:zdt (t.drop a) with
 | none=>
  rw [hg] at hi hG;simp only at hi hG;subst hi;replace hG:=Y hG;go_wp2_with fail
  go_ret3
  exact ⟨by rw [hR.o,hG.o];rfl,hxx.o⟩
 | some x=>
  obtain ⟨n,r⟩:=x;rw [hg] at hi hG;simp only at hi hG;obtain ⟨b,hab,hbl,hrb,rfl⟩:=hi;have hrl:(r.length:Int)=(S.size:Int) - (b:Int):=by rw [hrb,List.length_drop];have:=hSs.o;omega
  rw [hrl] at hG;have hbS:b<=S.size:=by have:=hSs.o;omega
  replace hrl:=Y hrl;replace hrb:=Y hrb;replace hbl:=Y hbl;replace hg:=Y hg
  by_cases h1:n < 0
  ·rw [if_pos (.inl h1)] at hG
   replace hG:=Y hG;go_wp2_with fail
   go_ret3
   exact ⟨by rw [hR.o,hG.o];rfl,hxx.o⟩
  by_cases h2:65536 < n
  ·rw [if_pos (.inr (.inl h2))] at hG
   replace hG:=Y hG;go_wp2_with fail
   go_ret3
   exact ⟨by rw [hR.o,hG.o];rfl,hxx.o⟩
  have hsw:IntKind.i64.wrap ((S.size:Int) - (b:Int))=(S.size:Int) - (b:Int):=IntWalk.i64_in _ (by omega)
  by_cases h3:(S.size:Int) - (b:Int) < n
  ·rw [if_pos (.inr (.inr h3))] at hG
   replace hG:=Y hG;go_wp2_with fail
   go_ret3
   exact ⟨by rw [hR.o,hG.o];rfl,hxx.o⟩
  rw [if_neg (by rintro (h | h | h);exact h1 h;exact h2 h;exact h3 h)] at hG;obtain ⟨k,rfl⟩:∃ k:Nat,n=k:=⟨n.toNat,by omega⟩;have hk:b+k<=S.size:=by omega
  have hki:(b:Int)+(k:Int)<=(S.size:Int):=by omega
  have hkl:(b:Int)<=(b:Int)+(k:Int):=by omega
  have haw:IntKind.i64.wrap ((b:Int)+(k:Int))=(b:Int)+(k:Int):=IntWalk.i64_in _ (by omega);have hx:=hex.o b k;replace hG:=Y hG;go_wp2_with fail
  go_ret3
  refine ⟨?_,hxx.o⟩;rw [hR.o,hG.o];refine ⟨b+k,by omega,by have:=hSs.o;omega,?_,?_⟩
  ·show r.drop (k:Int).toNat=t.drop (b+k)
   rw [hrb.o,List.drop_drop,Int.toNat_natCast]
  ·show Ending.returned (.tuple #[.string (S.extract b (b+k)),.int .i64 ((b:Int)+(k:Int)),.int .i64 0])=.returned (.tuple #[.string ⟨(r.take (k:Int).toNat).toArray⟩,.int .i64 ((b+k:Nat):Int),.int .i64 0])
   rw [hx,hrb.o,Int.toNat_natCast]
   rfl
def BrQ (w:World) (R:Nat) (t:Bs) (st:St):Prop:=∃ a:Nat,a<=t.length/\match st with
 | .ok r=>r=t.drop a/\w.heap[R]?=some (.cells #[.string ⟨t.toArray⟩,.int .i64 a,.int .i64 0] 170 (0,0))
 | .error e=>e ≠ 0/\w.heap[R]?=some (.cells #[.string ⟨t.toArray⟩,.int .i64 a,.int .i64 e] 170 (0,0))
theorem BrQ.lt {w:World} {R:Nat} {t:Bs} {st:St} (h:BrQ w R t st):R < w.heap.size:=by
 obtain ⟨a,-,h⟩:=h;cases st with
 | ok r=>exact zas h.2
 | error e=>exact zas h.2
theorem BrQ.mod {S:Nat -> Prop} {w w':World} {R:Nat} {t:Bs} {st:St} (h:BrQ w R t st) (hm:Mod S w w') (hR:¬ S R):BrQ w' R t st:=by
 obtain ⟨a,ha,h⟩:=h;refine ⟨a,ha,?_⟩;cases st with
 | ok r=>exact ⟨h.1,hm.at h.2 hR⟩
 | error e=>exact ⟨h.1,hm.at h.2 hR⟩
theorem BrQ.ext {w w':World} {R:Nat} {t:Bs} {st:St} (h:BrQ w R t st) (hx:Ext w w'):BrQ w' R t st:=h.mod hx id
theorem BrQ.err {w:World} {R:Nat} {t:Bs} {st:St} (h:BrQ w R t st):w.cell? ⟨R,2,none⟩=some (.int .i64 (stE st)):=by
 obtain ⟨a,ha,h⟩:=h;cases st with
 | ok r=>exact zaa h.2 2
 | error e=>exact zaa h.2 2
theorem BrQ.ne {w:World} {R:Nat} {t:Bs} {e:Int} (h:BrQ w R t (.error e)):e ≠ 0:=by
 obtain ⟨a,ha,h⟩:=h;exact h.1
theorem zbw (R:Nat) (t:Bs) (st:St) (hs:t.length<=1000000) (w:World) (h:BrQ w R t st):
  Calls Tryz.prog 221 #[.pointer (some ⟨R,0,none⟩)] w fun e w'=>e=.returned (.int .i64 (mI st).1)/\BrQ w' R t (mI st).2/\RdM R w w':=by
 obtain ⟨a,ha,h⟩:=h;cases st with
 | error er=>
  simp only at h;obtain ⟨he,h⟩:=h;have c2:=cS h 2;have he1:(er !=0)=true:=by rw [bne_iff_ne];exact he
  have he2:(er==0)=false:=by rw [beq_eq_false_iff_ne];exact he
  replace h:=Y h;go_enter Tryz.func221,Tryz.ntmps221;go_wp2_with fail
  go_ret;exact ⟨rfl,⟨a,ha,he,h.o⟩,Mod.refl _ _⟩
 | ok r=>
  simp only at h;obtain ⟨hr,h⟩:=h;have c2:=cS h 2;have hd0:=(Mod.drew0 (fun _=>False) w).at h id;have hm0:=RdM.ofExt (R:=R) (Mod.drew0 (fun _=>False) w);replace h:=Y h;go_enter Tryz.func221,Tryz.ntmps221;go_upto_region 3 with (fail)
  refine rS (fun W=>W.heap[R]?=some (.cells #[.string ⟨t.toArray⟩,.int .i64 a,.int .i64 0] 170 (0,0))) [(0,true),(1,true),(2,true),(3,true),(4,true),(5,true),(6,true),(7,true),(8,false),(9,true),(10,true),(11,true),(12,true),(13,true),(14,true),(15,true)] hd0 ?_;simp only [zah,List.map_cons,List.map_nil,List.getD_cons_zero,List.getD_cons_succ];generalize w.drew=w0 at hd0 hm0 ⊢;clear c2;have h1:=Y (zeV t a ha hs w0);replace hd0:=Y hd0;replace hm0:=Y hm0;repeat (refine zav (by rfl) ?_ (fun w' hC=>?_) ?_;rotate_left;(have q0:=cS hC 0;have q1:=cS hC 1;go_simp;try with_reducible rfl);try simp only [Act.put,sA,sZ,sS])
  refine zak (by rfl) (fun K hK=>?_);go_simp;refine h1.o.mono ?_;rintro e w1 ⟨hi,hxn⟩;clear h1;unfold zjo zlP at hi;have hd1:=Y (hxn.at hd0.o id);have hm1:=Y (hm0.o.trans (RdM.ofExt hxn));have hb0:=cS hd1.o 2;have zR:=zad hd1.o;cases hg:zdt (t.drop a) with
  | none=>
   have em:mI (.ok r)=(0,.error 10):=by unfold mI mR rbI;simp only [hr,hg]
   rw [hg] at hi;simp only at hi;subst hi;refine hK.o _ _ hd1.o ?_;clear hK K;have p2:=Y (zai hd1.o 2 (.int .i64 10));have m2:=Y (hm1.o.setCell (a:=⟨R,2,none⟩) (fun _=>rfl) (.int .i64 10));try simp only [Act.put,sA,sZ,sS]
   repeat (refine qT ?_)
   refine zar ?_;go_wp2_with fail
   go_ret;rw [em];exact ⟨rfl,⟨a,ha,by decide,p2.o⟩,m2.o⟩
  | some x=>
   obtain ⟨n,u⟩:=x;have em:mI (.ok r)=(n,.ok u):=by unfold mI mR rbI;simp only [hr,hg]
   rw [hg] at hi;simp only at hi;obtain ⟨b,hab,hbl,hub,rfl⟩:=hi;refine hK.o _ _ hd1.o ?_;clear hK K;have hb1:=cS hd1.o 1;have p2:=Y (zai hd1.o 1 (.int .i64 b));have m2:=Y (hm1.o.setCell (a:=⟨R,1,none⟩) (fun _=>rfl) (.int .i64 b));try simp only [Act.put,sA,sZ,sS]
   repeat (refine qT ?_)
   refine zar ?_;go_wp2_with fail
   go_ret;rw [em];exact ⟨rfl,⟨b,hbl,hub,p2.o⟩,m2.o⟩
theorem zkz (R:Nat) (t:Bs) (st:St) (hs:t.length<=1000000) (w:World) (h:BrQ w R t st):
  Calls Tryz.prog 222 #[.pointer (some ⟨R,0,none⟩)] w fun e w'=>e=.returned (.string ⟨((mS st).1).toArray⟩)/\BrQ w' R t (mS st).2/\RdM R w w':=by
 obtain ⟨a,ha,h⟩:=h;cases st with
 | error er=>
  simp only at h;obtain ⟨he,h⟩:=h;have c2:=cS h 2;have he1:(er !=0)=true:=by rw [bne_iff_ne];exact he
  have he2:(er==0)=false:=by rw [beq_eq_false_iff_ne];exact he
  replace h:=Y h;go_enter Tryz.func222,Tryz.ntmps222;go_wp2_with fail
  go_ret;exact ⟨rfl,⟨a,ha,he,h.o⟩,Mod.refl _ _⟩
 | ok r=>
  simp only at h;obtain ⟨hr,h⟩:=h;have c2:=cS h 2;have hd0:=(Mod.drew0 (fun _=>False) w).at h id;have hm0:=RdM.ofExt (R:=R) (Mod.drew0 (fun _=>False) w);replace h:=Y h;go_enter Tryz.func222,Tryz.ntmps222;go_upto_region 3 with (fail)
  refine rS (fun W=>W.heap[R]?=some (.cells #[.string ⟨t.toArray⟩,.int .i64 a,.int .i64 0] 170 (0,0))) [(0,true),(1,true),(2,true),(3,true),(4,true),(5,true),(6,true),(7,true),(8,false),(9,true),(10,true),(11,true),(12,true),(13,true),(14,true),(15,true)] hd0 ?_;simp only [zah,List.map_cons,List.map_nil,List.getD_cons_zero,List.getD_cons_succ];generalize w.drew=w0 at hd0 hm0 ⊢;clear c2;have h1:=Y (zfb t a ha hs w0);replace hd0:=Y hd0;replace hm0:=Y hm0;repeat (refine zav (by rfl) ?_ (fun w' hC=>?_) ?_;rotate_left;(have q0:=cS hC 0;have q1:=cS hC 1;go_simp;try with_reducible rfl);try simp only [Act.put,sA,sZ,sS])
  refine zak (by rfl) (fun K hK=>?_);go_simp;refine h1.o.mono ?_;rintro e w1 ⟨hi,hxn⟩;clear h1;unfold znq znX at hi;have hd1:=Y (hxn.at hd0.o id);have hm1:=Y (hm0.o.trans (RdM.ofExt hxn));have hb0:=cS hd1.o 2;have zR:=zad hd1.o;cases hg:zhj (t.drop a) with
  | none=>
   have em:mS (.ok r)=([],.error 10):=by unfold mS mR rbS;simp only [hr,hg]
   rw [hg] at hi;simp only at hi;subst hi;refine hK.o _ _ hd1.o ?_;clear hK K;have p2:=Y (zai hd1.o 2 (.int .i64 10));have m2:=Y (hm1.o.setCell (a:=⟨R,2,none⟩) (fun _=>rfl) (.int .i64 10));try simp only [Act.put,sA,sZ,sS]
   repeat (refine qT ?_)
   refine zar ?_;go_wp2_with fail
   go_ret;rw [em];exact ⟨rfl,⟨a,ha,by decide,p2.o⟩,m2.o⟩
  | some x=>
   obtain ⟨n,u⟩:=x;have em:mS (.ok r)=(n,.ok u):=by unfold mS mR rbS;simp only [hr,hg]
   rw [hg] at hi;simp only at hi;obtain ⟨b,hab,hbl,hub,rfl⟩:=hi;refine hK.o _ _ hd1.o ?_;clear hK K;have hb1:=cS hd1.o 1;have p2:=Y (zai hd1.o 1 (.int .i64 b));have m2:=Y (hm1.o.setCell (a:=⟨R,1,none⟩) (fun _=>rfl) (.int .i64 b));try simp only [Act.put,sA,sZ,sS]
   repeat (refine qT ?_)
   refine zar ?_;go_wp2_with fail
   go_ret;rw [em];exact ⟨rfl,⟨b,hbl,hub,p2.o⟩,m2.o⟩
def mC (most:Int) (st:St):Int × St:=match mI st with
 | (_,.error e)=>(0,.error e)
 | (c,.ok r)=>if c < 0 \/ most < c then (0,.error 30) else (c,.ok r)
theorem zgs (most:Int) (_hmost:0<=most/\most<=1000) (R:Nat) (t:Bs) (st:St) (hs:t.length<=1000000) (w:World) (h:BrQ w R t st):
  Calls Tryz.prog 200 #[.pointer (some ⟨R,0,none⟩),.int .i64 most] w fun e w'=>e=.returned (.int .i64 (mC most st).1)/\BrQ w' R t (mC most st).2/\RdM R w w':=by
 have h1:=Y (zbw R t st hs w h);have hrng:=zgO st;obtain ⟨T,hT⟩:∃ T,T=mC most st:=⟨_,rfl⟩;rw [<- hT];unfold mC at hT;generalize mI st=q at h1 hrng hT;obtain ⟨c,s1⟩:=q;simp only at h1 hrng hT;have hc1:=hrng.1;have hc2:=hrng.2;clear hrng h;replace hT:=Y hT;go_enter Tryz.func200,Tryz.ntmps200;go_wp2_with fail
 refine h1.o.mono ?_;rintro e w1 ⟨rfl,hb1,hm1⟩;clear h1;have c2:=hb1.err;cases s1 with
 | error er=>
  have hT2:=Y (show T=(0,.error er) from hT.o);have hne:=hb1.ne;have he1:(er==0)=false:=by rw [beq_eq_false_iff_ne];exact hne
  have he2:(er !=0)=true:=by rw [bne_iff_ne];exact hne
  simp only [stE] at c2;replace hb1:=Y hb1;replace hm1:=Y hm1;clear hT;go_wp2_with fail
  go_ret;rw [hT2.o];exact ⟨rfl,hb1.o,hm1.o⟩
 | ok r=>
  simp only [stE] at c2
  by_cases hbad:c < 0 \/ most < c
  ·have hT2:=Y (show T=(0,.error 30) by rw [hT.o];simp only;rw [if_pos hbad])
   obtain ⟨a,ha,hra,hb2⟩:=hb1;have z2:=zad hb2;have p2:=zai hb2 2 (.int .i64 30);have m2:=Y (hm1.setCell (a:=⟨R,2,none⟩) (fun _=>rfl) (.int .i64 30));have d2:(w1.setCell ⟨R,2,none⟩ (.int .i64 30)).cell? ⟨R,2,none⟩=some (.int .i64 30):=zaa p2 2;have hbb:Hid (BrQ (w1.setCell ⟨R,2,none⟩ (.int .i64 30)) R t (.error 30)):=Y ⟨a,ha,by decide,p2⟩;replace p2:=Y p2;replace hb2:=Y hb2;replace hm1:=Y hm1;clear hT hra
   by_cases hneg:c < 0
   ·replace hbad:=Y hbad
    go_wp2_with fail
    go_ret;rw [hT2.o];exact ⟨rfl,hbb.o,m2.o⟩
   ·have hn2:most < c:=by rcases hbad with hb | hb <;> omega
    replace hbad:=Y hbad;go_wp2_with fail
    go_ret;rw [hT2.o];exact ⟨rfl,hbb.o,m2.o⟩
  ·have hT2:=Y (show T=(c,.ok r) by rw [hT.o];simp only;rw [if_neg hbad])
   have hn1:¬ c < 0:=by omega
   have hn2:¬ most < c:=by omega
   replace hb1:=Y hb1;replace hm1:=Y hm1;clear hT;replace hbad:=Y hbad;go_wp2_with fail
   go_ret;rw [hT2.o];exact ⟨rfl,hb1.o,hm1.o⟩
def BkQ (w:World) (R:Nat) (t:Bs) (T:Bk × St) (e:Ending) (w':World):Prop:=∃ v,e=.returned (.agg (bkC (v,T.1)).toArray)/\Cdk.Own w' w.heap.size 3 1 zcZ v T.1.lb.aft/\BrQ w' R t T.2/\RdM R w w'
theorem zpz (most:Int) (hm:0<=most) (st:St):mL most mI st=mN mI (mC most st).1.toNat (mC most st).2/\0<=(mC most st).1/\(mC most st).1<=most:=by
 unfold mL mC;generalize mI st=q;obtain ⟨c,s⟩:=q;cases s with
 | error e=>exact ⟨by simp [mN],by simp,by simpa using hm⟩
 | ok r=>
  simp only
  by_cases h:c < 0 \/ most < c
  ·rw [if_pos h,if_pos h];exact ⟨by simp [mN],by simp,by simpa using hm⟩
  ·rw [if_neg h,if_neg h];exact ⟨rfl,by simp only;omega,by simp only;omega⟩
theorem zj3 (R:Nat) (t:Bs) (st:St) (hs:t.length<=1000000) (w:World) (h:BrQ w R t st):
  Calls Tryz.prog 201 #[.pointer (some ⟨R,0,none⟩)] w (BkQ w R t (mB st)):=by
 have hRlt:=h.lt;obtain ⟨U,hU⟩:∃ U,U=w.heap.size:=⟨_,rfl⟩;have hx0:=((Mod.refl (fun _=>False) w).alloc (.cells #[.int .i64 0,.int .i64 0,.string ⟨#[]⟩,.int .i64 0,.int .i64 0,.int .i64 0,.slice none 0 0,.int .i64 0,.int .i64 0] 118)).alloc (.cells #[.int .i64 0,.int .i64 0,.string ⟨#[]⟩,.int .i64 0,.int .i64 0,.int .i64 0,.slice none 0 0,.int .i64 0,.int .i64 0] 118);have hbU:((w.alloc (.cells #[.int .i64 0,.int .i64 0,.string ⟨#[]⟩,.int .i64 0,.int .i64 0,.int .i64 0,.slice none 0 0,.int .i64 0,.int .i64 0] 118)).alloc (.cells #[.int .i64 0,.int .i64 0,.string ⟨#[]⟩,.int .i64 0,.int .i64 0,.int .i64 0,.slice none 0 0,.int .i64 0,.int .i64 0] 118)).heap[U]?=some (.cells #[.int .i64 0,.int .i64 0,.string ⟨#[]⟩,.int .i64 0,.int .i64 0,.int .i64 0,.slice none 0 0,.int .i64 0,.int .i64 0] 118 (0,0)):=by rw [zaG,World.size_alloc,hU,if_neg (by omega)];exact heap_alloc_new w _
 have hbT:((w.alloc (.cells #[.int .i64 0,.int .i64 0,.string ⟨#[]⟩,.int .i64 0,.int .i64 0,.int .i64 0,.slice none 0 0,.int .i64 0,.int .i64 0] 118)).alloc (.cells #[.int .i64 0,.int .i64 0,.string ⟨#[]⟩,.int .i64 0,.int .i64 0,.int .i64 0,.slice none 0 0,.int .i64 0,.int .i64 0] 118)).heap[U+1]?=some (.cells #[.int .i64 0,.int .i64 0,.string ⟨#[]⟩,.int .i64 0,.int .i64 0,.int .i64 0,.slice none 0 0,.int .i64 0,.int .i64 0] 118 (0,0)):=by rw [hU];have:=heap_alloc_new (w.alloc (.cells #[.int .i64 0,.int .i64 0,.string ⟨#[]⟩,.int .i64 0,.int .i64 0,.int .i64 0,.slice none 0 0,.int .i64 0,.int .i64 0] 118)) (.cells #[.int .i64 0,.int .i64 0,.string ⟨#[]⟩,.int .i64 0,.int .i64 0,.int .i64 0,.slice none 0 0,.int .i64 0,.int .i64 0] 118);rwa [World.size_alloc] at this
 have hb0:=h.ext hx0;have hm0:=RdM.ofExt (R:=R) hx0;go_enter Tryz.func201,Tryz.ntmps201;unfold BkQ;go_wp2_with fail
 try simp only [World.size_alloc]
 rw [<- hU];have hwU:w.heap.size<=U:=Nat.le_of_eq hU.symm;have hRU:R < U:=by omega
 generalize ((w.alloc (.cells #[.int .i64 0,.int .i64 0,.string ⟨#[]⟩,.int .i64 0,.int .i64 0,.int .i64 0,.slice none 0 0,.int .i64 0,.int .i64 0] 118)).alloc (.cells #[.int .i64 0,.int .i64 0,.string ⟨#[]⟩,.int .i64 0,.int .i64 0,.int .i64 0,.slice none 0 0,.int .i64 0,.int .i64 0] 118))=w0 at hbU hbT hb0 hm0 ⊢;replace hU:=Y hU;replace hbU:=Y hbU;replace hbT:=Y hbT;replace hm0:=Y hm0;obtain ⟨M,hM⟩:∃ M,M=mB st:=⟨_,rfl⟩;unfold mB at hM;simp only at hM;replace hM:=Y hM;clear hx0 h;have k0:=Y (zbw R t st hs w0 hb0);clear hb0;refine k0.o.mono ?_;rintro e W1 ⟨rfl,hb1,hn⟩;generalize hq0:mI st=q0 at hb1 ⊢;obtain ⟨x0,s1⟩:=q0;simp only at hb1 ⊢;replace hq0:=Y hq0;have bT:=hn.at hbT.o (by omega);have bU:=hn.at hbU.o (by omega);have mm:=hm0.o.trans hn;have ct:=zaa bT 0;have zt:=zad bT;have pT:=zai bT 0 (.int .i64 x0);have pU:=(zan W1 (b:=U+1) (k:=U) 0 (.int .i64 x0) (by omega)).trans bU;have pB:=Y ((hb1.mod (S:=fun k=>k=U+1) ((Mod.refl (fun k=>k=U+1) W1).setCell (a:=⟨U+1,0,none⟩) (fun _=>rfl) (.int .i64 x0)) (by omega)));have pM:=Y (mm.setCell (a:=⟨U+1,0,none⟩) (fun hh=>absurd hh (by show ¬ U+1 < w.heap.size;omega)) (.int .i64 x0));simp at ct;replace bT:=Y bT;replace mm:=Y mm;replace pT:Hid ((W1.setCell ⟨U+1,0,none⟩ (.int .i64 x0)).heap[U+1]?=some (.cells #[.int .i64 x0,.int .i64 0,.string ⟨#[]⟩,.int .i64 0,.int .i64 0,.int .i64 0,.slice none 0 0,.int .i64 0,.int .i64 0] 118 (0,0))):=Y (by simpa using pT);clear hbT hbU bU  hm0 hb1 hn k0;replace pU:=Y pU;go_wp2_with fail
 generalize W1.setCell ⟨U+1,0,none⟩ (.int .i64 x0)=W1s at pT pU pB pM  ⊢;clear ct zt bT mm;have hbT:=pT;have hbU:=pU;have hb1:=pB.o;have hm:=pM
 skip
 clear pT pU pB pM;have k1:=Y (zbw R t s1 hs W1s hb1);clear hb1;refine k1.o.mono ?_;rintro e W2 ⟨rfl,hb2,hn⟩;generalize hq1:mI s1=q1 at hb2 ⊢;obtain ⟨x1,s2⟩:=q1;simp only at hb2 ⊢;replace hq1:=Y hq1;have bT:=hn.at hbT.o (by omega);have bU:=hn.at hbU.o (by omega);have mm:=hm.o.trans hn;have ct:=zaa bT 1;have zt:=zad bT;have pT:=zai bT 1 (.int .i64 x1);have pU:=(zan W2 (b:=U+1) (k:=U) 1 (.int .i64 x1) (by omega)).trans bU;have pB:=Y ((hb2.mod (S:=fun k=>k=U+1) ((Mod.refl (fun k=>k=U+1) W2).setCell (a:=⟨U+1,1,none⟩) (fun _=>rfl) (.int .i64 x1)) (by omega)));have pM:=Y (mm.setCell (a:=⟨U+1,1,none⟩) (fun hh=>absurd hh (by show ¬ U+1 < w.heap.size;omega)) (.int .i64 x1));simp at ct;replace bT:=Y bT;replace mm:=Y mm;replace pT:Hid ((W2.setCell ⟨U+1,1,none⟩ (.int .i64 x1)).heap[U+1]?=some (.cells #[.int .i64 x0,.int .i64 x1,.string ⟨#[]⟩,.int .i64 0,.int .i64 0,.int .i64 0,.slice none 0 0,.int .i64 0,.int .i64 0] 118 (0,0))):=Y (by simpa using pT);clear hbT hbU bU  hm hb2 hn k1;replace pU:=Y pU;go_wp2_with fail
 generalize W2.setCell ⟨U+1,1,none⟩ (.int .i64 x1)=W2s at pT pU pB pM  ⊢;clear ct zt bT mm;have hbT:=pT;have hbU:=pU;have hb2:=pB.o;have hm:=pM
 skip
 clear pT pU pB pM;have k2:=Y (zkz R t s2 hs W2s hb2);clear hb2;refine k2.o.mono ?_;rintro e W3 ⟨rfl,hb3,hn⟩;generalize hq2:mS s2=q2 at hb3 ⊢;obtain ⟨x2,s3⟩:=q2;simp only at hb3 ⊢;replace hq2:=Y hq2;have bT:=hn.at hbT.o (by omega);have bU:=hn.at hbU.o (by omega);have mm:=hm.o.trans hn;have ct:=zaa bT 2;have zt:=zad bT;have pT:=zai bT 2 (.string ⟨x2.toArray⟩);have pU:=(zan W3 (b:=U+1) (k:=U) 2 (.string ⟨x2.toArray⟩) (by omega)).trans bU;have pB:=Y ((hb3.mod (S:=fun k=>k=U+1) ((Mod.refl (fun k=>k=U+1) W3).setCell (a:=⟨U+1,2,none⟩) (fun _=>rfl) (.string ⟨x2.toArray⟩)) (by omega)));have pM:=Y (mm.setCell (a:=⟨U+1,2,none⟩) (fun hh=>absurd hh (by show ¬ U+1 < w.heap.size;omega)) (.string ⟨x2.toArray⟩));simp at ct;replace bT:=Y bT;replace mm:=Y mm;replace pT:Hid ((W3.setCell ⟨U+1,2,none⟩ (.string ⟨x2.toArray⟩)).heap[U+1]?=some (.cells #[.int .i64 x0,.int .i64 x1,.string ⟨x2.toArray⟩,.int .i64 0,.int .i64 0,.int .i64 0,.slice none 0 0,.int .i64 0,.int .i64 0] 118 (0,0))):=Y (by simpa using pT);clear hbT hbU bU  hm hb3 hn k2;replace pU:=Y pU;go_wp2_with fail
 generalize W3.setCell ⟨U+1,2,none⟩ (.string ⟨x2.toArray⟩)=W3s at pT pU pB pM  ⊢;clear ct zt bT mm;have hbT:=pT;have hbU:=pU;have hb3:=pB.o;have hm:=pM
 skip
 clear pT pU pB pM;have k3:=Y (zbw R t s3 hs W3s hb3);clear hb3;refine k3.o.mono ?_;rintro e W4 ⟨rfl,hb4,hn⟩;generalize hq3:mI s3=q3 at hb4 ⊢;obtain ⟨x3,s4⟩:=q3;simp only at hb4 ⊢;replace hq3:=Y hq3;have bT:=hn.at hbT.o (by omega);have bU:=hn.at hbU.o (by omega);have mm:=hm.o.trans hn;have ct:=zaa bT 3;have zt:=zad bT;have pT:=zai bT 3 (.int .i64 x3);have pU:=(zan W4 (b:=U+1) (k:=U) 3 (.int .i64 x3) (by omega)).trans bU;have pB:=Y ((hb4.mod (S:=fun k=>k=U+1) ((Mod.refl (fun k=>k=U+1) W4).setCell (a:=⟨U+1,3,none⟩) (fun _=>rfl) (.int .i64 x3)) (by omega)));have pM:=Y (mm.setCell (a:=⟨U+1,3,none⟩) (fun hh=>absurd hh (by show ¬ U+1 < w.heap.size;omega)) (.int .i64 x3));simp at ct;replace bT:=Y bT;replace mm:=Y mm;replace pT:Hid ((W4.setCell ⟨U+1,3,none⟩ (.int .i64 x3)).heap[U+1]?=some (.cells #[.int .i64 x0,.int .i64 x1,.string ⟨x2.toArray⟩,.int .i64 x3,.int .i64 0,.int .i64 0,.slice none 0 0,.int .i64 0,.int .i64 0] 118 (0,0))):=Y (by simpa using pT);clear hbT hbU bU  hm hb4 hn k3;replace pU:=Y pU;go_wp2_with fail
 generalize W4.setCell ⟨U+1,3,none⟩ (.int .i64 x3)=W4s at pT pU pB pM  ⊢;clear ct zt bT mm;have hbT:=pT;have hbU:=pU;have hb4:=pB.o;have hm:=pM
 skip
 clear pT pU pB pM;have k4:=Y (zbw R t s4 hs W4s hb4);clear hb4;refine k4.o.mono ?_;rintro e W5 ⟨rfl,hb5,hn⟩;generalize hq4:mI s4=q4 at hb5 ⊢;obtain ⟨x4,s5⟩:=q4;simp only at hb5 ⊢;replace hq4:=Y hq4;have bT:=hn.at hbT.o (by omega);have bU:=hn.at hbU.o (by omega);have mm:=hm.o.trans hn;have ct:=zaa bT 4;have zt:=zad bT;have pT:=zai bT 4 (.int .i64 x4);have pU:=(zan W5 (b:=U+1) (k:=U) 4 (.int .i64 x4) (by omega)).trans bU;have pB:=Y ((hb5.mod (S:=fun k=>k=U+1) ((Mod.refl (fun k=>k=U+1) W5).setCell (a:=⟨U+1,4,none⟩) (fun _=>rfl) (.int .i64 x4)) (by omega)));have pM:=Y (mm.setCell (a:=⟨U+1,4,none⟩) (fun hh=>absurd hh (by show ¬ U+1 < w.heap.size;omega)) (.int .i64 x4));simp at ct;replace bT:=Y bT;replace mm:=Y mm;replace pT:Hid ((W5.setCell ⟨U+1,4,none⟩ (.int .i64 x4)).heap[U+1]?=some (.cells #[.int .i64 x0,.int .i64 x1,.string ⟨x2.toArray⟩,.int .i64 x3,.int .i64 x4,.int .i64 0,.slice none 0 0,.int .i64 0,.int .i64 0] 118 (0,0))):=Y (by simpa using pT);clear hbT hbU bU  hm hb5 hn k4;replace pU:=Y pU;go_wp2_with fail
 generalize W5.setCell ⟨U+1,4,none⟩ (.int .i64 x4)=W5s at pT pU pB pM  ⊢;clear ct zt bT mm;have hbT:=pT;have hbU:=pU;have hb5:=pB.o;have hm:=pM
 skip
 clear pT pU pB pM;have k5:=Y (zbw R t s5 hs W5s hb5);clear hb5;refine k5.o.mono ?_;rintro e W6 ⟨rfl,hb6,hn⟩;generalize hq5:mI s5=q5 at hb6 ⊢;obtain ⟨x5,s6⟩:=q5;simp only at hb6 ⊢;replace hq5:=Y hq5;have bT:=hn.at hbT.o (by omega);have bU:=hn.at hbU.o (by omega);have mm:=hm.o.trans hn;have ct:=zaa bT 5;have zt:=zad bT;have pT:=zai bT 5 (.int .i64 x5);have pU:=(zan W6 (b:=U+1) (k:=U) 5 (.int .i64 x5) (by omega)).trans bU;have pB:=Y ((hb6.mod (S:=fun k=>k=U+1) ((Mod.refl (fun k=>k=U+1) W6).setCell (a:=⟨U+1,5,none⟩) (fun _=>rfl) (.int .i64 x5)) (by omega)));have pM:=Y (mm.setCell (a:=⟨U+1,5,none⟩) (fun hh=>absurd hh (by show ¬ U+1 < w.heap.size;omega)) (.int .i64 x5));simp at ct;replace bT:=Y bT;replace mm:=Y mm;replace pT:Hid ((W6.setCell ⟨U+1,5,none⟩ (.int .i64 x5)).heap[U+1]?=some (.cells #[.int .i64 x0,.int .i64 x1,.string ⟨x2.toArray⟩,.int .i64 x3,.int .i64 x4,.int .i64 x5,.slice none 0 0,.int .i64 0,.int .i64 0] 118 (0,0))):=Y (by simpa using pT);clear hbT hbU bU  hm hb6 hn k5;replace pU:=Y pU;go_wp2_with fail
 generalize W6.setCell ⟨U+1,5,none⟩ (.int .i64 x5)=W6s at pT pU pB pM  ⊢;clear ct zt bT mm;have hbT:=pT;have hbU:=pU;have hb6:=pB.o;have hm:=pM
 skip
 clear pT pU pB pM;have k6:=Y (zgs 64 ⟨by decide,by decide⟩ R t s6 hs W6s hb6);obtain ⟨M6,hM6⟩:∃ M6,M6=mL 64 mI s6:=⟨_,rfl⟩;obtain ⟨hmc,hc0,hc1⟩:=zpz 64 (by decide) s6;have hT6:=hM6.trans hmc;replace hM6:=Y hM6;clear hb6 hmc;generalize mC 64 s6=qc at k6 hT6 hc0 hc1;obtain ⟨c,sc⟩:=qc;simp only at k6 hT6 hc0 hc1;obtain ⟨n,rfl⟩:∃ n:Nat,c=n:=⟨c.toNat,by omega⟩;rw [Int.toNat_natCast] at hT6;replace hT6:=Y hT6;refine k6.o.mono ?_;rintro e V ⟨rfl,hbV,hn⟩;have bT:=Y (hn.at hbT.o (by omega));have bU:=Y (hn.at hbU.o (by omega));have mm:=Y (hm.o.trans hn);replace hbV:=Y hbV;clear hbT hbU hm hn k6;go_wp2_with fail
 go_loopg [5] n (fun g i wr=>∃ (j:Nat) (x6:List Int) (av:Option Addr) (cv:Nat) (s7:St),j+g=n/\i=.int .i64 j/\wr.heap[U+1]?=some (.cells #[.int .i64 x0,.int .i64 x1,.string ⟨x2.toArray⟩,.int .i64 x3,.int .i64 x4,.int .i64 x5,.slice av x6.length cv,.int .i64 0,.int .i64 0] 118 (0,0))/\wr.heap[U]?=some (.cells #[.int .i64 0,.int .i64 0,.string ⟨#[]⟩,.int .i64 0,.int .i64 0,.int .i64 0,.slice none 0 0,.int .i64 0,.int .i64 0] 118 (0,0))/\Cdk.Own wr w.heap.size 3 1 zcZ (.slice av x6.length cv) x6/\BrQ wr R t s7/\RdM R w wr/\M6=(x6++(mN mI g s7).1,(mN mI g s7).2)/\x6.length=j)
 case atStart=>exact ⟨0,[],none,0,sc,by omega,rfl,bT.o,bU.o,Own.nil _ _ _ _ _,hbV.o,mm.o,by rw [hT6.o];rfl,rfl⟩
 case round=>
 clear hT6 mm hbV bT bU;obtain ⟨j,x6,av,cv,s7,hj,rfl,hbT,hbU,hO,hb7,hm,hTj,hlj⟩:=hrel;have d2:=hb7.err;have hOt:(Value.slice av x6.length cv).ownBlock ≠ some (U+1):=own_ne hO hbT (by decide);have hOu:(Value.slice av x6.length cv).ownBlock ≠ some U:=own_ne hO hbU (by decide);have hOr:(Value.slice av x6.length cv).ownBlock ≠ some R:=fun e=>by have:=(hO.block _ e).1;omega
 have hszr:w.heap.size<=wr.heap.size:=hm.size;rcases (show (j < n/\∃ u,s7=.ok u) \/ ((j < n/\∃ er,s7=.error er) \/ ¬ j < n) by by_cases h:j < n <;> cases s7 <;> simp [h]) with hlt | hlt | hlt
 case' inl=>
  obtain ⟨hlt,u,rfl⟩:=hlt;simp only [stE] at d2;obtain ⟨g,rfl⟩:∃ g,gk=g+1:=⟨gk - 1,by omega⟩;rw [mN] at hTj;have hd:decide ((j:Int) < (n:Int))=true:=decide_eq_true (by omega);have hdi:(j:Int) < (n:Int):=by omega
  have hjw:IntKind.i64.wrap ((j:Int)+1)=(j:Int)+1:=IntWalk.i64_in _ (by omega);have hxd:=Mod.drew0 (fun _=>False) wr;have hC0:=Y (hxd.at hbT id);have hU0:=Y (hxd.at hbU id);have hO0:=Y (hO.ext hxd);have hmd:=Y (hm.trans (RdM.ofExt hxd));have hsz0:w.heap.size<=wr.drew.heap.size:=hmd.o.size;have hel:=zbw R t (.ok u) hs wr.drew (hb7.ext hxd);generalize mI (.ok u)=xs at hel hTj;obtain ⟨x,st2⟩:=xs;simp only at hel hTj;replace hTj:=Y hTj;replace hel:=Y hel;replace hbT:=Y hbT;replace hbU:=Y hbU;replace hO:=Y hO;replace hb7:=Y hb7;replace hm:=Y hm;replace hj:=Y hj;replace hlj:=Y hlj;clear hxd;go_upto_region 12 with (fail)
  refine zbz (fun Wx=>Wx.heap[U+1]?=some (.cells #[.int .i64 x0,.int .i64 x1,.string ⟨x2.toArray⟩,.int .i64 x3,.int .i64 x4,.int .i64 x5,.slice av x6.length cv,.int .i64 0,.int .i64 0] 118 (0,0))) [(0,true),(1,true),(2,true),(3,true),(4,false),(5,false),(6,false),(7,true),(8,true),(9,false)] (by as_aux_lemma=>kernel_rfl) (by as_aux_lemma=>kernel_rfl) (by as_aux_lemma=>kernel_rfl) (by decide) hC0.o ?_;simp only [zah,List.map_cons,List.map_nil,List.getD_cons_zero,List.getD_cons_succ];clear hbT hbU hO hb7 hm d2;generalize wr.drew=W0 at hel hC0 hU0 hO0 hmd hsz0 ⊢;repeat (first | (refine zia (by rfl) (by rfl) ?_ (fun w' hC=>?_) ?_;rotate_left;(have q0:=cS hC 6;go_simp;try with_reducible rfl);try simp only [Act.put,sA,sZ,sS]) | (refine ziJ (by rfl) (by rfl) ?_ (fun w' hC=>?_) ?_;rotate_left;(go_simp;try with_reducible rfl);try simp only [Act.put,sA,sZ,sS]))
  refine zdF (by rfl) (fun K hK=>?_);go_simp;refine hel.o.mono ?_;rintro e W1 ⟨rfl,hb2,hn2⟩;have hC1:=Y (hn2.at hC0.o (by omega));have hU1:=Y (hn2.at hU0.o (by omega));have hO1:=Y (hO0.o.mod hn2 (fun k hk e=>hOr (by rw [hk,e])));have hm1:=Y (hmd.o.trans hn2);have hsz1:w.heap.size<=W1.heap.size:=hm1.o.size;replace hb2:=Y hb2;refine hK.o _ _ hC1.o ?_;clear hK K hel hC0 hU0 hO0 hmd hn2;try simp only [Act.put,sA,sZ,sS]
  refine zdF (by rfl) (fun K hK=>?_);go_simp;have hxA:=Mod.alloc (Mod.refl (fun _=>False) W1) (.cells #[.int .i64 x] 3);refine hK.o _ _ (hxA.at hC1.o id) ?_;clear hK K;try simp only [Act.put,sA,sZ,sS]
  refine zdF (by rfl) (fun K hK=>?_);refine zdU _ _ 24 rfl Tryz.underlying24 elI rfl (hO1.o.ext hxA) _ 1 1 rfl [x] rfl (by exact zaJ.new _ _ _) zbv (fun y hy u hu=>by simp only [List.mem_singleton] at hy;subst hy;simp [zcZ] at hu;subst hu;rfl) (by have:=hlj.o;simp only [List.length_singleton];omega) (by rw [World.size_alloc];omega) (fun e=>nomatch e) (fun v6 w6 H6=>?_);obtain ⟨hO6,hm6⟩:=H6.o;have hmx:Mod (fun k=>(Value.slice av x6.length cv).ownBlock=some k) W1 w6:=(hxA.mono (fun _ h=>h.elim)).trans hm6;have hC6:=hmx.at hC1.o hOt;have hU6:=hmx.at hU1.o hOu;have hb6:=hb2.o.mod hmx hOr;have hm7:=hm1.o.then hmx (fun k hk e=>by have:=(hO1.o.block _ e).1;omega);refine hK.o _ _ hC6 ?_;clear hK K H6 hmx hxA hm6 hb2 hC1 hU1 hm1;obtain ⟨av6,cv6,rfl,-⟩:=hO6.row;have hl6:(x6++[x]).length=x6.length+1:=by simp
  rw [hl6] at hO6 ⊢;have hO6t:(Value.slice av6 (x6.length+1) cv6).ownBlock ≠ some (U+1):=own_ne hO6 hC6 (by decide);try simp only [Act.put,sA,sZ,sS]
  repeat (first | (refine zia (by rfl) (by rfl) ?_ (fun w' hC=>?_) ?_;rotate_left;(go_simp;try with_reducible rfl);try simp only [Act.put,sA,sZ,sS]) | (refine ziJ (by rfl) (by rfl) ?_ (fun w' hC=>?_) ?_;rotate_left;(go_simp;try with_reducible rfl);try simp only [Act.put,sA,sZ,sS]))
  refine zkd (by rfl) (fun K hK=>?_);have z6:=zad hC6;have q6:=cS hC6 6;have pT:=zai hC6 6 (.slice av6 (x6.length+1) cv6);have pU:=(zan w6 (b:=U+1) (k:=U) 6 (.slice av6 (x6.length+1) cv6) (by omega)).trans hU6;have mS:=(Mod.refl (fun k=>k=U+1) w6).setCell (a:=⟨U+1,6,none⟩) (fun _=>rfl) (.slice av6 (x6.length+1) cv6);have pB:=Y (hb6.mod mS (by omega));have pO:=Y (hO6.mod mS (fun k hk e=>hO6t (by rw [hk,e])));have pM:=Y (hm7.setCell (a:=⟨U+1,6,none⟩) (fun hh=>absurd hh (by show ¬ U+1 < w.heap.size;omega)) (.slice av6 (x6.length+1) cv6));replace pT:=Y pT;replace pU:=Y pU;replace hC6:=Y hC6;clear mS hb6 hm7 hU6 hO6;go_simp;refine hK.o _ _ ?_;clear hK K;go_wp2_with fail
  go_roundg g
  case measure=>omega
  case rel=>exact ⟨j+1,x6++[x],av6,cv6,st2,by have:=hj.o;omega,by go_num,by rw [hl6];simpa using pT.o,pU.o,by rw [hl6];exact pO.o,pB.o,pM.o,by rw [hTj.o];simp,by rw [hl6,hlj.o]⟩
 case' inr.inl=>
  obtain ⟨hlt,er,he⟩:=hlt;have hq6:=Y (show mL 64 mI s6=(x6,s7) by rw [<- hM6.o,hTj,he,zh9];simp);have hd:decide ((j:Int) < (n:Int))=true:=decide_eq_true (by omega);have hdi:(j:Int) < (n:Int):=by omega
  have hne:stE s7 ≠ 0:=by rw [he] at hb7 ⊢;exact hb7.ne
  have he1:(stE s7==0)=false:=by rw [beq_eq_false_iff_ne];exact hne
  clear he hTj
 case' inr.inr=>
  obtain rfl:gk=0:=by omega
  obtain rfl:j=n:=by omega
  have hq6:=Y (show mL 64 mI s6=(x6,s7) by rw [<- hM6.o,hTj];simp [mN]);have hdi:¬ (j:Int) < (j:Int):=by omega
  have hd:decide ((j:Int) < (j:Int))=false:=decide_eq_false hdi;clear hTj
 all_goals
  replace hbT:=Y hbT;replace hbU:=Y hbU;replace hO:=Y hO;replace hm:=Y hm;replace hj:=Y hj;replace hlj:=Y hlj;replace hb7:=Y hb7;go_wp2_with fail
  replace hb7:=hb7.o;clear d2;have k7:=Y (zbw R t s7 hs wr hb7);clear hb7;refine k7.o.mono ?_;rintro e W8 ⟨rfl,hb8,hn⟩;generalize hq7:mI s7=q7 at hb8 ⊢;obtain ⟨x7,s8⟩:=q7;simp only at hb8 ⊢;replace hq7:=Y hq7;have bT:=hn.at hbT.o (by omega);have bU:=hn.at hbU.o (by omega);have mm:=hm.o.trans hn;have ct:=zaa bT 7;have zt:=zad bT;have pT:=zai bT 7 (.int .i64 x7);have pU:=(zan W8 (b:=U+1) (k:=U) 7 (.int .i64 x7) (by omega)).trans bU;have pB:=Y ((hb8.mod (S:=fun k=>k=U+1) ((Mod.refl (fun k=>k=U+1) W8).setCell (a:=⟨U+1,7,none⟩) (fun _=>rfl) (.int .i64 x7)) (by omega)));have pM:=Y (mm.setCell (a:=⟨U+1,7,none⟩) (fun hh=>absurd hh (by show ¬ U+1 < w.heap.size;omega)) (.int .i64 x7));have pO:=Y ((hO.o.mod hn (fun k hk e=>by have:=(hO.o.block _ hk).1;omega)).mod (S:=fun k=>k=U+1) ((Mod.refl (fun k=>k=U+1) W8).setCell (a:=⟨U+1,7,none⟩) (fun _=>rfl) (.int .i64 x7)) (fun k hk e=>hOt (by rw [hk,e])));simp at ct;replace bT:=Y bT;replace mm:=Y mm;replace pT:Hid ((W8.setCell ⟨U+1,7,none⟩ (.int .i64 x7)).heap[U+1]?=some (.cells #[.int .i64 x0,.int .i64 x1,.string ⟨x2.toArray⟩,.int .i64 x3,.int .i64 x4,.int .i64 x5,.slice av x6.length cv,.int .i64 x7,.int .i64 0] 118 (0,0))):=Y (by simpa using pT);clear hbT hbU bU hO hm hb8 hn k7;replace pU:=Y pU;go_wp2_with fail
  generalize W8.setCell ⟨U+1,7,none⟩ (.int .i64 x7)=W8s at pT pU pB pM pO ⊢;clear ct zt bT mm;have hbT:=pT;have hbU:=pU;have hb8:=pB.o;have hm:=pM;have hO:=pO;clear pT pU pB pM pO;have k8:=Y (zbw R t s8 hs W8s hb8);clear hb8;refine k8.o.mono ?_;rintro e W9 ⟨rfl,hb9,hn⟩;generalize hq8:mI s8=q8 at hb9 ⊢;obtain ⟨x8,s9⟩:=q8;simp only at hb9 ⊢;replace hq8:=Y hq8;have bT:=hn.at hbT.o (by omega);have bU:=hn.at hbU.o (by omega);have mm:=hm.o.trans hn;have ct:=zaa bT 8;have zt:=zad bT;have pT:=zai bT 8 (.int .i64 x8);have pU:=(zan W9 (b:=U+1) (k:=U) 8 (.int .i64 x8) (by omega)).trans bU;have pB:=Y ((hb9.mod (S:=fun k=>k=U+1) ((Mod.refl (fun k=>k=U+1) W9).setCell (a:=⟨U+1,8,none⟩) (fun _=>rfl) (.int .i64 x8)) (by omega)));have pM:=Y (mm.setCell (a:=⟨U+1,8,none⟩) (fun hh=>absurd hh (by show ¬ U+1 < w.heap.size;omega)) (.int .i64 x8));have pO:=Y ((hO.o.mod hn (fun k hk e=>by have:=(hO.o.block _ hk).1;omega)).mod (S:=fun k=>k=U+1) ((Mod.refl (fun k=>k=U+1) W9).setCell (a:=⟨U+1,8,none⟩) (fun _=>rfl) (.int .i64 x8)) (fun k hk e=>hOt (by rw [hk,e])));simp at ct;replace bT:=Y bT;replace mm:=Y mm;replace pT:Hid ((W9.setCell ⟨U+1,8,none⟩ (.int .i64 x8)).heap[U+1]?=some (.cells #[.int .i64 x0,.int .i64 x1,.string ⟨x2.toArray⟩,.int .i64 x3,.int .i64 x4,.int .i64 x5,.slice av x6.length cv,.int .i64 x7,.int .i64 x8] 118 (0,0))):=Y (by simpa using pT);clear hbT hbU bU hO hm hb9 hn k8;replace pU:=Y pU;go_wp2_with (first | (refine zae (by rfl) 118 _ rfl (U+1) _ _ _ _ rfl pT.o Tryz.underlying118 rfl (by kernel_rfl) ?_) | (refine zab rfl 118 _ _ rfl U _ _ 118 rfl rfl pU.o rfl (by kernel_rfl) rfl (fun WS HS=>?_)))
  refine bodyPost_ret (results_cell_row rfl _ _ U _ _ _ _ rfl HS.o.1 Tryz.underlying118 rfl (by kernel_rfl)) rfl ?_;rw [<- show M=mB st from hM.o];have hMe:M=(⟨x0,x1,x2,x3,x4,⟨x5,x6,x7,x8⟩⟩,s9):=by
   rw [hM.o];simp only [show mI st=(x0,s1) from hq0.o,show mI s1=(x1,s2) from hq1.o,show mS s2=(x2,s3) from hq2.o,show mI s3=(x3,s4) from hq3.o,show mI s4=(x4,s5) from hq4.o,show mI s5=(x5,s6) from hq5.o,show mL 64 mI s6=(x6,s7) from hq6.o,show mI s7=(x7,s8) from hq7.o,show mI s8=(x8,s9) from hq8.o]
  rw [hMe];refine ⟨.slice av x6.length cv,rfl,?_,?_,?_⟩
  ·exact pO.o.mod HS.o.2 (fun k hk e=>own_ne pO.o pU.o (by decide) (by rw [hk,e]))
  ·exact pB.o.mod HS.o.2 (by omega)
  ·exact pM.o.then HS.o.2 (fun k hk e=>by omega)
end Go.Proofs.YtjjfphalcibjfaaGreatDoor
