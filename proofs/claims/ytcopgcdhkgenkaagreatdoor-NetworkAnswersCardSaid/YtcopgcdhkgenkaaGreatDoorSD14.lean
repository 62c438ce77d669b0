import Derived.Test.YtcopgcdhkgenkaaGreatDoorSE0
set_option linter.all false
set_option maxRecDepth 100000
set_option maxHeartbeats 16000000
namespace Scr
open Go
theorem or_add {acc x j:Nat} (h:acc < 2 ^ j):acc ||| (x*2 ^ j)=acc+x*2 ^ j:=by
 have:=Nat.two_pow_add_eq_or_of_lt h x;rw [Nat.mul_comm x,Nat.or_comm,<- this,Nat.add_comm]
theorem acc_next {acc x j:Nat} (h:acc < 2 ^ (7*j)) (hx:x < 128):acc+x*2 ^ (7*j) < 2 ^ (7*(j+1)):=by
 have e:2 ^ (7*(j+1))=128*2 ^ (7*j):=by rw [Nat.mul_add,Nat.pow_add];omega
 have h2:x*2 ^ (7*j)+2 ^ (7*j)<=128*2 ^ (7*j):=by
  have:=Nat.mul_le_mul_right (2 ^ (7*j)) (show x+1<=128 by omega);rw [Nat.add_mul] at this;omega
 omega
theorem getI_end {g j acc:Nat}:getIF (g+1) j acc []=none:=rfl
theorem getI_more {g j acc:Nat} {b:UInt8} {r:Bs} (h:128<=b.toNat):getIF (g+1) j acc (b::r)=getIF g (j+1) (acc+b.toNat % 128*2 ^ (7*j)) r:=by
 rw [getIF,if_pos h]
def valY (z:Nat):Int:=if z % 2=1 then -((z / 2:Nat):Int) - 1 else ((z / 2:Nat):Int)
theorem getI_last {g j acc:Nat} {b:UInt8} {r:Bs} (h:¬ 128<=b.toNat):getIF (g+1) j acc (b::r)=
  if (b.toNat=0/\0 < j) \/ valY (acc+b.toNat*2 ^ (7*j)) < -4611686018427387903 then none else some (valY (acc+b.toNat*2 ^ (7*j)),r):=by
 rw [getIF,if_neg h];rfl
theorem getIF_drop (s:Bs):∀ (g j acc a:Nat) (n:Int) (r:Bs),getIF g j acc (s.drop a)=some (n,r) -> ∃ b,a < b/\b<=s.length/\r=s.drop b
 | 0,_,_,_,_,_,h=>by cases h
 | g+1,j,acc,a,n,r,h=>by
  by_cases ha:a < s.length
  ·rw [List.drop_eq_getElem_cons ha] at h
   by_cases h1:128<=s[a].toNat
   ·rw [getI_more h1] at h
    obtain ⟨b,h2,h3,h4⟩:=getIF_drop s g _ _ (a+1) n r h;exact ⟨b,by omega,h3,h4⟩
   ·rw [getI_last h1] at h
    split at h
    ·cases h
    ·injection h with h
     injection h with _ h
     exact ⟨a+1,by omega,by omega,h.symm⟩
  ·rw [List.drop_eq_nil_of_le (by omega)] at h
   cases h
theorem getI_drop {s:Bs} {a:Nat} {n:Int} {r:Bs} (h:getI (s.drop a)=some (n,r)):∃ b,a < b/\b<=s.length/\r=s.drop b:=getIF_drop s 9 0 0 a n r h
abbrev St:=Except Int Bs
def mR {α:Type} (z:α) (f:Rb α):St -> α × St
 | .error e=>(z,.error e)
 | .ok r=>match f r with
  | .ok x=>(x.1,.ok x.2)
  | .error e=>(z,.error e)
def mI:St -> Int × St:=mR 0 rbI
end Scr
namespace Go.Proofs.YtcopgcdhkgenkaaGreatDoor
open Go.Shelf Go.RowKit Cdk Scr
def intE (t:Bs) (a:Nat) (e:Ending) (G:Option (Int × Bs)):Prop:=match G with
 | none=>e=.returned (.tuple #[.int .i64 0,.int .i64 0,.int .i64 10])
 | some x=>∃ b:Nat,a < b/\b<=t.length/\x.2=t.drop b/\e=.returned (.tuple #[.int .i64 x.1,.int .i64 b,.int .i64 0])
def intR (t:Bs) (a:Nat) (e:Ending):Prop:=intE t a e (getI (t.drop a))
theorem or64 {acc x j:Nat} (hj:j < 9) (h:acc < 2 ^ (7*j)) (hx:x < 128):bits .or .u64 (acc:Int) (IntKind.u64.wrap ((x:Int)*2 ^ (7*j)))=((acc+x*2 ^ (7*j):Nat):Int):=by
 have hn:=acc_next h hx;have h63:2 ^ (7*(j+1))<=2 ^ 63:=Nat.pow_le_pow_right (by decide) (by omega);have e0:((x:Int)*2 ^ (7*j))=((x*2 ^ (7*j):Nat):Int):=by push_cast;rfl
 rw [e0];generalize hy:x*2 ^ (7*j)=y at*;have e1:IntKind.u64.wrap ((y:Nat):Int)=y:=by rw [IntKind.wrap_u64];omega
 rw [e1];have ha:acc % 2 ^ IntKind.u64.bits=acc:=Nat.mod_eq_of_lt (by show acc < 2 ^ 64;omega);have hb:y % 2 ^ IntKind.u64.bits=y:=Nat.mod_eq_of_lt (by show y < 2 ^ 64;omega);have ho:acc ||| y=acc+y:=by rw [<- hy];exact or_add h
 simp only [bits,BitVec.ofInt_natCast,BitVec.toNat_or,BitVec.toNat_ofNat,ha,hb,ho];rw [IntKind.wrap_u64];omega
theorem y_pos {y:Nat} (h:y < 4611686018427387904):wrap64 (y:Int)=y:=IntWalk.wrap64_in _ (by omega)
theorem y_neg {y:Nat} (h:y < 4611686018427387904):wrap64 (-(y:Int))=-(y:Int):=IntWalk.wrap64_in _ (by omega)
theorem y_neg1 {y:Nat} (h:y < 4611686018427387904):wrap64 (-(y:Int) - 1)=-(y:Int) - 1:=IntWalk.wrap64_in _ (by omega)
theorem y_u64 {y:Nat} (h:y < 4611686018427387904):IntKind.u64.wrap (y:Int)=y:=by rw [IntKind.wrap_u64];omega
theorem pow63 {j:Nat} (h:j < 9) {z:Nat} (hz:z < 2 ^ (7*(j+1))):z < 9223372036854775808:=Nat.lt_of_lt_of_le hz (Nat.le_trans (Nat.pow_le_pow_right (by decide) (by omega:7*(j+1)<=63)) (by decide))
theorem valY_odd {z:Nat} (h:z % 2=1):valY z=-((z / 2:Nat):Int) - 1:=by unfold valY;rw [if_pos h]
theorem valY_even {z:Nat} (h:¬ z % 2=1):valY z=((z / 2:Nat):Int):=by unfold valY;rw [if_neg h]
theorem int_any (t:Bs) (a:Nat) (ha:a<=t.length) (hs:t.length<=1000000) (w:World):
  Calls Tryz.prog 50 #[.string ⟨t.toArray⟩,.int .i64 a] w fun e w'=>w=w'/\intR t a e:=by
 have hrest:=fun n r (h:getI (t.drop a)=some (n,r))=>getI_drop h
 obtain ⟨G,hG⟩:∃ G,G=getI (t.drop a):=⟨_,rfl⟩;have hR:Hid (∀ e,intR t a e=intE t a e G):=hid (fun e=>by rw [hG];rfl);obtain ⟨S,hS⟩:∃ S:ByteArray,S=⟨t.toArray⟩:=⟨_,rfl⟩;have hSs:S.size=t.length:=by rw [hS];rfl
 have hSd:S.data.toList=t:=by rw [hS]
 rw [<- hS];have hsl:S.size<=1000000:=by omega
 have haS:a<=S.size:=by omega
 have hG0:Hid (G=getIF 9 0 0 (S.data.toList.drop (a+0))):=hid (by rw [hG,hSd];rfl);have h1:¬ (a:Int) < 0:=by omega
 have h2:¬ (S.size:Int) < (a:Int):=by omega
 replace hS:=hid hS;replace hSd:=hid hSd;replace hSs:=hid hSs;replace hG:=hid hG;replace hrest:=hid hrest;go_enter Tryz.func50,Tryz.ntmps50;go_wp2_with fail
 clear h1 h2;go_loopg [1,7,8] 9 (fun g at' z sh wr=>∃ (j acc aj sj:Nat),j+g=9/\aj=a+j/\sj=7*j/\at'=.int .i64 aj/\z=.int .u64 acc/\sh=.int .i64 sj/\acc < 2 ^ (7*j)/\aj<=S.size/\wr=w/\G=getIF g j acc (S.data.toList.drop aj))
 case atStart=>exact ⟨0,0,a,0,rfl,rfl,rfl,rfl,rfl,rfl,by decide,haS,rfl,hG0.out⟩
 case round=>
  clear hG0 hG;obtain ⟨j,acc,aj,sj,hj,haj,hsj,rfl,rfl,rfl,hacc,hajS,rfl,hGj⟩:=hrel
  by_cases hj9:j < 9
  ·obtain ⟨g,rfl⟩:∃ g,gk=g+1:=⟨gk - 1,by omega⟩
   have hd:decide ((sj:Int) < 63)=true:=decide_eq_true (by omega);have hdi:(sj:Int) < 63:=by omega
   have hsw:IntKind.i64.wrap ((sj:Int)+7)=(sj:Int)+7:=IntWalk.i64_in _ (by omega)
   by_cases hend:aj=S.size
   ·rw [hend,List.drop_eq_nil_of_le (Nat.le_of_eq (size_of S).symm),getI_end] at hGj
    have hei:(aj:Int)=(S.size:Int):=by omega
    have heb:((aj:Int)==(S.size:Int))=true:=by rw [beq_iff_eq];exact hei
    replace hj:=hid hj;replace hacc:=hid hacc;replace hGj:=hid hGj;replace haj:=hid haj;replace hsj:=hid hsj;clear hend;go_wp2_with fail
    go_ret3
    exact ⟨rfl,by rw [hR.out,hGj.out];rfl⟩
   ·have hlt:aj < S.size:=by omega
    have hei:¬ (aj:Int)=(S.size:Int):=by omega
    have heb:((aj:Int)==(S.size:Int))=false:=by rw [beq_eq_false_iff_ne];exact hei
    have hlti:(aj:Int) < (S.size:Int):=by omega
    rw [drop_at S hlt] at hGj;replace hj:=hid hj;replace hacc:=hid hacc;replace hGj:=hid hGj;replace haj:=hid haj;replace hsj:=hid hsj;clear hend;go_upto_region 11 with fail
    generalize S[aj]=Bt at hGj ⊢;have hb256:=Bt.toNat_lt
    by_cases hm:128<=Bt.toNat
    ·have hgm:=getI_more (g:=g) (j:=j) (acc:=acc) (r:=S.data.toList.drop (aj+1)) hm
     have hGn:=hid (hGj.out.trans hgm);have e2:=or64 (x:=Bt.toNat % 128) hj9 hacc.out (Nat.mod_lt _ (by decide));have hnx:=hid (acc_next (x:=Bt.toNat % 128) hacc.out (Nat.mod_lt _ (by decide)));rw [<- hsj.out] at e2;have e4:((Bt.toNat % 128:Nat):Int)=(Bt.toNat:Int) % 128:=by omega
     rw [e4] at e2;obtain ⟨z,hz⟩:∃ z,z=acc+Bt.toNat % 128*2 ^ (7*j):=⟨_,rfl⟩;have hz':acc+Bt.toNat % 128*2 ^ sj=z:=by rw [hz,hsj.out]
     rw [hz'] at e2;rw [<- hz] at hGn hnx;have hmi:(128:Int)<=(Bt.toNat:Int):=by omega
     have hmd:decide ((128:Int)<=(Bt.toNat:Int))=true:=decide_eq_true hmi;have hmn:¬ (Bt.toNat:Int) < 128:=by omega
     clear hGj hgm hz hz' e4 hm;generalize Bt.toNat=bt at*;go_wp2_with fail
     go_roundg g
     case measure=>omega
     case rel=>exact ⟨j+1,z,aj+1,sj+7,by have:=hj.out;omega,by have:=haj.out;omega,by have:=hsj.out;omega,by go_num,rfl,by go_num,hnx.out,by omega,rfl,hGn.out⟩
    ·have hgm:=getI_last (g:=g) (j:=j) (acc:=acc) (r:=S.data.toList.drop (aj+1)) hm
     have hGn:=hGj.out.trans hgm;have e2:=or64 (x:=Bt.toNat) hj9 hacc.out (by omega);have hnx:=acc_next (x:=Bt.toNat) hacc.out (by omega);rw [<- hsj.out] at e2;have e4:(Bt.toNat:Int) % 128=(Bt.toNat:Int):=by omega
     obtain ⟨z,hz⟩:∃ z,z=acc+Bt.toNat*2 ^ (7*j):=⟨_,rfl⟩;have hz':acc+Bt.toNat*2 ^ sj=z:=by rw [hz,hsj.out]
     rw [hz'] at e2;rw [<- hz] at hGn hnx;have hzl:=pow63 hj9 hnx;have hmi:¬ (128:Int)<=(Bt.toNat:Int):=by omega
     have hmd:decide ((128:Int)<=(Bt.toNat:Int))=false:=decide_eq_false hmi;have hmn:(Bt.toNat:Int) < 128:=by omega
     clear hGj hgm hz hz' hm hnx;generalize Bt.toNat=bt at*;obtain ⟨n,hn⟩:∃ n,n=valY z:=⟨_,rfl⟩;rw [<- hn] at hGn;obtain ⟨y,hy⟩:∃ y,y=z / 2:=⟨_,rfl⟩;have hyl:y < 4611686018427387904:=by omega
     have f1:(z:Int).tdiv 2=(y:Int):=by rw [Int.tdiv_eq_ediv_of_nonneg (by omega)];omega
     have f2:=y_u64 hyl;replace hn:=hid hn;replace hy:=hid hy;have f5:=y_neg hyl
     by_cases ho:z % 2=1
     ·have hnn:n=-(y:Int) - 1:=by rw [hn.out,valY_odd ho,hy.out]
      have f3:=y_pos hyl;have f6:wrap64 (-(y:Int) - 1)=n:=by rw [hnn];exact y_neg1 hyl
      have f4:(z:Int).tmod 2=1:=by rw [Int.tmod_eq_emod_of_nonneg (by omega)];omega
      replace hnn:=hid hnn;replace ho:=hid ho;clear hyl hzl
      by_cases hb0:bt=0
      ·have h4:((bt:Int)==0)=true:=by rw [beq_iff_eq];omega
       have h4i:(bt:Int)=0:=by omega
       by_cases hj0:0 < j
       ·have h3:(0:Int) < (sj:Int):=by have:=hsj.out;omega
        have h5:0 < sj:=by omega
        rw [if_pos (.inl ⟨hb0,hj0⟩)] at hGn;replace hGn:=hid hGn;replace hb0:=hid hb0;replace hj0:=hid hj0;clear h4i;go_wp2_with fail
        go_ret3
        exact ⟨rfl,by rw [hR.out,hGn.out];rfl⟩
       ·have h3:¬ (0:Int) < (sj:Int):=by have:=hsj.out;omega
        have h5:¬ 0 < sj:=by omega
        by_cases hlow:n < -4611686018427387903
        ·rw [if_pos (.inr hlow)] at hGn
         replace hGn:=hid hGn;replace hb0:=hid hb0;replace hj0:=hid hj0;clear h4i;go_wp2_with fail
         go_ret3
         exact ⟨rfl,by rw [hR.out,hGn.out];rfl⟩
        ·rw [if_neg (fun hh=>hh.elim (fun q=>hj0 q.2) hlow)] at hGn
         replace hGn:=hid hGn;replace hb0:=hid hb0;replace hj0:=hid hj0;clear h4i;go_wp2_with fail
         go_ret3
         exact ⟨rfl,by rw [hR.out,hGn.out];exact ⟨aj+1,by have:=haj.out;omega,by have:=hSs.out;omega,by rw [hSd.out],by first | rfl | (go_num)⟩⟩
      ·have h4:((bt:Int)==0)=false:=by rw [beq_eq_false_iff_ne];omega
       have h4i:¬ (bt:Int)=0:=by omega
       by_cases hlow:n < -4611686018427387903
       ·rw [if_pos (.inr hlow)] at hGn
        replace hGn:=hid hGn;replace hb0:=hid hb0;go_wp2_with fail
        go_ret3
        exact ⟨rfl,by rw [hR.out,hGn.out];rfl⟩
       ·rw [if_neg (fun hh=>hh.elim (fun q=>hb0 q.1) hlow)] at hGn
        replace hGn:=hid hGn;replace hb0:=hid hb0;go_wp2_with fail
        go_ret3
        exact ⟨rfl,by rw [hR.out,hGn.out];exact ⟨aj+1,by have:=haj.out;omega,by have:=hSs.out;omega,by rw [hSd.out],by first | rfl | (go_num)⟩⟩
     ·have hnn:n=(y:Int):=by rw [hn.out,valY_even ho,hy.out]
      have f3:wrap64 (y:Int)=n:=by rw [hnn];exact y_pos hyl
      have f4:(z:Int).tmod 2=0:=by rw [Int.tmod_eq_emod_of_nonneg (by omega)];omega
      replace hnn:=hid hnn;replace ho:=hid ho;clear hyl hzl f5
      by_cases hb0:bt=0
      ·have h4:((bt:Int)==0)=true:=by rw [beq_iff_eq];omega
       have h4i:(bt:Int)=0:=by omega
       by_cases hj0:0 < j
       ·have h3:(0:Int) < (sj:Int):=by have:=hsj.out;omega
        have h5:0 < sj:=by omega
        rw [if_pos (.inl ⟨hb0,hj0⟩)] at hGn;replace hGn:=hid hGn;replace hb0:=hid hb0;replace hj0:=hid hj0;clear h4i;go_wp2_with fail
        go_ret3
        exact ⟨rfl,by rw [hR.out,hGn.out];rfl⟩
       ·have h3:¬ (0:Int) < (sj:Int):=by have:=hsj.out;omega
        have h5:¬ 0 < sj:=by omega
        by_cases hlow:n < -4611686018427387903
        ·rw [if_pos (.inr hlow)] at hGn
         replace hGn:=hid hGn;replace hb0:=hid hb0;replace hj0:=hid hj0;clear h4i;go_wp2_with fail
         go_ret3
         exact ⟨rfl,by rw [hR.out,hGn.out];rfl⟩
        ·rw [if_neg (fun hh=>hh.elim (fun q=>hj0 q.2) hlow)] at hGn
         replace hGn:=hid hGn;replace hb0:=hid hb0;replace hj0:=hid hj0;clear h4i;go_wp2_with fail
         go_ret3
         exact ⟨rfl,by rw [hR.out,hGn.out];exact ⟨aj+1,by have:=haj.out;omega,by have:=hSs.out;omega,by rw [hSd.out],by first | rfl | (go_num)⟩⟩
      ·have h4:((bt:Int)==0)=false:=by rw [beq_eq_false_iff_ne];omega
       have h4i:¬ (bt:Int)=0:=by omega
       by_cases hlow:n < -4611686018427387903
       ·rw [if_pos (.inr hlow)] at hGn
        replace hGn:=hid hGn;replace hb0:=hid hb0;go_wp2_with fail
        go_ret3
        exact ⟨rfl,by rw [hR.out,hGn.out];rfl⟩
       ·rw [if_neg (fun hh=>hh.elim (fun q=>hb0 q.1) hlow)] at hGn
        replace hGn:=hid hGn;replace hb0:=hid hb0;go_wp2_with fail
        go_ret3
        exact ⟨rfl,by rw [hR.out,hGn.out];exact ⟨aj+1,by have:=haj.out;omega,by have:=hSs.out;omega,by rw [hSd.out],by first | rfl | (go_num)⟩⟩
  ·obtain rfl:gk=0:=by omega
   have hd:decide ((sj:Int) < 63)=false:=decide_eq_false (by omega);have hdi:¬ (sj:Int) < 63:=by omega
   replace hGj:=hid (show G=none from hGj);replace hsj:=hid hsj;go_wp2_with fail
   go_ret3
   exact ⟨rfl,by rw [hR.out,hGj.out];rfl⟩
def strE (t:Bs) (a:Nat) (e:Ending) (G:Option (Bs × Bs)):Prop:=match G with
 | none=>e=.returned (.tuple #[.string ⟨#[]⟩,.int .i64 0,.int .i64 10])
 | some x=>∃ b:Nat,a < b/\b<=t.length/\x.2=t.drop b/\e=.returned (.tuple #[.string ⟨x.1.toArray⟩,.int .i64 b,.int .i64 0])
def strR (t:Bs) (a:Nat) (e:Ending):Prop:=strE t a e (getS (t.drop a))
theorem ext_bs' (s:Bs) (a b:Nat):(⟨s.toArray⟩:ByteArray).extract a b=⟨((s.take b).drop a).toArray⟩:=by
 apply ByteArray.ext;rw [ByteArray.data_extract];apply Array.ext';simp [List.extract_eq_take_drop,List.drop_take]
theorem string_any (t:Bs) (a:Nat) (ha:a<=t.length) (hs:t.length<=1000000) (w:World):
  Calls Tryz.prog 52 #[.string ⟨t.toArray⟩,.int .i64 a] w fun e w'=>w=w'/\strR t a e:=by
 have h1:=hid (int_any t a ha hs w);obtain ⟨G,hG⟩:∃ G,G=getS (t.drop a):=⟨_,rfl⟩;have hR:Hid (∀ e,strR t a e=strE t a e G):=hid (fun e=>by rw [hG];rfl);obtain ⟨S,hS⟩:∃ S:ByteArray,S=⟨t.toArray⟩:=⟨_,rfl⟩;have hSs:S.size=t.length:=by rw [hS];rfl
 rw [<- hS] at h1 ⊢;have hsl:S.size<=1000000:=by omega
 have hex:Hid (∀ b k:Nat,S.extract b (b+k)=⟨((t.drop b).take k).toArray⟩):=hid (fun b k=>by rw [hS,ext_bs',<- List.take_drop]);replace hS:=hid hS;replace hSs:=hid hSs;go_enter Tryz.func52,Tryz.ntmps52;go_wp2_with fail
 refine h1.out.mono ?_;rintro e w1 ⟨rfl,hi⟩;unfold intR intE at hi;unfold getS at hG;clear h1;cases hg:getI (t.drop a) with
 | none=>
  rw [hg] at hi hG;simp only at hi hG;subst hi;replace hG:=hid hG;go_wp2_with fail
  go_ret3
  exact ⟨rfl,by rw [hR.out,hG.out];rfl⟩
 | some x=>
  obtain ⟨n,r⟩:=x;rw [hg] at hi hG;simp only at hi hG;obtain ⟨b,hab,hbl,hrb,rfl⟩:=hi;have hrl:(r.length:Int)=(S.size:Int) - (b:Int):=by rw [hrb,List.length_drop];have:=hSs.out;omega
  rw [hrl] at hG;have hbS:b<=S.size:=by have:=hSs.out;omega
  replace hrl:=hid hrl;replace hrb:=hid hrb;replace hbl:=hid hbl;replace hg:=hid hg
  by_cases h1:n < 0
  ·rw [if_pos (.inl h1)] at hG
   replace hG:=hid hG;go_wp2_with fail
   go_ret3
   exact ⟨rfl,by rw [hR.out,hG.out];rfl⟩
  by_cases h2:65536 < n
  ·rw [if_pos (.inr (.inl h2))] at hG
   replace hG:=hid hG;go_wp2_with fail
   go_ret3
   exact ⟨rfl,by rw [hR.out,hG.out];rfl⟩
  have hsw:IntKind.i64.wrap ((S.size:Int) - (b:Int))=(S.size:Int) - (b:Int):=IntWalk.i64_in _ (by omega)
  by_cases h3:(S.size:Int) - (b:Int) < n
  ·rw [if_pos (.inr (.inr h3))] at hG
   replace hG:=hid hG;go_wp2_with fail
   go_ret3
   exact ⟨rfl,by rw [hR.out,hG.out];rfl⟩
  rw [if_neg (by rintro (h | h | h);exact h1 h;exact h2 h;exact h3 h)] at hG;obtain ⟨k,rfl⟩:∃ k:Nat,n=k:=⟨n.toNat,by omega⟩;have hk:b+k<=S.size:=by omega
  have hki:(b:Int)+(k:Int)<=(S.size:Int):=by omega
  have hkl:(b:Int)<=(b:Int)+(k:Int):=by omega
  have haw:IntKind.i64.wrap ((b:Int)+(k:Int))=(b:Int)+(k:Int):=IntWalk.i64_in _ (by omega);have hx:=hex.out b k;replace hG:=hid hG;go_wp2_with fail
  go_ret3
  refine ⟨rfl,?_⟩;rw [hR.out,hG.out];refine ⟨b+k,by omega,by have:=hSs.out;omega,?_,?_⟩
  ·show r.drop (k:Int).toNat=t.drop (b+k)
   rw [hrb.out,List.drop_drop,Int.toNat_natCast]
  ·show Ending.returned (.tuple #[.string (S.extract b (b+k)),.int .i64 ((b:Int)+(k:Int)),.int .i64 0])=.returned (.tuple #[.string ⟨(r.take (k:Int).toNat).toArray⟩,.int .i64 ((b+k:Nat):Int),.int .i64 0])
   rw [hx,hrb.out,Int.toNat_natCast]
   rfl
def flE (c:Int):PanicEntry:={ v:=flV c,recovered:=false }
theorem check_ok (w:World):Calls Tryz.prog 51 #[.int .i64 0] w fun e w'=>e=.returned (.tuple #[])/\w=w':=by
 go_enter Tryz.func51,Tryz.ntmps51;go_wp2_with fail
 go_end0
 exact ⟨rfl,rfl⟩
theorem check_bad (c:Int) (hc:c ≠ 0) (w:World):Calls Tryz.prog 51 #[.int .i64 c] w fun e w'=>e=.panicked [flE 10]/\w=w':=by
 have h1:(c !=0)=true:=by rw [bne_iff_ne];exact hc
 have h2:(c==0)=false:=by rw [beq_eq_false_iff_ne];exact hc
 unfold flE flV;go_enter Tryz.func51,Tryz.ntmps51;go_wp2_with fail
 exact ⟨rfl,rfl,rfl⟩
theorem mcatch_idle (p q:Nat) (w:World):
  CallsD Tryz.prog 48 #[.pointer (some ⟨p,0,none⟩),.pointer (some ⟨q,0,none⟩)] .returning w fun e u' w'=>e=.returned (.tuple #[])/\u'=.returning/\w'=w:=by
 refine callsD_of_wpS Tryz.func48 rfl fun c₀ cs hu=>?_
 apply wpS_seq;apply wpS_region;simp [wpOpsS,go_sem,recoverD,hu,Tryz.ntmps48,Exit.thenS];refine wpS_of_wp ?_;simp only [Array.replicate_succ,Array.replicate_zero,List.push_toArray,List.setIfInBounds_toArray,List.set_cons_zero,List.set_cons_succ,List.append_toArray,List.nil_append,List.cons_append];go_wp2_with fail
 cases c₀
 simp_all [bodyPostS,results,Tryz.results48]
theorem mcatch_panicking (p q:Nat) (V:Array Value) (y:Value) (c:Int) (older:List PanicEntry) (w:World) (hp:w.heap[p]?=some (.cells V 45 (0,0))) (hV:V.size=7) (hq:w.heap[q]?=some (.cells #[y] 26 (0,0))) (hpq:p ≠ q)
  (hg:∀ W,Mod (fun k=>k=p \/ k=q) w W -> W.cell? ⟨1,0,none⟩=some (.iface 288 (.agg #[.pointer (some ⟨12,101,none⟩)]))) (hsz:12<=w.heap.size):
  CallsD Tryz.prog 48 #[.pointer (some ⟨p,0,none⟩),.pointer (some ⟨q,0,none⟩)] (.panicking (flE c::older)) w fun e u' w'=>
   e=.returned (.tuple #[])/\u'=.panicking ({ v:=flV c,recovered:=true }::older)/\w'.heap[p]?=some (.cells #[.int .i64 0,.int .i64 0,.int .i64 0,.int .i64 0,.int .i64 0,.int .i64 0,.string ⟨#[]⟩] 45 (0,0))/\w'.heap[q]?=some (.cells #[.int .i64 c] 26 (0,0))/\Mod (fun k=>k=p \/ k=q) w w':=by
 have hta:∀ (w:World),(Instr.typeAssert (.iface 99 (.agg #[.int .i64 c])) 20 101 true).run Tryz.prog w=.ok (.tuple #[.iface 99 (.agg #[.int .i64 c]),.bool true]) w:=fun _=>by kernel_rfl
 have hplt:=lt_of_at hp;have hqlt:=lt_of_at hq;replace hg:=hid hg;replace hp:=hid hp;replace hq:=hid hq;replace hV:=hid hV;unfold flE flV;refine callsD_of_wpS Tryz.func48 rfl fun c₀ cs hu=>?_
 apply wpS_seq;apply wpS_region;simp [wpOpsS,go_sem,recoverD,hu,Tryz.ntmps48,Exit.thenS];refine wpS_of_wp ?_;simp only [Array.replicate_succ,Array.replicate_zero,List.push_toArray,List.setIfInBounds_toArray,List.set_cons_zero,List.set_cons_succ,List.append_toArray,List.nil_append,List.cons_append];obtain ⟨VZ,hVZ⟩:∃ VZ:Array Value,VZ=#[.int .i64 0,.int .i64 0,.int .i64 0,.int .i64 0,.int .i64 0,.int .i64 0,.string ⟨#[]⟩]:=⟨_,rfl⟩;have hZs:Hid (VZ.size=V.size):=hid (by rw [hV.out,hVZ];rfl);have hZi:Hid ((Tryz.prog.info? 45).map (·.size)=some VZ.size):=hid (by rw [hVZ];kernel_rfl);have hZ1:Hid (VZ.toList.all (·.oneCell')=true):=hid (by rw [hVZ];rfl);rw [<- hVZ];replace hVZ:=hid hVZ;go_upto_region 2 with fail
 go_wp2_with (refine wpList_storeW rfl 45 _ _ rfl p V VZ 45 rfl (by rw [hVZ.out];rfl) hp.out hZs.out hZi.out hZ1.out (fun WS HS=>Hid.out ?_))
 obtain ⟨hp1,hm1⟩:=HS.out;have hq1:=hm1.at hq.out (by omega);have cq:=cell_of' hq1 0;have zq:=free_of' hq1;simp at cq;have hq2:=put1 (v:=.int .i64 200) hq1;have hp2:=(put_ne WS (b:=q) (k:=p) 0 (.int .i64 200) hpq).trans hp1;have hm2:Mod (fun k=>k=p \/ k=q) w (WS.setCell ⟨q,0,none⟩ (.int .i64 200)):=(hm1.mono (fun k hk=>.inl hk.symm)).setCell (a:=⟨q,0,none⟩) (fun _=>.inr rfl) (.int .i64 200);replace hp1:=hid hp1;replace hm1:=hid hm1;replace hq1:=hid hq1;replace hq2:=hid hq2;replace hp2:=hid hp2;replace hm2:=hid hm2;clear HS;refine hid ?_;go_upto_region 3 with fail
 clear cq zq;generalize WS.setCell ⟨q,0,none⟩ (.int .i64 200)=W2 at hq2 hp2 hm2 ⊢;have hsz2:w.heap.size<=W2.heap.size:=hm2.out.size;have hx3:=Mod.alloc (Mod.refl (fun _=>False) W2) (.cells #[.int .i64 0] 99);have hf3:=heap_alloc_new W2 (.cells #[.int .i64 0] 99);have hg3:=(hx3.cell (hg.out W2 hm2.out) (fun h=>h));have hf3z:=cell_of' hf3 0;have hf3f:=free_of' hf3 0;have hs3:(W2.alloc (.cells #[.int .i64 0] 99)).heap.size=W2.heap.size+1:=World.size_alloc _ _;have hah:=hid (as_hit c ⟨W2.heap.size,0,none⟩ (.int .i64 0) (W2.alloc (.cells #[.int .i64 0] 99)) hg3 hf3z hf3f (by omega));replace hx3:=hid hx3;replace hf3:=hid hf3;replace hg3:=hid hg3;replace hs3:=hid hs3;clear hf3z hf3f;go_wp2_with fail
 refine hah.out.mono ?_;rintro e w4 ⟨rfl,W,hxW,rfl⟩;have hf4:=put1 (v:=.int .i64 c) (hxW.at hf3.out (fun h=>h));have hq4:=(put_ne W (b:=W2.heap.size) (k:=q) 0 (.int .i64 c) (by omega)).trans (hxW.at (hx3.out.at hq2.out (fun h=>h)) (fun h=>h));have hp4:=(put_ne W (b:=W2.heap.size) (k:=p) 0 (.int .i64 c) (by omega)).trans (hxW.at (hx3.out.at hp2.out (fun h=>h)) (fun h=>h));have hm4:Mod (fun k=>k=p \/ k=q) w (W.setCell ⟨W2.heap.size,0,none⟩ (.int .i64 c)):=((hm2.out.trans (hx3.out.mono (fun _ h=>h.elim))).trans (hxW.mono (fun _ h=>h.elim))).setCell (a:=⟨W2.heap.size,0,none⟩) (fun h=>absurd h (by show ¬ W2.heap.size < w.heap.size;omega)) (.int .i64 c);generalize (W.setCell ⟨W2.heap.size,0,none⟩ (.int .i64 c))=w5 at hf4 hq4 hp4 hm4 ⊢;have cf:=cell_of' hf4 0;have cq:=cell_of' hq4 0;have zq:=free_of' hq4;simp at cf cq;have hq5:=put1 (v:=.int .i64 c) hq4;have hp5:=(put_ne w5 (b:=q) (k:=p) 0 (.int .i64 c) hpq).trans hp4;have hm5:Mod (fun k=>k=p \/ k=q) w (w5.setCell ⟨q,0,none⟩ (.int .i64 c)):=hm4.setCell (a:=⟨q,0,none⟩) (fun _=>.inr rfl) (.int .i64 c);replace hf4:=hid hf4;replace hq4:=hid hq4;replace hp4:=hid hp4;replace hm4:=hid hm4;replace hq5:=hid hq5;replace hp5:=hid hp5;replace hm5:=hid hm5;clear hah hxW;go_wp2_with fail
 simp [bodyPostS,results,Tryz.results48];exact ⟨hp5.out,hq5.out,hm5.out⟩
end Go.Proofs.YtcopgcdhkgenkaaGreatDoor
namespace Scr
def mkM (fs:List Int) (da:Bs):Ms:=match fs with
 | [a,b,c,d,e,f]=>⟨a,b,c,d,e,f,da⟩
 | _=>Ms.zero
def decT:Nat -> List Int -> Bs -> Except Int Ms
 | 0,fs,r=>match getS r with
  | none=>.error 10
  | some x=>if !x.2.isEmpty then .error 10 else if vMs (mkM fs x.1) then .ok (mkM fs x.1) else .error 200
 | k+1,fs,r=>match getI r with
  | none=>.error 10
  | some x=>decT k (fs++[x.1]) x.2
theorem bindI {α:Type} (r:Bs) (g:Int × Bs -> Except Int α):(rbI r >>=g)=match getI r with | none=>.error 10 | some x=>g x:=by
 unfold rbI;cases getI r <;> rfl
theorem bindS {α:Type} (r:Bs) (g:Bs × Bs -> Except Int α):(rbS r >>=g)=match getS r with | none=>.error 10 | some x=>g x:=by
 unfold rbS;cases getS r <;> rfl
theorem decM_T (s:Bs):decM s=match getI s with
  | none=>.error 10
  | some x=>if x.1 ≠ crc x.2 then .error 200 else decT 6 [] x.2:=by
 unfold decM;rw [bindI];cases getI s with
 | none=>rfl
 | some x=>
  obtain ⟨sum,r⟩:=x;simp only
  by_cases h:sum ≠ crc r
  ·rw [if_pos h,if_pos h];rfl
  ·rw [if_neg h,if_neg h]
   simp only [bindI,bindS];unfold decT;cases getI r with
   | none=>rfl
   | some x1=>
    simp only;unfold decT;cases getI x1.2 with
    | none=>rfl
    | some x2=>
     simp only;unfold decT;cases getI x2.2 with
     | none=>rfl
     | some x3=>
      simp only;unfold decT;cases getI x3.2 with
      | none=>rfl
      | some x4=>
       simp only;unfold decT;cases getI x4.2 with
       | none=>rfl
       | some x5=>
        simp only;unfold decT;cases getI x5.2 with
        | none=>rfl
        | some x6=>
         simp only;unfold decT;cases getS x6.2 with
         | none=>rfl
         | some x7=>
          simp only;cases hE:x7.2.isEmpty with
          | true=>rfl
          | false=>rfl
end Scr
namespace Go.Proofs.YtcopgcdhkgenkaaGreatDoor
open Go.Shelf Go.RowKit Cdk Scr
def MsE (e:Ending) (D:Except Int Ms):Prop:=match D with
 | .ok m=>e=.returned (.tuple #[.agg #[.int .i64 m.kd,.int .i64 m.pa,.int .i64 m.sq,.int .i64 m.st,.int .i64 m.ba,.int .i64 m.ve,.string ⟨m.da.toArray⟩],.int .i64 0])
 | .error c=>c ≠ 0/\e=.returned (.tuple #[.agg #[.int .i64 0,.int .i64 0,.int .i64 0,.int .i64 0,.int .i64 0,.int .i64 0,.string ⟨#[]⟩],.int .i64 c])
def MsP (w:World) (s:Bs) (e:Ending) (w':World):Prop:=Ext w w'/\MsE e (decM s)
theorem results_row_cell {P:Program} {fn:Func} {p q:Tmp} {ty tq:TypeId} {dq:TypeDesc} (h:fn.results=#[.cell p ty,.cell q tq]) (tmps:Array Value) (w:World) (g:Nat) (b:Addr) (t:TypeId) (cs:Array Value) (fr:Nat × Nat) (d:TypeDesc) {vb:Value}
  (hp:tmps.getD p undef=.pointer (some ⟨g,0,none⟩)) (hq:tmps.getD q undef=.pointer (some b)) (hg:w.heap[g]?=some (.cells cs t fr))
  (hu:P.underlying ty=some d) (hd:(match d with | .struct _ | .array _ _=>true | _=>false)=true) (hi:(P.info? ty).map (·.size)=some cs.size)
  (uq:P.underlying tq=some dq) (kq:(match dq with | .struct _ | .array _ _=>true | _=>false)=false) (hb:w.cell? b=some vb):
  (results fn tmps).run P w=.ok (.tuple #[.agg cs,vb]) w:=by
 have hp':tmps[p]?.getD undef=.pointer (some ⟨g,0,none⟩):=by simpa using hp
 have hq':tmps[q]?.getD undef=.pointer (some b):=by simpa using hq
 have hl:(loadVar tq b).run P w=.ok vb w:=by
  have:(isAgg tq).run P w=.ok false w:=by
   simp only [isAgg,Sem.run_bind,run_underlying uq,Result.andThen_ok];cases dq <;> simp_all
  simp only [loadVar,Sem.run_bind,this,Result.andThen_ok];simp [load,Sem.run,hb]
 simp [results,h,hp',hq',asAddr,run_loadVar_row w g t ty cs fr d hg hu hd hi,hl,Result.andThen]
theorem set_mid:∀ (l r:List Value) (z v:Value),(l++z::r).set l.length v=l++v::r
 | [],r,z,v=>rfl
 | x::l,r,z,v=>by simp [set_mid l r z v]
def fA (fs:List Int) (g:Nat):Array Value:=(fs.map (fun n=>Value.int .i64 n)++List.replicate g (Value.int .i64 0)).toArray
theorem fA_get (fs:List Int) (g:Nat):(fA fs (g+1))[fs.length]?=some (.int .i64 0):=by
 unfold fA;simp [List.getElem?_append_right,List.replicate_succ]
theorem fA_set (fs:List Int) (g:Nat) (x:Int):(fA fs (g+1)).setIfInBounds fs.length (.int .i64 x)=fA (fs++[x]) g:=by
 unfold fA;rw [List.setIfInBounds_toArray,List.replicate_succ];have:=set_mid (fs.map (fun n=>Value.int .i64 n)) (List.replicate g (Value.int .i64 0)) (.int .i64 0) (.int .i64 x);rw [List.length_map] at this;rw [this];simp
theorem msgDecode_any (s:Bs) (hs:s.length<=1000000) (w:World) (hG:Gl w):Calls Tryz.prog 26 #[.string ⟨s.toArray⟩] w (MsP w s):=by
 have hmf:∀ (fn:Fn) (first cap:Array Value) (w:World),(Instr.makeFunc fn first cap).run Tryz.prog w=.ok (.func fn first cap) w:=fun _ _ _ _=>rfl
 obtain ⟨U,hU⟩:∃ U,U=w.heap.size:=⟨_,rfl⟩;have hwU:w.heap.size<=U:=Nat.le_of_eq hU.symm;have hU10:12<=U:=by have:=hG.size;omega
 have hx0:=((Mod.refl (fun k=>U<=k) w).alloc (.cells #[.int .i64 0,.int .i64 0,.int .i64 0,.int .i64 0,.int .i64 0,.int .i64 0,.string ⟨#[]⟩] 45)).alloc (.cells #[.int .i64 0] 26);have hUc:((w.alloc (.cells #[.int .i64 0,.int .i64 0,.int .i64 0,.int .i64 0,.int .i64 0,.int .i64 0,.string ⟨#[]⟩] 45)).alloc (.cells #[.int .i64 0] 26)).heap[U]?=some (.cells #[.int .i64 0,.int .i64 0,.int .i64 0,.int .i64 0,.int .i64 0,.int .i64 0,.string ⟨#[]⟩] 45 (0,0)):=by rw [alloc_get,World.size_alloc,hU,if_neg (by omega)];exact heap_alloc_new w _
 have hCc:((w.alloc (.cells #[.int .i64 0,.int .i64 0,.int .i64 0,.int .i64 0,.int .i64 0,.int .i64 0,.string ⟨#[]⟩] 45)).alloc (.cells #[.int .i64 0] 26)).heap[U+1]?=some (.cells #[.int .i64 0] 26 (0,0)):=by rw [hU];have:=heap_alloc_new (w.alloc (.cells #[.int .i64 0,.int .i64 0,.int .i64 0,.int .i64 0,.int .i64 0,.int .i64 0,.string ⟨#[]⟩] 45)) (.cells #[.int .i64 0] 26);rwa [World.size_alloc] at this
 have hG0:=hG.mod hx0 (fun k hk=>by omega);obtain ⟨D,hD⟩:∃ D,D=decM s:=⟨_,rfl⟩;have hMs:Hid (∀ e w',MsP w s e w'=(Ext w w'/\MsE e D)):=hid (fun e w'=>by rw [hD];rfl);rw [decM_T] at hD;have hi0:=hid (int_any s 0 (Nat.zero_le _) hs ((w.alloc (.cells #[.int .i64 0,.int .i64 0,.int .i64 0,.int .i64 0,.int .i64 0,.int .i64 0,.string ⟨#[]⟩] 45)).alloc (.cells #[.int .i64 0] 26)));replace hUc:=hid hUc;replace hCc:=hid hCc;replace hx0:=hid hx0;replace hG0:=hid hG0;replace hD:=hid hD;have hss:Hid ((⟨s.toArray⟩:ByteArray).size=s.length):=hid rfl;clear hG
 go_enter_defers Tryz.func26,Tryz.ntmps26
 go_wp2_with fail
 try simp only [World.size_alloc]
 rw [<- hU];generalize ((w.alloc (.cells #[.int .i64 0,.int .i64 0,.int .i64 0,.int .i64 0,.int .i64 0,.int .i64 0,.string ⟨#[]⟩] 45)).alloc (.cells #[.int .i64 0] 26))=w0 at hUc hCc hx0 hG0 hi0 ⊢;replace hU:=hid hU;refine hi0.out.mono ?_;rintro e w1 ⟨rfl,hi⟩;unfold intR intE at hi;rw [List.drop_zero] at hi;clear hi0;cases hg:getI s with
 | none=>
  rw [hg] at hi;simp only at hi;subst hi;have hDz:=hid (show D=.error 10 by rw [hD.out,hg]);have cz:=cell_of' hCc.out 0;have zz:=free_of' hCc.out;simp at cz;have C_:=hid (put1 (v:=.int .i64 10) hCc.out);have U_:=hid ((put_ne w0 (b:=U+1) (k:=U) 0 (.int .i64 10) (by omega)).trans hUc.out);have M_:=hid (hx0.out.setCell (a:=⟨U+1,0,none⟩) (fun _=>by show U<=U+1;omega) (.int .i64 10));have G_:=hid (hG0.out.mod ((Mod.refl (fun k=>k=U+1) w0).setCell (a:=⟨U+1,0,none⟩) (fun _=>rfl) (.int .i64 10)) (fun k hk=>by omega));replace hg:=hid hg;go_wp2_with fail
  clear cz zz;generalize w0.setCell ⟨U+1,0,none⟩ (.int .i64 10)=w1 at C_ U_ M_ G_ ⊢;refine (check_bad 10 (by decide) w1).mono ?_;rintro e w2 ⟨rfl,rfl⟩;go_wp2_with fail
  refine leaves_cons (f:=48) (args:=#[.pointer (some ⟨U,0,none⟩),.pointer (some ⟨U+1,0,none⟩)]) (by simp) (by simp [go_sem]) ?_;refine (mcatch_panicking U (U+1) _ _ 10 [] w1 U_.out rfl C_.out (by omega) (fun W' hm'=>(G_.out.mod hm' (fun k hk=>by omega)).et) (by have:=G_.out.size;omega)).mono ?_;rintro e u' w'' ⟨rfl,rfl,hp9,hq9,hm9⟩;refine ⟨_,results_row_cell rfl _ _ U ⟨U+1,0,none⟩ _ _ _ _ rfl rfl hp9 Tryz.underlying45 rfl (by kernel_rfl) Tryz.underlying26 rfl (cell_of' hq9 0),?_⟩;rw [hMs.out,hDz.out];exact ⟨mod_ext (B:=U) hwU (M_.out.trans (hm9.mono (fun k hk=>by omega))),by decide,rfl⟩
 | some x=>
  obtain ⟨sum,r⟩:=x;rw [hg] at hi;simp only at hi;obtain ⟨b,hb0,hbl,hrb,rfl⟩:=hi;have hD2:=hid (show D=if sum ≠ crc r then .error 200 else decT 6 [] r by rw [hD.out,hg]);have hex:(⟨s.toArray⟩:ByteArray).extract b s.length=⟨r.toArray⟩:=by rw [ext_bs',List.take_length,hrb]
  have hbi:(b:Int)<=(s.length:Int):=by omega
  have hrl:r.length<=1000000:=by rw [hrb,List.length_drop];omega
  have cz:=cell_of' hCc.out 0;have zz:=free_of' hCc.out;simp at cz;have C_:=hid (put1 (v:=.int .i64 0) hCc.out);have U_:=hid ((put_ne w0 (b:=U+1) (k:=U) 0 (.int .i64 0) (by omega)).trans hUc.out);have M_:=hid (hx0.out.setCell (a:=⟨U+1,0,none⟩) (fun _=>by show U<=U+1;omega) (.int .i64 0));have G_:=hid (hG0.out.mod ((Mod.refl (fun k=>k=U+1) w0).setCell (a:=⟨U+1,0,none⟩) (fun _=>rfl) (.int .i64 0)) (fun k hk=>by omega));replace hg:=hid hg;replace hrb:=hid hrb;go_wp2_with fail
  clear cz zz;generalize w0.setCell ⟨U+1,0,none⟩ (.int .i64 0)=w1 at C_ U_ M_ G_ ⊢;have c1:=cell_of' C_.out 0;simp at c1;go_wp2_with fail
  refine (check_ok w1).mono ?_;rintro e w2 ⟨rfl,rfl⟩;go_wp2_with fail
  refine (sum_any r w1 G_.out hrl).mono ?_;rintro e w2 ⟨rfl,rfl⟩
  by_cases hsum:sum=crc r
  ·have hDz:=hid (show D=decT 6 [] r by rw [hD2.out,if_neg (fun h=>h hsum)])
   have s1:(sum !=crc r)=false:=by rw [hsum];simp
   have s2:(sum==crc r)=true:=by rw [hsum];simp
   replace hsum:=hid hsum;go_wp2_with fail
   obtain ⟨F,hF⟩:∃ F,F=w1.heap.size:=⟨_,rfl⟩;have hxF:=Mod.alloc (Mod.refl (fun _=>False) w1) (.cells #[.int .i64 0,.int .i64 0,.int .i64 0,.int .i64 0,.int .i64 0,.int .i64 0] 92);have hFc:=heap_alloc_new w1 (.cells #[.int .i64 0,.int .i64 0,.int .i64 0,.int .i64 0,.int .i64 0,.int .i64 0] 92);rw [<- hF] at hFc ⊢;have hUF:U+1 < F:=by have:=lt_of_at C_.out;omega
   have U2:=hid (hxF.at U_.out (fun h=>h));have C2:=hid (hxF.at C_.out (fun h=>h));have G2:=hid (G_.out.ext hxF);have M2:=hid (M_.out.trans (hxF.mono (fun _ h=>h.elim)));generalize (w1.alloc _)=w2 at U2 C2 G2 M2 hFc ⊢;replace hF:=hid hF;have hF2:Hid (w2.heap[F]?=some (.cells (fA [] 6) 92 (0,0))):=hid hFc;clear hFc hxF U_ C_ G_ M_ c1;go_loopg [5,26] 6 (fun g av iv wr=>∃ (j a:Nat) (fs:List Int),j+g=6/\fs.length=j/\a<=s.length/\av=.int .i64 a/\iv=.int .i64 j/\D=decT g fs (s.drop a)/\wr.heap[F]?=some (.cells (fA fs g) 92 (0,0))/\wr.heap[U]?=some (.cells #[.int .i64 0,.int .i64 0,.int .i64 0,.int .i64 0,.int .i64 0,.int .i64 0,.string ⟨#[]⟩] 45 (0,0))/\wr.heap[U+1]?=some (.cells #[.int .i64 0] 26 (0,0))/\Gl wr/\Mod (fun k=>U<=k) w wr)
   case atStart=>exact ⟨0,b,[],rfl,rfl,hbl,rfl,rfl,by rw [hDz.out,hrb.out],hF2.out,U2.out,C2.out,G2.out,M2.out⟩
   case round=>
    clear hDz hF2 U2 C2 G2 M2;obtain ⟨j,a,fs,hj,hfl,ha,rfl,rfl,hDj,hFr,hUr,hCr,hGr,hMr⟩:=hrel
    by_cases hlt:j < 6
    ·obtain ⟨g,rfl⟩:∃ g,gk=g+1:=⟨gk - 1,by omega⟩
     have hdi:(j:Int) < 6:=by omega
     have hd:decide ((j:Int) < 6)=true:=decide_eq_true hdi;have hcj:wr.cell? ⟨F,j,none⟩=some (.int .i64 0):=by rw [cell_of' hFr j,<- hfl];exact fA_get fs g
     have hzF:=free_of' hFr;have hia:=hid (int_any s a ha hs wr);replace hj:=hid hj;replace hFr:=hid hFr;replace hUr:=hid hUr;replace hCr:=hid hCr;replace hGr:=hid hGr;replace hMr:=hid hMr;unfold decT at hDj;replace hDj:=hid hDj;go_wp2_with fail
     refine hia.out.mono ?_;rintro e w3 ⟨rfl,hi⟩;unfold intR intE at hi;clear hia;cases hga:getI (s.drop a) with
     | none=>
      rw [hga] at hi;simp only at hi;subst hi;have hDz:=hid (show D=.error 10 by rw [hDj.out,hga]);have F3:=put_at' hFr.out j (.int .i64 0);have m3:Mod (fun k=>k=F) wr (wr.setCell ⟨F,j,none⟩ (.int .i64 0)):=(Mod.refl (fun k=>k=F) wr).setCell (a:=⟨F,j,none⟩) (fun _=>rfl) (.int .i64 0);have U3:=m3.at hUr.out (by omega);have C3:=m3.at hCr.out (by omega);have G3:=hGr.out.mod m3 (fun k hk=>by omega);have M3:=hMr.out.trans (m3.mono (T:=fun k=>U<=k) (fun k hk=>by omega));replace hga:=hid hga;replace F3:=hid F3;clear m3;have cz:=cell_of' C3 0;have zz:=free_of' C3;simp at cz;have C_:=hid (put1 (v:=.int .i64 10) C3);have U_:=hid ((put_ne (wr.setCell ⟨F,j,none⟩ (.int .i64 0)) (b:=U+1) (k:=U) 0 (.int .i64 10) (by omega)).trans U3);have M_:=hid (M3.setCell (a:=⟨U+1,0,none⟩) (fun _=>by show U<=U+1;omega) (.int .i64 10));have G_:=hid (G3.mod ((Mod.refl (fun k=>k=U+1) (wr.setCell ⟨F,j,none⟩ (.int .i64 0))).setCell (a:=⟨U+1,0,none⟩) (fun _=>rfl) (.int .i64 10)) (fun k hk=>by omega));replace U3:=hid U3;replace C3:=hid C3;replace G3:=hid G3;replace M3:=hid M3;go_wp2_with fail
      clear cz zz;generalize (wr.setCell ⟨F,j,none⟩ (.int .i64 0)).setCell ⟨U+1,0,none⟩ (.int .i64 10)=w4 at C_ U_ M_ G_ ⊢;have c4:=cell_of' C_.out 0;simp at c4;go_wp2_with fail
      refine (check_bad 10 (by decide) w4).mono ?_;rintro e w5 ⟨rfl,rfl⟩;go_wp2_with fail
      refine leaves_cons (f:=48) (args:=#[.pointer (some ⟨U,0,none⟩),.pointer (some ⟨U+1,0,none⟩)]) (by simp) (by simp [go_sem]) ?_;refine (mcatch_panicking U (U+1) _ _ 10 [] w4 U_.out rfl C_.out (by omega) (fun W' hm'=>(G_.out.mod hm' (fun k hk=>by omega)).et) (by have:=G_.out.size;omega)).mono ?_;rintro e u' w'' ⟨rfl,rfl,hp9,hq9,hm9⟩;refine ⟨_,results_row_cell rfl _ _ U ⟨U+1,0,none⟩ _ _ _ _ rfl rfl hp9 Tryz.underlying45 rfl (by kernel_rfl) Tryz.underlying26 rfl (cell_of' hq9 0),?_⟩;rw [hMs.out,hDz.out];exact ⟨mod_ext (B:=U) hwU (M_.out.trans (hm9.mono (fun k hk=>by omega))),by decide,rfl⟩
     | some y=>
      obtain ⟨x1,r1⟩:=y;rw [hga] at hi;simp only at hi;obtain ⟨b1,hb1,hb1l,hr1,rfl⟩:=hi;have hDn:=hid (show D=decT g (fs++[x1]) (s.drop b1) by rw [hDj.out,hga,<- hr1]);have F3:=put_at' hFr.out j (.int .i64 x1);rw [<- hfl,fA_set,hfl] at F3;have m3:Mod (fun k=>k=F) wr (wr.setCell ⟨F,j,none⟩ (.int .i64 x1)):=(Mod.refl (fun k=>k=F) wr).setCell (a:=⟨F,j,none⟩) (fun _=>rfl) (.int .i64 x1);have U3:=m3.at hUr.out (by omega);have C3:=m3.at hCr.out (by omega);have G3:=hGr.out.mod m3 (fun k hk=>by omega);have M3:=hMr.out.trans (m3.mono (T:=fun k=>U<=k) (fun k hk=>by omega));have F4:=hid ((put_ne (wr.setCell ⟨F,j,none⟩ (.int .i64 x1)) (b:=U+1) (k:=F) 0 (.int .i64 0) (by omega)).trans F3);replace hga:=hid hga;replace F3:=hid F3;replace hfl:=hid hfl;clear m3;have cz:=cell_of' C3 0;have zz:=free_of' C3;simp at cz;have C_:=hid (put1 (v:=.int .i64 0) C3);have U_:=hid ((put_ne (wr.setCell ⟨F,j,none⟩ (.int .i64 x1)) (b:=U+1) (k:=U) 0 (.int .i64 0) (by omega)).trans U3);have M_:=hid (M3.setCell (a:=⟨U+1,0,none⟩) (fun _=>by show U<=U+1;omega) (.int .i64 0));have G_:=hid (G3.mod ((Mod.refl (fun k=>k=U+1) (wr.setCell ⟨F,j,none⟩ (.int .i64 x1))).setCell (a:=⟨U+1,0,none⟩) (fun _=>rfl) (.int .i64 0)) (fun k hk=>by omega));replace U3:=hid U3;replace C3:=hid C3;replace G3:=hid G3;replace M3:=hid M3;go_wp2_with fail
      clear cz zz hcj hzF;generalize (wr.setCell ⟨F,j,none⟩ (.int .i64 x1)).setCell ⟨U+1,0,none⟩ (.int .i64 0)=w4 at C_ U_ M_ G_ F4 ⊢;have c4:=cell_of' C_.out 0;simp at c4;go_wp2_with fail
      refine (check_ok w4).mono ?_;rintro e w5 ⟨rfl,rfl⟩;clear c4;go_wp2_with fail
      go_roundg g
      case measure=>omega
      case rel=>exact ⟨j+1,b1,fs++[x1],by have:=hj.out;omega,by simp [hfl.out],hb1l,rfl,by go_num,hDn.out,F4.out,U_.out,C_.out,G_.out,M_.out⟩
    ·obtain rfl:gk=0:=by omega
     obtain rfl:j=6:=by omega
     obtain ⟨f0,f1,f2,f3,f4,f5,rfl⟩:∃ f0 f1 f2 f3 f4 f5,fs=[f0,f1,f2,f3,f4,f5]:=by
      match fs,hfl with
      | [f0,f1,f2,f3,f4,f5],_=>exact ⟨f0,f1,f2,f3,f4,f5,rfl⟩
     have hFe:Hid (wr.heap[F]?=some (.cells #[.int .i64 f0,.int .i64 f1,.int .i64 f2,.int .i64 f3,.int .i64 f4,.int .i64 f5] 92 (0,0))):=hid hFr;have hsa:=hid (string_any s a ha hs wr);unfold decT at hDj;replace hDj:=hid hDj;replace hFr:=hid hFr;replace hUr:=hid hUr;replace hCr:=hid hCr;replace hGr:=hid hGr;replace hMr:=hid hMr;go_wp2_with fail
     refine hsa.out.mono ?_;rintro e w3 ⟨rfl,hi⟩;unfold strR strE at hi;clear hsa;cases hga:getS (s.drop a) with
     | none=>
      rw [hga] at hi;simp only at hi;subst hi;have hDz:=hid (show D=.error 10 by rw [hDj.out,hga]);replace hga:=hid hga;have cz:=cell_of' hCr.out 0;have zz:=free_of' hCr.out;simp at cz;have C_:=hid (put1 (v:=.int .i64 10) hCr.out);have U_:=hid ((put_ne wr (b:=U+1) (k:=U) 0 (.int .i64 10) (by omega)).trans hUr.out);have M_:=hid (hMr.out.setCell (a:=⟨U+1,0,none⟩) (fun _=>by show U<=U+1;omega) (.int .i64 10));have G_:=hid (hGr.out.mod ((Mod.refl (fun k=>k=U+1) wr).setCell (a:=⟨U+1,0,none⟩) (fun _=>rfl) (.int .i64 10)) (fun k hk=>by omega));go_wp2_with fail
      clear cz zz;generalize wr.setCell ⟨U+1,0,none⟩ (.int .i64 10)=w4 at C_ U_ M_ G_ ⊢;have c4:=cell_of' C_.out 0;simp at c4;go_wp2_with fail
      refine (check_bad 10 (by decide) w4).mono ?_;rintro e w5 ⟨rfl,rfl⟩;go_wp2_with fail
      refine leaves_cons (f:=48) (args:=#[.pointer (some ⟨U,0,none⟩),.pointer (some ⟨U+1,0,none⟩)]) (by simp) (by simp [go_sem]) ?_;refine (mcatch_panicking U (U+1) _ _ 10 [] w4 U_.out rfl C_.out (by omega) (fun W' hm'=>(G_.out.mod hm' (fun k hk=>by omega)).et) (by have:=G_.out.size;omega)).mono ?_;rintro e u' w'' ⟨rfl,rfl,hp9,hq9,hm9⟩;refine ⟨_,results_row_cell rfl _ _ U ⟨U+1,0,none⟩ _ _ _ _ rfl rfl hp9 Tryz.underlying45 rfl (by kernel_rfl) Tryz.underlying26 rfl (cell_of' hq9 0),?_⟩;rw [hMs.out,hDz.out];exact ⟨mod_ext (B:=U) hwU (M_.out.trans (hm9.mono (fun k hk=>by omega))),by decide,rfl⟩
     | some y=>
      obtain ⟨da,r1⟩:=y;rw [hga] at hi;simp only at hi;obtain ⟨b1,hb1,hb1l,hr1,rfl⟩:=hi;have hDn:=hid (show D=if !r1.isEmpty then .error 10 else if vMs ⟨f0,f1,f2,f3,f4,f5,da⟩ then .ok ⟨f0,f1,f2,f3,f4,f5,da⟩ else .error 200 by rw [hDj.out,hga];rfl);replace hga:=hid hga;have cz:=cell_of' hCr.out 0;have zz:=free_of' hCr.out;simp at cz;have C_:=hid (put1 (v:=.int .i64 0) hCr.out);have U_:=hid ((put_ne wr (b:=U+1) (k:=U) 0 (.int .i64 0) (by omega)).trans hUr.out);have M_:=hid (hMr.out.setCell (a:=⟨U+1,0,none⟩) (fun _=>by show U<=U+1;omega) (.int .i64 0));have G_:=hid (hGr.out.mod ((Mod.refl (fun k=>k=U+1) wr).setCell (a:=⟨U+1,0,none⟩) (fun _=>rfl) (.int .i64 0)) (fun k hk=>by omega));have F4:=hid ((put_ne wr (b:=U+1) (k:=F) 0 (.int .i64 0) (by omega)).trans hFe.out);go_wp2_with fail
      clear cz zz;generalize wr.setCell ⟨U+1,0,none⟩ (.int .i64 0)=w4 at C_ U_ M_ G_ F4 ⊢;have c4:=cell_of' C_.out 0;simp at c4;go_wp2_with fail
      refine (check_ok w4).mono ?_;rintro e w5 ⟨rfl,rfl⟩;clear c4
      by_cases hend:b1 < s.length
      ·have hDz:=hid (show D=.error 10 by
        rw [hDn.out,if_pos];have:r1 ≠ []:=fun h=>by
         rw [h] at hr1;have:=congrArg List.length hr1;rw [List.length_drop] at this;simp at this;omega
        cases r1 with
        | nil=>exact absurd rfl this
        | cons _ _=>rfl)
       have hei:(b1:Int) < (s.length:Int):=by omega
       have hed:decide ((b1:Int) < (s.length:Int))=true:=decide_eq_true hei;replace hr1:=hid hr1;go_wp2_with fail
       refine leaves_cons (f:=48) (args:=#[.pointer (some ⟨U,0,none⟩),.pointer (some ⟨U+1,0,none⟩)]) (by simp) (by simp [go_sem]) ?_;refine (mcatch_panicking U (U+1) _ _ 10 [] w4 U_.out rfl C_.out (by omega) (fun W' hm'=>(G_.out.mod hm' (fun k hk=>by omega)).et) (by have:=G_.out.size;omega)).mono ?_;rintro e u' w'' ⟨rfl,rfl,hp9,hq9,hm9⟩;refine ⟨_,results_row_cell rfl _ _ U ⟨U+1,0,none⟩ _ _ _ _ rfl rfl hp9 Tryz.underlying45 rfl (by kernel_rfl) Tryz.underlying26 rfl (cell_of' hq9 0),?_⟩;rw [hMs.out,hDz.out];exact ⟨mod_ext (B:=U) hwU (M_.out.trans (hm9.mono (fun k hk=>by omega))),by decide,rfl⟩
      ·have hr1e:r1=[]:=by rw [hr1,List.drop_eq_nil_of_le (by omega)]
       have hDo:=hid (show D=if vMs ⟨f0,f1,f2,f3,f4,f5,da⟩ then .ok ⟨f0,f1,f2,f3,f4,f5,da⟩ else .error 200 by rw [hDn.out,hr1e];rfl);have hei:¬ (b1:Int) < (s.length:Int):=by omega
       have hed:decide ((b1:Int) < (s.length:Int))=false:=decide_eq_false hei;have e0:=cell_of' F4.out 0;have e1:=cell_of' F4.out 1;have e2:=cell_of' F4.out 2;have e3:=cell_of' F4.out 3;have e4:=cell_of' F4.out 4;have e5:=cell_of' F4.out 5;simp at e0 e1 e2 e3 e4 e5;replace hr1:=hid hr1;replace hr1e:=hid hr1e;obtain ⟨VZ,hVZ⟩:∃ VZ:Array Value,VZ=#[.int .i64 f0,.int .i64 f1,.int .i64 f2,.int .i64 f3,.int .i64 f4,.int .i64 f5,.string ⟨da.toArray⟩]:=⟨_,rfl⟩;have hZs:Hid (VZ.size=7):=hid (by rw [hVZ];rfl);have hZ1:Hid (VZ.toList.all (·.oneCell')=true):=hid (by rw [hVZ];rfl);have hval:=fun W=>msgValid_any ⟨f0,f1,f2,f3,f4,f5,da⟩ W
       rw [show (msC ⟨f0,f1,f2,f3,f4,f5,da⟩).toArray=VZ from by rw [hVZ];rfl] at hval;replace hval:=hid hval;replace hVZ:=hid hVZ;go_wp2_with (refine wpList_storeW rfl 45 _ _ rfl U _ VZ 45 rfl (by rw [hVZ.out];rfl) U_.out (by rw [hZs.out];rfl) (by rw [hZs.out];kernel_rfl) hZ1.out (fun WS HS=>Hid.out ?_))
       obtain ⟨U5,hm5⟩:=HS.out;have C5:=hm5.at C_.out (by omega);have G5:=G_.out.mod hm5 (fun k hk=>by omega);have M5:=M_.out.trans (hm5.mono (T:=fun k=>U<=k) (fun k hk=>by omega));replace U5:=hid U5;replace C5:=hid C5;replace G5:=hid G5;replace M5:=hid M5;clear HS hm5 U_ C_ G_ M_ F4 e0 e1 e2 e3 e4 e5;refine hid ?_;cases hv:vMs ⟨f0,f1,f2,f3,f4,f5,da⟩ with
       | false=>
        rw [hv] at hval;have hDz:=hid (show D=.error 200 by rw [hDo.out,hv];rfl);replace hv:=hid hv;go_wp2_with (refine wpList_loadW (by rfl) 45 _ rfl U VZ _ _ _ rfl U5.out Tryz.underlying45 rfl (by rw [hZs.out];kernel_rfl) ?_)
        refine (hval.out WS).mono ?_;rintro e W6 ⟨rfl,hx6⟩;have U6:=hid (hx6.at U5.out (fun h=>h));have C6:=hid (hx6.at C5.out (fun h=>h));have G6:=hid (G5.out.ext hx6);have M6:=hid (M5.out.trans (hx6.mono (fun _ h=>h.elim)));clear hx6;go_wp2_with fail
        refine leaves_cons (f:=48) (args:=#[.pointer (some ⟨U,0,none⟩),.pointer (some ⟨U+1,0,none⟩)]) (by simp) (by simp [go_sem]) ?_;refine (mcatch_panicking U (U+1) _ _ 200 [] W6 U6.out hZs.out C6.out (by omega) (fun W' hm'=>(G6.out.mod hm' (fun k hk=>by omega)).et) (by have:=G6.out.size;omega)).mono ?_;rintro e u' w'' ⟨rfl,rfl,hp9,hq9,hm9⟩;refine ⟨_,results_row_cell rfl _ _ U ⟨U+1,0,none⟩ _ _ _ _ rfl rfl hp9 Tryz.underlying45 rfl (by kernel_rfl) Tryz.underlying26 rfl (cell_of' hq9 0),?_⟩;rw [hMs.out,hDz.out];exact ⟨mod_ext (B:=U) hwU (M6.out.trans (hm9.mono (fun k hk=>by omega))),by decide,rfl⟩
       | true=>
        rw [hv] at hval;have hDz:=hid (show D=.ok ⟨f0,f1,f2,f3,f4,f5,da⟩ by rw [hDo.out,hv];rfl);replace hv:=hid hv;go_wp2_with (refine wpList_loadW (by rfl) 45 _ rfl U VZ _ _ _ rfl U5.out Tryz.underlying45 rfl (by rw [hZs.out];kernel_rfl) ?_)
        refine (hval.out WS).mono ?_;rintro e W6 ⟨rfl,hx6⟩;have U6:=hid (hx6.at U5.out (fun h=>h));have C6:=hid (hx6.at C5.out (fun h=>h));have M6:=hid (M5.out.trans (hx6.mono (fun _ h=>h.elim)));clear hx6;go_wp2_with (first | (refine wpList_loadW (by rfl) 45 _ rfl U VZ _ _ _ rfl U6.out Tryz.underlying45 rfl (by rw [hZs.out];kernel_rfl) ?_) | (refine wpList_storeW rfl 45 _ _ rfl U _ VZ 45 rfl rfl U6.out rfl (by rw [hZs.out];kernel_rfl) hZ1.out (fun WT HT=>Hid.out ?_)))
        obtain ⟨U7,hm7⟩:=HT.out;have C7:=hm7.at C6.out (by omega);have M7:=M6.out.trans (hm7.mono (T:=fun k=>U<=k) (fun k hk=>by omega));have cz:=cell_of' C7 0;have zz:=free_of' C7;simp at cz;have C8:=hid (put1 (v:=.int .i64 0) C7);have U8:=hid ((put_ne WT (b:=U+1) (k:=U) 0 (.int .i64 0) (by omega)).trans U7);have M8:=hid (M7.setCell (a:=⟨U+1,0,none⟩) (fun _=>by show U<=U+1;omega) (.int .i64 0));replace U7:=hid U7;replace C7:=hid C7;replace M7:=hid M7;clear HT hm7;refine hid ?_;go_wp2_with fail
        refine leaves_cons (f:=48) (args:=#[.pointer (some ⟨U,0,none⟩),.pointer (some ⟨U+1,0,none⟩)]) (by simp) (by simp [go_sem]) ?_;refine (mcatch_idle U (U+1) _).mono ?_;rintro e u' w'' ⟨rfl,rfl,rfl⟩;refine ⟨_,results_row_cell rfl _ _ U ⟨U+1,0,none⟩ _ _ _ _ rfl rfl U8.out Tryz.underlying45 rfl (by rw [hZs.out];kernel_rfl) Tryz.underlying26 rfl (cell_of' C8.out 0),?_⟩;rw [hMs.out,hDz.out];exact ⟨mod_ext (B:=U) hwU M8.out,by rw [hVZ.out];rfl⟩
  ·have hDz:=hid (show D=.error 200 by rw [hD2.out,if_pos hsum])
   have s1:(sum !=crc r)=true:=by rw [bne_iff_ne];exact hsum
   have s2:(sum==crc r)=false:=by rw [beq_eq_false_iff_ne];exact hsum
   replace hsum:=hid hsum;go_wp2_with fail
   refine leaves_cons (f:=48) (args:=#[.pointer (some ⟨U,0,none⟩),.pointer (some ⟨U+1,0,none⟩)]) (by simp) (by simp [go_sem]) ?_;refine (mcatch_panicking U (U+1) _ _ 200 [] w1 U_.out rfl C_.out (by omega) (fun W' hm'=>(G_.out.mod hm' (fun k hk=>by omega)).et) (by have:=G_.out.size;omega)).mono ?_;rintro e u' w'' ⟨rfl,rfl,hp9,hq9,hm9⟩;refine ⟨_,results_row_cell rfl _ _ U ⟨U+1,0,none⟩ _ _ _ _ rfl rfl hp9 Tryz.underlying45 rfl (by kernel_rfl) Tryz.underlying26 rfl (cell_of' hq9 0),?_⟩;rw [hMs.out,hDz.out];exact ⟨mod_ext (B:=U) hwU (M_.out.trans (hm9.mono (fun k hk=>by omega))),by decide,rfl⟩
end Go.Proofs.YtcopgcdhkgenkaaGreatDoor
