import Derived.Test.YtjjfphalcibjfaaGreatDoorTh10
import Derived.Test.YtjjfphalcibjfaaGreatDoorC0
set_option maxRecDepth 100000
set_option maxHeartbeats 16000000
namespace Go.Proofs.YtjjfphalcibjfaaGreatDoor
open Go.Shelf Go.RowKit Cdk Scr
def zmS (t:Bs) (a:Nat) (e:Ending) (G:Option (Int × Bs)):Prop:=match G with
 | none=>e=.returned (.tuple #[.int .i64 0,.int .i64 0,.int .i64 10])
 | some x=>∃ b:Nat,a < b/\b<=t.length/\x.2=t.drop b/\e=.returned (.tuple #[.int .i64 x.1,.int .i64 b,.int .i64 0])
def zmT (t:Bs) (a:Nat) (e:Ending):Prop:=zmS t a e (zex (t.drop a))
theorem zoh {acc x j:Nat} (hj:j < 9) (h:acc < 2 ^ (7*j)) (hx:x < 128):bits .or .u64 (acc:Int) (IntKind.u64.wrap ((x:Int)*2 ^ (7*j)))=((acc+x*2 ^ (7*j):Nat):Int):=by
 have hn:=zdf h hx;have h63:2 ^ (7*(j+1))<=2 ^ 63:=Nat.pow_le_pow_right (by decide) (by omega);have e0:((x:Int)*2 ^ (7*j))=((x*2 ^ (7*j):Nat):Int):=by push_cast;rfl
 rw [e0];generalize hy:x*2 ^ (7*j)=y at*;have e1:IntKind.u64.wrap ((y:Nat):Int)=y:=by rw [IntKind.wrap_u64];omega
 rw [e1];have ha:acc % 2 ^ IntKind.u64.bits=acc:=Nat.mod_eq_of_lt (by show acc < 2 ^ 64;omega);have hb:y % 2 ^ IntKind.u64.bits=y:=Nat.mod_eq_of_lt (by show y < 2 ^ 64;omega);have ho:acc ||| y=acc+y:=by rw [<- hy];exact znB h
 simp only [bits,BitVec.ofInt_natCast,BitVec.toNat_or,BitVec.toNat_ofNat,ha,hb,ho];rw [IntKind.wrap_u64];omega
theorem zmx {y:Nat} (h:y < 4611686018427387904):wrap64 (y:Int)=y:=IntWalk.wrap64_in _ (by omega)
theorem zn3 {y:Nat} (h:y < 4611686018427387904):wrap64 (-(y:Int))=-(y:Int):=IntWalk.wrap64_in _ (by omega)
theorem zm6 {y:Nat} (h:y < 4611686018427387904):wrap64 (-(y:Int) - 1)=-(y:Int) - 1:=IntWalk.wrap64_in _ (by omega)
theorem zn2 {y:Nat} (h:y < 4611686018427387904):IntKind.u64.wrap (y:Int)=y:=by rw [IntKind.wrap_u64];omega
theorem znS {j:Nat} (h:j < 9) {z:Nat} (hz:z < 2 ^ (7*(j+1))):z < 9223372036854775808:=Nat.lt_of_lt_of_le hz (Nat.le_trans (Nat.pow_le_pow_right (by decide) (by omega:7*(j+1)<=63)) (by decide))
theorem zlm {z:Nat} (h:z % 2=1):zl8 z=-((z / 2:Nat):Int) - 1:=by unfold zl8;rw [if_pos h]
theorem zjw {z:Nat} (h:¬ z % 2=1):zl8 z=((z / 2:Nat):Int):=by unfold zl8;rw [if_neg h]
theorem zfP (t:Bs) (a:Nat) (ha:a<=t.length) (hs:t.length<=1000000) (w:World):
  Calls Tryz.prog 192 #[.string ⟨t.toArray⟩,.int .i64 a] w fun e w'=>w=w'/\zmT t a e:=by
 have hrest:=fun n r (h:zex (t.drop a)=some (n,r))=>zi5 h
 obtain ⟨G,hG⟩:∃ G,G=zex (t.drop a):=⟨_,rfl⟩;have hR:Hid (∀ e,zmT t a e=zmS t a e G):=hid (fun e=>by rw [hG];rfl);obtain ⟨S,hS⟩:∃ S:ByteArray,S=⟨t.toArray⟩:=⟨_,rfl⟩;have hSs:S.size=t.length:=by rw [hS];rfl
 have hSd:S.data.toList=t:=by rw [hS]
 rw [<- hS];have hsl:S.size<=1000000:=by omega
 have haS:a<=S.size:=by omega
 have hG0:Hid (G=zdW 9 0 0 (S.data.toList.drop (a+0))):=hid (by rw [hG,hSd];rfl);have h1:¬ (a:Int) < 0:=by omega
 have h2:¬ (S.size:Int) < (a:Int):=by omega
 replace hS:=hid hS;replace hSd:=hid hSd;replace hSs:=hid hSs;replace hG:=hid hG;replace hrest:=hid hrest;go_enter Tryz.func192,Tryz.ntmps192;go_wp2_with fail
 clear h1 h2;go_loopg [1,7,8] 9 (fun g at' z sh wr=>∃ (j acc aj sj:Nat),j+g=9/\aj=a+j/\sj=7*j/\at'=.int .i64 aj/\z=.int .u64 acc/\sh=.int .i64 sj/\acc < 2 ^ (7*j)/\aj<=S.size/\wr=w/\G=zdW g j acc (S.data.toList.drop aj))
 case atStart=>exact ⟨0,0,a,0,rfl,rfl,rfl,rfl,rfl,rfl,by decide,haS,rfl,hG0.out⟩
 case round=>
  clear hG0 hG;obtain ⟨j,acc,aj,sj,hj,haj,hsj,rfl,rfl,rfl,hacc,hajS,rfl,hGj⟩:=hrel
  by_cases hj9:j < 9
  ·obtain ⟨g,rfl⟩:∃ g,gk=g+1:=⟨gk - 1,by omega⟩
   have hd:decide ((sj:Int) < 63)=true:=decide_eq_true (by omega);have hdi:(sj:Int) < 63:=by omega
   have hsw:IntKind.i64.wrap ((sj:Int)+7)=(sj:Int)+7:=IntWalk.i64_in _ (by omega)
   by_cases hend:aj=S.size
   ·rw [hend,List.drop_eq_nil_of_le (Nat.le_of_eq (zaO S).symm),zlg] at hGj
    have hei:(aj:Int)=(S.size:Int):=by omega
    have heb:((aj:Int)==(S.size:Int))=true:=by rw [beq_iff_eq];exact hei
    replace hj:=hid hj;replace hacc:=hid hacc;replace hGj:=hid hGj;replace haj:=hid haj;replace hsj:=hid hsj;clear hend;go_wp2_with fail
    go_ret3
    exact ⟨rfl,by rw [hR.out,hGj.out];rfl⟩
   ·have hlt:aj < S.size:=by omega
    have hei:¬ (aj:Int)=(S.size:Int):=by omega
    have heb:((aj:Int)==(S.size:Int))=false:=by rw [beq_eq_false_iff_ne];exact hei
    have hlti:(aj:Int) < (S.size:Int):=by omega
    rw [drop_at S hlt] at hGj;replace hj:=hid hj;replace hacc:=hid hacc;replace hGj:=hid hGj;replace haj:=hid haj;replace hsj:=hid hsj;clear hend;go_upto_region 11 with fail
    generalize S[aj]=Bt at hGj ⊢;have hb256:=Bt.toNat_lt
    by_cases hm:128<=Bt.toNat
    ·have hgm:=zed (g:=g) (j:=j) (acc:=acc) (r:=S.data.toList.drop (aj+1)) hm
     have hGn:=hid (hGj.out.trans hgm);have e2:=zoh (x:=Bt.toNat % 128) hj9 hacc.out (Nat.mod_lt _ (by decide));have hnx:=hid (zdf (x:=Bt.toNat % 128) hacc.out (Nat.mod_lt _ (by decide)));rw [<- hsj.out] at e2;have e4:((Bt.toNat % 128:Nat):Int)=(Bt.toNat:Int) % 128:=by omega
     rw [e4] at e2;obtain ⟨z,hz⟩:∃ z,z=acc+Bt.toNat % 128*2 ^ (7*j):=⟨_,rfl⟩;have hz':acc+Bt.toNat % 128*2 ^ sj=z:=by rw [hz,hsj.out]
     rw [hz'] at e2;rw [<- hz] at hGn hnx;have hmi:(128:Int)<=(Bt.toNat:Int):=by omega
     have hmd:decide ((128:Int)<=(Bt.toNat:Int))=true:=decide_eq_true hmi;have hmn:¬ (Bt.toNat:Int) < 128:=by omega
     clear hGj hgm hz hz' e4 hm;generalize Bt.toNat=bt at*;go_wp2_with fail
     go_roundg g
     case measure=>omega
     case rel=>exact ⟨j+1,z,aj+1,sj+7,by have:=hj.out;omega,by have:=haj.out;omega,by have:=hsj.out;omega,by go_num,rfl,by go_num,hnx.out,by omega,rfl,hGn.out⟩
    ·have hgm:=zeb (g:=g) (j:=j) (acc:=acc) (r:=S.data.toList.drop (aj+1)) hm
     have hGn:=hGj.out.trans hgm;have e2:=zoh (x:=Bt.toNat) hj9 hacc.out (by omega);have hnx:=zdf (x:=Bt.toNat) hacc.out (by omega);rw [<- hsj.out] at e2;have e4:(Bt.toNat:Int) % 128=(Bt.toNat:Int):=by omega
     obtain ⟨z,hz⟩:∃ z,z=acc+Bt.toNat*2 ^ (7*j):=⟨_,rfl⟩;have hz':acc+Bt.toNat*2 ^ sj=z:=by rw [hz,hsj.out]
     rw [hz'] at e2;rw [<- hz] at hGn hnx;have hzl:=znS hj9 hnx;have hmi:¬ (128:Int)<=(Bt.toNat:Int):=by omega
     have hmd:decide ((128:Int)<=(Bt.toNat:Int))=false:=decide_eq_false hmi;have hmn:(Bt.toNat:Int) < 128:=by omega
     clear hGj hgm hz hz' hm hnx;generalize Bt.toNat=bt at*;obtain ⟨n,hn⟩:∃ n,n=zl8 z:=⟨_,rfl⟩;rw [<- hn] at hGn;obtain ⟨y,hy⟩:∃ y,y=z / 2:=⟨_,rfl⟩;have hyl:y < 4611686018427387904:=by omega
     have f1:(z:Int).tdiv 2=(y:Int):=by rw [Int.tdiv_eq_ediv_of_nonneg (by omega)];omega
     have f2:=zn2 hyl;replace hn:=hid hn;replace hy:=hid hy;have f5:=zn3 hyl
     by_cases ho:z % 2=1
     ·have hnn:n=-(y:Int) - 1:=by rw [hn.out,zlm ho,hy.out]
      have f3:=zmx hyl;have f6:wrap64 (-(y:Int) - 1)=n:=by rw [hnn];exact zm6 hyl
      have f4:(z:Int).tmod 2=1:=by rw [Int.tmod_eq_emod_of_nonneg (by omega)];omega
      replace hnn:=hid hnn;replace ho:=hid ho;clear hyl hzl
      by_cases hb0:bt=0
      ·have h4:((bt:Int)==0)=true:=by rw [beq_iff_eq];omega
       have h4i:(bt:Int)=0:=by omega
       by_cases hj0:0 < j
       ·have h3:(0:Int) < (sj:Int):=by have:=hsj.out;omega
        have h5:0 < sj:=by omega
        rw [if_pos (.inl ⟨hb0,hj0⟩)] at hGn;replace hGn:=hid hGn;replace hb0:=hid hb0;replace hj0:=hid hj0;clear h4i;go_wp2_with fail
        go_ret3
        exact ⟨rfl,by rw [hR.out,hGn.out];rfl⟩
       ·have h3:¬ (0:Int) < (sj:Int):=by have:=hsj.out;omega
        have h5:¬ 0 < sj:=by omega
        by_cases hlow:n < -4611686018427387903
        ·rw [if_pos (.inr hlow)] at hGn
         replace hGn:=hid hGn;replace hb0:=hid hb0;replace hj0:=hid hj0;clear h4i;go_wp2_with fail
         go_ret3
         exact ⟨rfl,by rw [hR.out,hGn.out];rfl⟩
        ·rw [if_neg (fun hh=>hh.elim (fun q=>hj0 q.2) hlow)] at hGn
         replace hGn:=hid hGn;replace hb0:=hid hb0;replace hj0:=hid hj0;clear h4i;go_wp2_with fail
         go_ret3
         exact ⟨rfl,by rw [hR.out,hGn.out];exact ⟨aj+1,by have:=haj.out;omega,by have:=hSs.out;omega,by rw [hSd.out],by first | rfl | (go_num)⟩⟩
      ·have h4:((bt:Int)==0)=false:=by rw [beq_eq_false_iff_ne];omega
       have h4i:¬ (bt:Int)=0:=by omega
       by_cases hlow:n < -4611686018427387903
       ·rw [if_pos (.inr hlow)] at hGn
        replace hGn:=hid hGn;replace hb0:=hid hb0;go_wp2_with fail
        go_ret3
        exact ⟨rfl,by rw [hR.out,hGn.out];rfl⟩
       ·rw [if_neg (fun hh=>hh.elim (fun q=>hb0 q.1) hlow)] at hGn
        replace hGn:=hid hGn;replace hb0:=hid hb0;go_wp2_with fail
        go_ret3
        exact ⟨rfl,by rw [hR.out,hGn.out];exact ⟨aj+1,by have:=haj.out;omega,by have:=hSs.out;omega,by rw [hSd.out],by first | rfl | (go_num)⟩⟩
     ·have hnn:n=(y:Int):=by rw [hn.out,zjw ho,hy.out]
      have f3:wrap64 (y:Int)=n:=by rw [hnn];exact zmx hyl
      have f4:(z:Int).tmod 2=0:=by rw [Int.tmod_eq_emod_of_nonneg (by omega)];omega
      replace hnn:=hid hnn;replace ho:=hid ho;clear hyl hzl f5
      by_cases hb0:bt=0
      ·have h4:((bt:Int)==0)=true:=by rw [beq_iff_eq];omega
       have h4i:(bt:Int)=0:=by omega
       by_cases hj0:0 < j
       ·have h3:(0:Int) < (sj:Int):=by have:=hsj.out;omega
        have h5:0 < sj:=by omega
        rw [if_pos (.inl ⟨hb0,hj0⟩)] at hGn;replace hGn:=hid hGn;replace hb0:=hid hb0;replace hj0:=hid hj0;clear h4i;go_wp2_with fail
        go_ret3
        exact ⟨rfl,by rw [hR.out,hGn.out];rfl⟩
       ·have h3:¬ (0:Int) < (sj:Int):=by have:=hsj.out;omega
        have h5:¬ 0 < sj:=by omega
        by_cases hlow:n < -4611686018427387903
        ·rw [if_pos (.inr hlow)] at hGn
         replace hGn:=hid hGn;replace hb0:=hid hb0;replace hj0:=hid hj0;clear h4i;go_wp2_with fail
         go_ret3
         exact ⟨rfl,by rw [hR.out,hGn.out];rfl⟩
        ·rw [if_neg (fun hh=>hh.elim (fun q=>hj0 q.2) hlow)] at hGn
         replace hGn:=hid hGn;replace hb0:=hid hb0;replace hj0:=hid hj0;clear h4i;go_wp2_with fail
         go_ret3
         exact ⟨rfl,by rw [hR.out,hGn.out];exact ⟨aj+1,by have:=haj.out;omega,by have:=hSs.out;omega,by rw [hSd.out],by first | rfl | (go_num)⟩⟩
      ·have h4:((bt:Int)==0)=false:=by rw [beq_eq_false_iff_ne];omega
       have h4i:¬ (bt:Int)=0:=by omega
       by_cases hlow:n < -4611686018427387903
       ·rw [if_pos (.inr hlow)] at hGn
        replace hGn:=hid hGn;replace hb0:=hid hb0;go_wp2_with fail
        go_ret3
        exact ⟨rfl,by rw [hR.out,hGn.out];rfl⟩
       ·rw [if_neg (fun hh=>hh.elim (fun q=>hb0 q.1) hlow)] at hGn
        replace hGn:=hid hGn;replace hb0:=hid hb0;go_wp2_with fail
        go_ret3
        exact ⟨rfl,by rw [hR.out,hGn.out];exact ⟨aj+1,by have:=haj.out;omega,by have:=hSs.out;omega,by rw [hSd.out],by first | rfl | (go_num)⟩⟩
  ·obtain rfl:gk=0:=by omega
   have hd:decide ((sj:Int) < 63)=false:=decide_eq_false (by omega);have hdi:¬ (sj:Int) < 63:=by omega
   replace hGj:=hid (show G=none from hGj);replace hsj:=hid hsj;go_wp2_with fail
   go_ret3
   exact ⟨rfl,by rw [hR.out,hGj.out];rfl⟩
def znI (t:Bs) (a:Nat) (e:Ending) (G:Option (Bs × Bs)):Prop:=match G with
 | none=>e=.returned (.tuple #[.string ⟨#[]⟩,.int .i64 0,.int .i64 10])
 | some x=>∃ b:Nat,a < b/\b<=t.length/\x.2=t.drop b/\e=.returned (.tuple #[.string ⟨x.1.toArray⟩,.int .i64 b,.int .i64 0])
def znJ (t:Bs) (a:Nat) (e:Ending):Prop:=znI t a e (zkE (t.drop a))
theorem zhw (s:Bs) (a b:Nat):(⟨s.toArray⟩:ByteArray).extract a b=⟨((s.take b).drop a).toArray⟩:=by
 apply ByteArray.ext;rw [ByteArray.data_extract];apply Array.ext';simp [List.extract_eq_take_drop,List.drop_take]
theorem zfc (t:Bs) (a:Nat) (ha:a<=t.length) (hs:t.length<=1000000) (w:World):
  Calls Tryz.prog 194 #[.string ⟨t.toArray⟩,.int .i64 a] w fun e w'=>w=w'/\znJ t a e:=by
 have h1:=hid (zfP t a ha hs w);obtain ⟨G,hG⟩:∃ G,G=zkE (t.drop a):=⟨_,rfl⟩;have hR:Hid (∀ e,znJ t a e=znI t a e G):=hid (fun e=>by rw [hG];rfl);obtain ⟨S,hS⟩:∃ S:ByteArray,S=⟨t.toArray⟩:=⟨_,rfl⟩;have hSs:S.size=t.length:=by rw [hS];rfl
 rw [<- hS] at h1 ⊢;have hsl:S.size<=1000000:=by omega
 have hex:Hid (∀ b k:Nat,S.extract b (b+k)=⟨((t.drop b).take k).toArray⟩):=hid (fun b k=>by rw [hS,zhw,<- List.take_drop]);replace hS:=hid hS;replace hSs:=hid hSs;go_enter Tryz.func194,Tryz.ntmps194;go_wp2_with fail
 refine h1.out.mono ?_;rintro e w1 ⟨rfl,hi⟩;unfold zmT zmS at hi;unfold zkE at hG;clear h1;cases hg:zex (t.drop a) with
 | none=>
  rw [hg] at hi hG;simp only at hi hG;subst hi;replace hG:=hid hG;go_wp2_with fail
  go_ret3
  exact ⟨rfl,by rw [hR.out,hG.out];rfl⟩
 | some x=>
  obtain ⟨n,r⟩:=x;rw [hg] at hi hG;simp only at hi hG;obtain ⟨b,hab,hbl,hrb,rfl⟩:=hi;have hrl:(r.length:Int)=(S.size:Int) - (b:Int):=by rw [hrb,List.length_drop];have:=hSs.out;omega
  rw [hrl] at hG;have hbS:b<=S.size:=by have:=hSs.out;omega
  replace hrl:=hid hrl;replace hrb:=hid hrb;replace hbl:=hid hbl;replace hg:=hid hg
  by_cases h1:n < 0
  ·rw [if_pos (.inl h1)] at hG
   replace hG:=hid hG;go_wp2_with fail
   go_ret3
   exact ⟨rfl,by rw [hR.out,hG.out];rfl⟩
  by_cases h2:65536 < n
  ·rw [if_pos (.inr (.inl h2))] at hG
   replace hG:=hid hG;go_wp2_with fail
   go_ret3
   exact ⟨rfl,by rw [hR.out,hG.out];rfl⟩
  have hsw:IntKind.i64.wrap ((S.size:Int) - (b:Int))=(S.size:Int) - (b:Int):=IntWalk.i64_in _ (by omega)
  by_cases h3:(S.size:Int) - (b:Int) < n
  ·rw [if_pos (.inr (.inr h3))] at hG
   replace hG:=hid hG;go_wp2_with fail
   go_ret3
   exact ⟨rfl,by rw [hR.out,hG.out];rfl⟩
  rw [if_neg (by rintro (h | h | h);exact h1 h;exact h2 h;exact h3 h)] at hG;obtain ⟨k,rfl⟩:∃ k:Nat,n=k:=⟨n.toNat,by omega⟩;have hk:b+k<=S.size:=by omega
  have hki:(b:Int)+(k:Int)<=(S.size:Int):=by omega
  have hkl:(b:Int)<=(b:Int)+(k:Int):=by omega
  have haw:IntKind.i64.wrap ((b:Int)+(k:Int))=(b:Int)+(k:Int):=IntWalk.i64_in _ (by omega);have hx:=hex.out b k;replace hG:=hid hG;go_wp2_with fail
  go_ret3
  refine ⟨rfl,?_⟩;rw [hR.out,hG.out];refine ⟨b+k,by omega,by have:=hSs.out;omega,?_,?_⟩
  ·show r.drop (k:Int).toNat=t.drop (b+k)
   rw [hrb.out,List.drop_drop,Int.toNat_natCast]
  ·show Ending.returned (.tuple #[.string (S.extract b (b+k)),.int .i64 ((b:Int)+(k:Int)),.int .i64 0])=.returned (.tuple #[.string ⟨(r.take (k:Int).toNat).toArray⟩,.int .i64 ((b+k:Nat):Int),.int .i64 0])
   rw [hx,hrb.out,Int.toNat_natCast]
   rfl
theorem zjj:∀ (l:List Int) cs fr,(Obj.cells (l.flatMap zd1).toArray 3 (0,0)) ≠ .cells cs u8T fr:=by
 intro l cs fr e;injection e with _ e _
 exact absurd e (by decide)
theorem zaR.block {W:World} {k:Nat} {cs:List Value} {t:TypeId} (h:W.heap[k]?=some (.cells cs.toArray t (0,0))):zaR W (some ⟨k,0,none⟩) cs:=fun j u hu=>by
 refine ⟨k,0,rfl,?_⟩
 rw [Nat.zero_add,zaa h j]
 simpa using hu
theorem zkC {B b k:Nat} {l:List Int} {w W:World} (hk:w.heap[k]?=some (.cells (l.flatMap zd1).toArray 3 (0,0))) (hb:k ≠ b) (K:za4 B b w W) (hl:l.length<=1000000):
  zaF (fun _=>True) W (.slice (some ⟨k,0,none⟩) l.length l.length) l:=
 ⟨some ⟨k,0,none⟩,l.length,rfl,zaR.block (K.2 k _ hk (zjj l) hb),fun _ _ _ _=>trivial,Nat.le_refl _,⟨by omega,by omega⟩,fun e=>nomatch e⟩
theorem zck (B b:Nat) (tx:Bs) (l:List Int) (hl:∀ x ∈ l,-4611686018427387903<=x/\x<=4611686018427387903) (w:World) (h:Bld B b tx w) (k n m:Nat) (cs:Array Value) (hk:w.heap.size=k) (hn:l.length=n) (hm:l.length=m) (hcs:(l.flatMap zd1).toArray=cs) (hlen:tx.length+10*l.length<=1000000):
  Calls Tryz.prog 206 #[.pointer (some ⟨b,0,none⟩),.slice (some ⟨k,0,none⟩) n m] (w.alloc (.cells cs 3)) fun e w'=>e=.returned (.tuple #[])/\Bld B b (tx++zaE l) w'/\za4 B b w w':=by
 subst hk hn hcs;rw [<- hm];have hx:=Mod.alloc (Mod.refl (fun _=>False) w) (.cells (l.flatMap zd1).toArray 3);have hb:=h.lt;refine (zeH B b tx _ l hl _ (h.ext hx) (fun W K=>zkC (heap_alloc_new w _) (by omega) K (by omega)) (by omega)).mono ?_;rintro e w' ⟨rfl,h1,h2⟩;exact ⟨rfl,h1,za4.pre hx h2⟩
theorem zaD.below {B:Nat} {w w':World} {v:Value} {l:List Bk} (h:zaD (fun k=>k < B) w v l) (hm:Mod (fun k=>B<=k) w w'):zaD (fun k=>k < B) w' v l:=h.mod hm (fun k h1 h2=>by omega)
theorem zai.below {α:Type} {f:α -> List Value} {B:Nat} {w w':World} {v:Value} {l:List α} (h:zai (fun k=>k < B) w f v l) (hm:Mod (fun k=>B<=k) w w'):zai (fun k=>k < B) w' f v l:=h.mod hm (fun k h1 h2=>by omega)
theorem zce {cs':Array Value}:∀ cs fr,(Obj.cells cs' 118 (0,0)) ≠ .cells cs u8T fr:=by
 intro cs fr e;injection e with _ e _
 exact absurd e (by decide)
theorem zaG {B:Nat} {w w':World} (hB:w.heap.size<=B) (h:Mod (fun k=>B<=k) w w'):Ext w w':=h.mono' (fun k h1 h2=>by omega)
theorem zgG (a b:List Int):zaE (a++b)=zaE a++zaE b:=by unfold zaE;simp
theorem zaI:∀ l:List Int,(zaE l).length<=10*l.length
 | []=>by simp [zaE]
 | x::r=>by
  have h1:=zaI r;have h2:=zau x;have:zaE (x::r)=zbs x++zaE r:=by simp [zaE]
  rw [this];simp;omega
theorem zik (v:Value) (l:List Bk) (w:World) (h:zaD (fun k=>k < w.heap.size) w v l) (hv:zdt l=true):
  Calls Tryz.prog 178 #[v] w fun e w'=>e=.returned (.tuple #[.string ⟨(zcL l).toArray⟩,.int .i64 0])/\Ext w w':=by
 obtain ⟨tz,htz⟩:∃ tz,tz=zcL l:=⟨_,rfl⟩;rw [<- htz];have hgood:=hid (zdn hv);have hl24:=hgood.out.1;have hvl:=hid (fun W (hX:Ext w W)=>zbQ v l W (h.ext hX));rw [hv] at hvl;replace htz:tz=zbs l.length++l.flatMap zgP:=by rw [htz,zcL,if_pos hv]
 obtain ⟨ao,cap,rfl⟩:=h.slice;obtain ⟨n,hn⟩:∃ n,n=l.length:=⟨_,rfl⟩;rw [<- hn] at h hl24 htz hvl ⊢;replace hn:=hid hn;replace h:=hid h;replace htz:=hid htz;have hw0:=hid (Mod.refl (fun _=>False) w);go_enter Tryz.func178,Tryz.ntmps178;go_wp2_with fail
 refine (hvl.out w hw0.out).mono ?_;rintro e w1 ⟨rfl,hx1⟩;replace hx1:=hid hx1;clear hvl;go_wp2_with fail
 have hb0:=Bld.fresh w1;have hxb:=Mod.alloc (Mod.refl (fun _=>False) w1) (.cells #[.pointer none,.slice none 0 0] zfT);refine (zck w1.heap.size w1.heap.size [] [(n:Int)] (by intro x hx;simp at hx;omega) _ hb0 _ _ _ _ (by rw [World.size_alloc]) rfl rfl rfl (by simp)).mono ?_;rintro e w2 ⟨rfl,hB2,hK2⟩;clear hb0;have hw2:=hid (zaG (Nat.le_refl _) (((hxb.mono (T:=fun k=>w1.heap.size<=k) (fun _ h=>h.elim))).trans hK2.1));have hw2:=hid (hx1.out.trans hw2.out);have hs1:w.heap.size<=w1.heap.size:=hx1.out.size;generalize w1.heap.size=B at hB2 hK2 hs1 ⊢;replace hB2:=hid hB2;clear hK2 hxb hx1;go_wp2_with fail
 go_loopg [18] n (fun g i wr=>∃ (j:Nat) (ty:Bs),j+g=n/\i=.int .i64 j/\Bld B B ty wr/\za4 B B w2 wr/\tz=ty++(l.drop j).flatMap zgP/\ty.length<=10+2000*j)
 case atStart=>exact ⟨0,zbs n,by omega,rfl,by simpa [zaE] using hB2.out,za4.refl _ _ _,htz.out,by have:=zau (n:Int);omega⟩
 case round=>
  clear htz hB2;obtain ⟨j,ty,hj,rfl,hB,hK,ht,hlen⟩:=hrel;replace hj:=hid hj
  by_cases hlt:j < n
  ·have hdi:(j:Int) < (n:Int):=by omega
   have hd:decide ((j:Int) < (n:Int))=true:=decide_eq_true hdi;have hjl:j < l.length:=by have:=hn.out;omega
   have hm:Mod (fun k=>B<=k) w wr:=(hw2.out.mono (T:=fun k=>B<=k) (fun _ h=>h.elim)).trans hK.1;obtain ⟨b1,o1,a1,m1,c1,rfl,-,hF1,hI1,g0,g1,g2,g3,g4,g5,g6,g7,g8⟩:=(h.out.mod hm (fun k h1 h2=>by omega)).cells hjl;have hgb:=hgood.out.2 l[j] (List.getElem_mem _);rw [List.drop_eq_getElem_cons hjl] at ht;generalize l[j]=bb at g0 g1 g2 g3 g4 g5 g7 g8 hI1 hgb ht;obtain ⟨i1,k1,x1,s1,r1,t1,y1,p1,q1⟩:=bb;simp only at g0 g1 g2 g3 g4 g5 g6 g7 g8 hI1;have hm1:m1=y1.length:=by
    obtain ⟨_,_,e⟩:=hI1.slice;injection e
   obtain ⟨hg1,hg2,hg3,hg4,hg5,⟨hg6,hg7,hg8,hg9,hg10⟩⟩:=hgb;simp only at hg1 hg2 hg3 hg4 hg5 hg6 hg7 hg8 hg9 hg10;have hm64:m1<=64:=by omega
   have hq1:=hid (show ∀ x ∈ [i1,k1],-4611686018427387903<=x/\x<=4611686018427387903 by intro x hx;simp at hx;omega);have hq2:=hid (show ∀ x ∈ [s1,r1,t1,(m1:Int)],-4611686018427387903<=x/\x<=4611686018427387903 by intro x hx;simp at hx;omega);have hq3:=hid (show ∀ x ∈ y1,-4611686018427387903<=x/\x<=4611686018427387903 by intro x hx;have:=hg10 x hx;omega);have hq4:=hid (show ∀ x ∈ [p1,q1],-4611686018427387903<=x/\x<=4611686018427387903 by intro x hx;simp at hx;omega);clear hg1 hg2 hg4 hg5 hg6 hg7 hg8 hg10;have ht2:tz=((((((ty++zaE [i1,k1])++zeL x1)++zaE [s1,r1,t1,(m1:Int)])++zaE y1)++zaE [p1,q1]))++(l.drop (j+1)).flatMap zgP:=by
    rw [ht,hm1];simp [zgP,zaE]
   clear ht;have l1:=zaI [i1,k1];have l2:=zbS x1;have l3:=zaI [s1,r1,t1,(m1:Int)];have l4:=zaI y1;have l5:=zaI [p1,q1];simp only [List.length_cons,List.length_nil] at l1 l3 l5;have hjn:j < 24:=by omega
   have hxT:=Mod.alloc (Mod.refl (fun _=>False) wr) (.cells #[.int .i64 i1,.int .i64 k1,.string ⟨x1.toArray⟩,.int .i64 s1,.int .i64 r1,.int .i64 t1,.slice a1 m1 c1,.int .i64 p1,.int .i64 q1] 118);have hT:=heap_alloc_new wr (.cells #[.int .i64 i1,.int .i64 k1,.string ⟨x1.toArray⟩,.int .i64 s1,.int .i64 r1,.int .i64 t1,.slice a1 m1 c1,.int .i64 p1,.int .i64 q1] 118);have hBl:=hB.lt;have hBT:=hB.ext hxT;have hKT:=hK.ext hxT;replace hB:=hid hB;replace hlen:=hid hlen;replace ht2:=hid ht2;replace hm1:=hid hm1;replace hI1:=hid hI1;replace hK:=hid hK;replace hm:=hid hm;replace l1:=hid l1;replace l2:=hid l2;replace l3:=hid l3;replace l4:=hid l4;replace l5:=hid l5;have hg3:=hid hg3;have hg9:=hid hg9;go_upto_region 8 with fail
   have hTB:wr.heap.size ≠ B:=by omega
   generalize wr.heap.size=T at hT hTB ⊢;generalize (wr.alloc (.cells #[.int .i64 i1,.int .i64 k1,.string ⟨x1.toArray⟩,.int .i64 s1,.int .i64 r1,.int .i64 t1,.slice a1 m1 c1,.int .i64 p1,.int .i64 q1] 118))=wa at hxT hT hBT hKT ⊢;clear g0 g1 g2 g3 g4 g5 g6 g7 g8;replace hT:=hid hT;have hIa:=hid (hI1.out.ext hxT);replace hxT:=hid hxT;have f0:wa.cell? ⟨T,0,none⟩=some (.int .i64 i1):=zaa hT.out 0;have f1:wa.cell? ⟨T,1,none⟩=some (.int .i64 k1):=zaa hT.out 1;have f2:wa.cell? ⟨T,2,none⟩=some (.string ⟨x1.toArray⟩):=zaa hT.out 2;have f3:wa.cell? ⟨T,3,none⟩=some (.int .i64 s1):=zaa hT.out 3;have f4:wa.cell? ⟨T,4,none⟩=some (.int .i64 r1):=zaa hT.out 4;have f5:wa.cell? ⟨T,5,none⟩=some (.int .i64 t1):=zaa hT.out 5;have f6:wa.cell? ⟨T,6,none⟩=some (.slice a1 m1 c1):=zaa hT.out 6;have f7:wa.cell? ⟨T,7,none⟩=some (.int .i64 p1):=zaa hT.out 7;have f8:wa.cell? ⟨T,8,none⟩=some (.int .i64 q1):=zaa hT.out 8;go_wp2_with fail
   refine (zck B B ty [i1,k1] hq1.out _ hBT _ _ _ _ rfl rfl rfl rfl (by have:=hlen.out;have:=l1.out;have:=l2.out;have:=l3.out;have:=l4.out;have:=hg3.out;have:=hg9.out;simp only [List.length_cons,List.length_nil];omega)).mono ?_;rintro e w4 ⟨rfl,hBN,hKN⟩;have hT2:=hid (hKN.2 T _ hT.out zce hTB);clear f0 f1 f2 f3 f4 f5 f6 f7 f8;have hK2:=hKT.trans hKN;have hI2:=hid (hIa.out.mod hKN.1 (fun k h1 h2=>by omega));clear hT hBT hKT hIa;have hT:=hT2;have hBT:=hBN;have hKT:=hK2;have hIa:=hI2;clear hKN hT2 hBN hK2 hI2;have f0:w4.cell? ⟨T,0,none⟩=some (.int .i64 i1):=zaa hT.out 0;have f1:w4.cell? ⟨T,1,none⟩=some (.int .i64 k1):=zaa hT.out 1;have f2:w4.cell? ⟨T,2,none⟩=some (.string ⟨x1.toArray⟩):=zaa hT.out 2;have f3:w4.cell? ⟨T,3,none⟩=some (.int .i64 s1):=zaa hT.out 3;have f4:w4.cell? ⟨T,4,none⟩=some (.int .i64 r1):=zaa hT.out 4;have f5:w4.cell? ⟨T,5,none⟩=some (.int .i64 t1):=zaa hT.out 5;have f6:w4.cell? ⟨T,6,none⟩=some (.slice a1 m1 c1):=zaa hT.out 6;have f7:w4.cell? ⟨T,7,none⟩=some (.int .i64 p1):=zaa hT.out 7;have f8:w4.cell? ⟨T,8,none⟩=some (.int .i64 q1):=zaa hT.out 8;go_wp2_with fail
   refine (zdl x1 (by have:=hg3.out;omega) _).mono ?_;rintro e w5 ⟨rfl,hx5⟩;have hKN:=za4.ofExt (B:=B) (b:=B) hx5;have hBN:=hBT.ext hx5;have hT2:=hid (hKN.2 T _ hT.out zce hTB);clear f0 f1 f2 f3 f4 f5 f6 f7 f8;have hK2:=hKT.trans hKN;have hI2:=hid (hIa.out.mod hKN.1 (fun k h1 h2=>by omega));clear hT hBT hKT hIa;have hT:=hT2;have hBT:=hBN;have hKT:=hK2;have hIa:=hI2;clear hKN hT2 hBN hK2 hI2;have f0:w5.cell? ⟨T,0,none⟩=some (.int .i64 i1):=zaa hT.out 0;have f1:w5.cell? ⟨T,1,none⟩=some (.int .i64 k1):=zaa hT.out 1;have f2:w5.cell? ⟨T,2,none⟩=some (.string ⟨x1.toArray⟩):=zaa hT.out 2;have f3:w5.cell? ⟨T,3,none⟩=some (.int .i64 s1):=zaa hT.out 3;have f4:w5.cell? ⟨T,4,none⟩=some (.int .i64 r1):=zaa hT.out 4;have f5:w5.cell? ⟨T,5,none⟩=some (.int .i64 t1):=zaa hT.out 5;have f6:w5.cell? ⟨T,6,none⟩=some (.slice a1 m1 c1):=zaa hT.out 6;have f7:w5.cell? ⟨T,7,none⟩=some (.int .i64 p1):=zaa hT.out 7;have f8:w5.cell? ⟨T,8,none⟩=some (.int .i64 q1):=zaa hT.out 8;go_wp2_with fail
   refine (zdy B B _ ⟨(zeL x1).toArray⟩ w5 hBT (by have:=hlen.out;have:=l1.out;have:=l2.out;have:=hg3.out;rw [zaS];simp only [List.length_append];omega)).mono ?_;rintro e w6 ⟨rfl,hBN,hKN⟩;have hT2:=hid (hKN.2 T _ hT.out zce hTB);clear f0 f1 f2 f3 f4 f5 f6 f7 f8;have hK2:=hKT.trans hKN;have hI2:=hid (hIa.out.mod hKN.1 (fun k h1 h2=>by omega));clear hT hBT hKT hIa;have hT:=hT2;have hBT:=hBN;have hKT:=hK2;have hIa:=hI2;clear hKN hT2 hBN hK2 hI2;have f0:w6.cell? ⟨T,0,none⟩=some (.int .i64 i1):=zaa hT.out 0;have f1:w6.cell? ⟨T,1,none⟩=some (.int .i64 k1):=zaa hT.out 1;have f2:w6.cell? ⟨T,2,none⟩=some (.string ⟨x1.toArray⟩):=zaa hT.out 2;have f3:w6.cell? ⟨T,3,none⟩=some (.int .i64 s1):=zaa hT.out 3;have f4:w6.cell? ⟨T,4,none⟩=some (.int .i64 r1):=zaa hT.out 4;have f5:w6.cell? ⟨T,5,none⟩=some (.int .i64 t1):=zaa hT.out 5;have f6:w6.cell? ⟨T,6,none⟩=some (.slice a1 m1 c1):=zaa hT.out 6;have f7:w6.cell? ⟨T,7,none⟩=some (.int .i64 p1):=zaa hT.out 7;have f8:w6.cell? ⟨T,8,none⟩=some (.int .i64 q1):=zaa hT.out 8;go_wp2_with fail
   refine (zck B B _ [s1,r1,t1,(m1:Int)] hq2.out _ hBT _ _ _ _ rfl rfl rfl rfl (by have:=hlen.out;have:=l1.out;have:=l2.out;have:=l3.out;have:=l4.out;have:=hg3.out;have:=hg9.out;simp only [List.length_append,List.length_cons,List.length_nil];omega)).mono ?_;rintro e w7 ⟨rfl,hBN,hKN⟩;have hT2:=hid (hKN.2 T _ hT.out zce hTB);clear f0 f1 f2 f3 f4 f5 f6 f7 f8;have hK2:=hKT.trans hKN;have hI2:=hid (hIa.out.mod hKN.1 (fun k h1 h2=>by omega));clear hT hBT hKT hIa;have hT:=hT2;have hBT:=hBN;have hKT:=hK2;have hIa:=hI2;clear hKN hT2 hBN hK2 hI2;have f0:w7.cell? ⟨T,0,none⟩=some (.int .i64 i1):=zaa hT.out 0;have f1:w7.cell? ⟨T,1,none⟩=some (.int .i64 k1):=zaa hT.out 1;have f2:w7.cell? ⟨T,2,none⟩=some (.string ⟨x1.toArray⟩):=zaa hT.out 2;have f3:w7.cell? ⟨T,3,none⟩=some (.int .i64 s1):=zaa hT.out 3;have f4:w7.cell? ⟨T,4,none⟩=some (.int .i64 r1):=zaa hT.out 4;have f5:w7.cell? ⟨T,5,none⟩=some (.int .i64 t1):=zaa hT.out 5;have f6:w7.cell? ⟨T,6,none⟩=some (.slice a1 m1 c1):=zaa hT.out 6;have f7:w7.cell? ⟨T,7,none⟩=some (.int .i64 p1):=zaa hT.out 7;have f8:w7.cell? ⟨T,8,none⟩=some (.int .i64 q1):=zaa hT.out 8;go_wp2_with fail
   refine (zeH B B _ (.slice a1 m1 c1) y1 hq3.out w7 hBT (fun W K=>(hIa.out.mod K.1 (fun k h1 h2=>by omega)).mono (fun _ _=>trivial)) (by have:=hlen.out;have:=l1.out;have:=l2.out;have:=l3.out;have:=hg3.out;have:=hg9.out;simp only [List.length_append];omega)).mono ?_;rintro e w8 ⟨rfl,hBN,hKN⟩;have hT2:=hid (hKN.2 T _ hT.out zce hTB);clear f0 f1 f2 f3 f4 f5 f6 f7 f8;have hK2:=hKT.trans hKN;have hI2:=hid (hIa.out.mod hKN.1 (fun k h1 h2=>by omega));clear hT hBT hKT hIa;have hT:=hT2;have hBT:=hBN;have hKT:=hK2;have hIa:=hI2;clear hKN hT2 hBN hK2 hI2;have f0:w8.cell? ⟨T,0,none⟩=some (.int .i64 i1):=zaa hT.out 0;have f1:w8.cell? ⟨T,1,none⟩=some (.int .i64 k1):=zaa hT.out 1;have f2:w8.cell? ⟨T,2,none⟩=some (.string ⟨x1.toArray⟩):=zaa hT.out 2;have f3:w8.cell? ⟨T,3,none⟩=some (.int .i64 s1):=zaa hT.out 3;have f4:w8.cell? ⟨T,4,none⟩=some (.int .i64 r1):=zaa hT.out 4;have f5:w8.cell? ⟨T,5,none⟩=some (.int .i64 t1):=zaa hT.out 5;have f6:w8.cell? ⟨T,6,none⟩=some (.slice a1 m1 c1):=zaa hT.out 6;have f7:w8.cell? ⟨T,7,none⟩=some (.int .i64 p1):=zaa hT.out 7;have f8:w8.cell? ⟨T,8,none⟩=some (.int .i64 q1):=zaa hT.out 8;go_wp2_with fail
   refine (zck B B _ [p1,q1] hq4.out _ hBT _ _ _ _ rfl rfl rfl rfl (by have:=hlen.out;have:=l1.out;have:=l2.out;have:=l3.out;have:=l4.out;have:=hg3.out;have:=hg9.out;simp only [List.length_append,List.length_cons,List.length_nil];omega)).mono ?_;rintro e w9 ⟨rfl,hBN,hKN⟩;have hT2:=hid (hKN.2 T _ hT.out zce hTB);clear f0 f1 f2 f3 f4 f5 f6 f7 f8;have hK2:=hKT.trans hKN;have hI2:=hid (hIa.out.mod hKN.1 (fun k h1 h2=>by omega));clear hT hBT hKT hIa;have hT:=hT2;have hBT:=hBN;have hKT:=hK2;have hIa:=hI2;clear hKN hT2 hBN hK2 hI2;replace hBT:=hid hBT;replace hKT:=hid hKT;go_wp2_with fail
   go_roundg (gk - 1)
   case measure=>have:=hj.out;omega
   case rel=>exact ⟨j+1,_,by have:=hj.out;omega,by go_num,hBT.out,hKT.out,ht2.out,by have:=hlen.out;have:=l1.out;have:=l2.out;have:=l3.out;have:=l4.out;have:=l5.out;have:=hg3.out;have:=hg9.out;simp only [List.length_append];omega⟩
  ·obtain rfl:j=n:=by have:=hj.out;omega
   have hdi:¬ (j:Int) < (j:Int):=by omega
   have hd:decide ((j:Int) < (j:Int))=false:=decide_eq_false hdi;rw [List.drop_eq_nil_of_le (by have:=hn.out;omega)] at ht;have hBl:=hB.lt;have hm:Mod (fun k=>B<=k) w wr:=(hw2.out.mono (T:=fun k=>B<=k) (fun _ h=>h.elim)).trans hK.1;replace ht:=hid ht;replace hm:=hid hm;have hst:=hid (zfN B B ty wr hB);clear hB hK;go_wp2_with fail
   refine hst.out.mono ?_;rintro e w4 ⟨rfl,hm4⟩;replace hm4:=hid hm4;go_wp2_with fail
   go_ret2
   exact ⟨by rw [ht.out];simp,zaG hs1 (hm.out.trans hm4.out)⟩
theorem zm3 (a0 a1 a2 a3 a4 a5:Value) (W:World):(Instr.index 156 (.agg #[a0,a1,a2,a3,a4,a5]) (.int .i64 0)).run Tryz.prog W=.ok a0 W:=by kernel_rfl
theorem znr (a0 a1 a2 a3 a4 a5:Value) (W:World):(Instr.index 156 (.agg #[a0,a1,a2,a3,a4,a5]) (.int .i64 1)).run Tryz.prog W=.ok a1 W:=by kernel_rfl
theorem zmZ (a0 a1 a2 a3 a4 a5:Value) (W:World):(Instr.index 156 (.agg #[a0,a1,a2,a3,a4,a5]) (.int .i64 2)).run Tryz.prog W=.ok a2 W:=by kernel_rfl
theorem zm4 (a0 a1 a2 a3 a4 a5:Value) (W:World):(Instr.index 156 (.agg #[a0,a1,a2,a3,a4,a5]) (.int .i64 3)).run Tryz.prog W=.ok a3 W:=by kernel_rfl
theorem znD (a0 a1 a2 a3 a4 a5:Value) (W:World):(Instr.index 156 (.agg #[a0,a1,a2,a3,a4,a5]) (.int .i64 4)).run Tryz.prog W=.ok a4 W:=by kernel_rfl
theorem znh (a0 a1 a2 a3 a4 a5:Value) (W:World):(Instr.index 156 (.agg #[a0,a1,a2,a3,a4,a5]) (.int .i64 5)).run Tryz.prog W=.ok a5 W:=by kernel_rfl
theorem zfy (m:Ms) (w:World) (hG:Gl w) (hv:vMs m=true):Calls Tryz.prog 149 #[.agg (msC m).toArray] w fun e w'=>e=.returned (.tuple #[.string ⟨(zgM m).toArray⟩,.int .i64 0])/\Ext w w':=by
 obtain ⟨tz,htz⟩:∃ tz,tz=zgM m:=⟨_,rfl⟩;rw [<- htz];have hgood:=zd0 hv;have hvl:=hid (fun W=>zcH m W);rw [hv] at hvl;replace htz:tz=zbs (crc (zbV m))++zbV m:=by rw [htz,zgM,if_pos hv]
 obtain ⟨L,hL⟩:∃ L,L=[m.kd,m.pa,m.sq,m.st,m.ba,m.ve]:=⟨_,rfl⟩;have hr:∀ x ∈ L,-4611686018427387903<=x/\x<=4611686018427387903:=by
  rw [hL];intro x hx;obtain ⟨g1,g2,g3,g4,g5,g6,g7⟩:=hgood;simp at hx;omega
 have hda:m.da.length<=16384:=hgood.da;obtain ⟨bz,hbz⟩:∃ bz,bz=zbV m:=⟨_,rfl⟩;have hbz2:bz=zaE L++zeL m.da:=by rw [hbz,hL];rfl
 rw [<- hbz] at htz;have hblen:bz.length<=20000:=by
  rw [hbz2];have h1:=zaI L;have h2:=zbS m.da;have h3:L.length=6:=by rw [hL];rfl
  simp only [List.length_append];omega
 clear hgood hbz;obtain ⟨kd,pa,sq,st,ba,ve,da⟩:=m;simp only at hL hda hbz2;unfold msC zbR at hvl ⊢;simp only at hvl ⊢;have hx0:=Mod.alloc (Mod.refl (fun _=>False) w) (.cells #[.int .i64 kd,.int .i64 pa,.int .i64 sq,.int .i64 st,.int .i64 ba,.int .i64 ve,.string ⟨da.toArray⟩] 30);have hT:=heap_alloc_new w (.cells #[.int .i64 kd,.int .i64 pa,.int .i64 sq,.int .i64 st,.int .i64 ba,.int .i64 ve,.string ⟨da.toArray⟩] 30);replace htz:=hid htz;replace hr:=hid hr;replace hL:=hid hL;replace hbz2:=hid hbz2;replace hblen:=hid hblen;replace hda:=hid hda;replace hx0:=hid hx0;replace hT:=hid hT;replace hG:=hid hG;go_enter Tryz.func149,Tryz.ntmps149;go_wp2_with fail
 refine (hvl.out _).mono ?_;rintro e w1 ⟨rfl,hx1⟩;have hT1:=hx1.at hT.out (fun h=>h);have hx2:=hx0.out.trans hx1;clear hx0 hx1 hT hvl;generalize w.heap.size=T at hT1 ⊢;have f0:w1.cell? ⟨T,0,none⟩=some (.int .i64 kd):=zaa hT1 0;have f1:w1.cell? ⟨T,1,none⟩=some (.int .i64 pa):=zaa hT1 1;have f2:w1.cell? ⟨T,2,none⟩=some (.int .i64 sq):=zaa hT1 2;have f3:w1.cell? ⟨T,3,none⟩=some (.int .i64 st):=zaa hT1 3;have f4:w1.cell? ⟨T,4,none⟩=some (.int .i64 ba):=zaa hT1 4;have f5:w1.cell? ⟨T,5,none⟩=some (.int .i64 ve):=zaa hT1 5;have f6:w1.cell? ⟨T,6,none⟩=some (.string ⟨da.toArray⟩):=zaa hT1 6;replace hx2:=hid hx2;go_wp2_with fail
 go_loopg [4,29] 6 (fun g body i wr=>∃ (j:Nat) (ty:Bs),j+g=6/\i=.int .i64 j/\body=.string ⟨ty.toArray⟩/\Ext w1 wr/\zaE L=ty++zaE (L.drop j)/\ty.length<=10*j)
 case atStart=>exact ⟨0,[],by omega,rfl,rfl,Mod.refl _ _,rfl,by simp⟩
 case round=>
  clear f0 f1 f2 f3 f4 f5 f6;obtain ⟨j,ty,hj,rfl,rfl,hx,ht,hlen⟩:=hrel;have hj6:j=0 \/ j=1 \/ j=2 \/ j=3 \/ j=4 \/ j=5 \/ j=6:=by omega
  replace hx:=hid hx;rcases hj6 with rfl | rfl | rfl | rfl | rfl | rfl | rfl
  ·have e1:L.drop 0=kd::L.drop 1:=by rw [hL.out];rfl
   have hxr:=hr.out kd (by rw [hL.out];simp);have hpi:=hid (zbn kd hxr.1 hxr.2);have h10:=zau kd;have ht2:zaE L=(ty++zbs kd)++zaE (L.drop 1):=by rw [ht,e1];simp [zaE]
   generalize zbs kd=ci at*;have hsum:(⟨ty.toArray⟩:ByteArray).size+(⟨ci.toArray⟩:ByteArray).size<=1000000:=by simp only [zaS];omega
   have hcat:=zba ty ci;replace ht2:=hid ht2;replace hlen:=hid hlen;replace h10:=hid h10;replace hj:=hid hj;clear ht e1 hxr;have hix:=zm3 (.int .i64 kd) (.int .i64 pa) (.int .i64 sq) (.int .i64 st) (.int .i64 ba) (.int .i64 ve) wr;go_wp2_with fail
   refine (hpi.out _).mono ?_;rintro e w2 ⟨rfl,hx3⟩;have hx3:=hid (hx.out.trans hx3);go_wp2_with fail
   go_roundg 5
   case measure=>have:=hj.out;omega
   case rel=>exact ⟨1,ty++ci,by omega,rfl,by simp,hx3.out,ht2.out,by have:=hlen.out;have:=h10.out;simp only [List.length_append];omega⟩
  ·have e1:L.drop 1=pa::L.drop 2:=by rw [hL.out];rfl
   have hxr:=hr.out pa (by rw [hL.out];simp);have hpi:=hid (zbn pa hxr.1 hxr.2);have h10:=zau pa;have ht2:zaE L=(ty++zbs pa)++zaE (L.drop 2):=by rw [ht,e1];simp [zaE]
   generalize zbs pa=ci at*;have hsum:(⟨ty.toArray⟩:ByteArray).size+(⟨ci.toArray⟩:ByteArray).size<=1000000:=by simp only [zaS];omega
   have hcat:=zba ty ci;replace ht2:=hid ht2;replace hlen:=hid hlen;replace h10:=hid h10;replace hj:=hid hj;clear ht e1 hxr;have hix:=znr (.int .i64 kd) (.int .i64 pa) (.int .i64 sq) (.int .i64 st) (.int .i64 ba) (.int .i64 ve) wr;go_wp2_with fail
   refine (hpi.out _).mono ?_;rintro e w2 ⟨rfl,hx3⟩;have hx3:=hid (hx.out.trans hx3);go_wp2_with fail
   go_roundg 4
   case measure=>have:=hj.out;omega
   case rel=>exact ⟨2,ty++ci,by omega,rfl,by simp,hx3.out,ht2.out,by have:=hlen.out;have:=h10.out;simp only [List.length_append];omega⟩
  ·have e1:L.drop 2=sq::L.drop 3:=by rw [hL.out];rfl
   have hxr:=hr.out sq (by rw [hL.out];simp);have hpi:=hid (zbn sq hxr.1 hxr.2);have h10:=zau sq;have ht2:zaE L=(ty++zbs sq)++zaE (L.drop 3):=by rw [ht,e1];simp [zaE]
   generalize zbs sq=ci at*;have hsum:(⟨ty.toArray⟩:ByteArray).size+(⟨ci.toArray⟩:ByteArray).size<=1000000:=by simp only [zaS];omega
   have hcat:=zba ty ci;replace ht2:=hid ht2;replace hlen:=hid hlen;replace h10:=hid h10;replace hj:=hid hj;clear ht e1 hxr;have hix:=zmZ (.int .i64 kd) (.int .i64 pa) (.int .i64 sq) (.int .i64 st) (.int .i64 ba) (.int .i64 ve) wr;go_wp2_with fail
   refine (hpi.out _).mono ?_;rintro e w2 ⟨rfl,hx3⟩;have hx3:=hid (hx.out.trans hx3);go_wp2_with fail
   go_roundg 3
   case measure=>have:=hj.out;omega
   case rel=>exact ⟨3,ty++ci,by omega,rfl,by simp,hx3.out,ht2.out,by have:=hlen.out;have:=h10.out;simp only [List.length_append];omega⟩
  ·have e1:L.drop 3=st::L.drop 4:=by rw [hL.out];rfl
   have hxr:=hr.out st (by rw [hL.out];simp);have hpi:=hid (zbn st hxr.1 hxr.2);have h10:=zau st;have ht2:zaE L=(ty++zbs st)++zaE (L.drop 4):=by rw [ht,e1];simp [zaE]
   generalize zbs st=ci at*;have hsum:(⟨ty.toArray⟩:ByteArray).size+(⟨ci.toArray⟩:ByteArray).size<=1000000:=by simp only [zaS];omega
   have hcat:=zba ty ci;replace ht2:=hid ht2;replace hlen:=hid hlen;replace h10:=hid h10;replace hj:=hid hj;clear ht e1 hxr;have hix:=zm4 (.int .i64 kd) (.int .i64 pa) (.int .i64 sq) (.int .i64 st) (.int .i64 ba) (.int .i64 ve) wr;go_wp2_with fail
   refine (hpi.out _).mono ?_;rintro e w2 ⟨rfl,hx3⟩;have hx3:=hid (hx.out.trans hx3);go_wp2_with fail
   go_roundg 2
   case measure=>have:=hj.out;omega
   case rel=>exact ⟨4,ty++ci,by omega,rfl,by simp,hx3.out,ht2.out,by have:=hlen.out;have:=h10.out;simp only [List.length_append];omega⟩
  ·have e1:L.drop 4=ba::L.drop 5:=by rw [hL.out];rfl
   have hxr:=hr.out ba (by rw [hL.out];simp);have hpi:=hid (zbn ba hxr.1 hxr.2);have h10:=zau ba;have ht2:zaE L=(ty++zbs ba)++zaE (L.drop 5):=by rw [ht,e1];simp [zaE]
   generalize zbs ba=ci at*;have hsum:(⟨ty.toArray⟩:ByteArray).size+(⟨ci.toArray⟩:ByteArray).size<=1000000:=by simp only [zaS];omega
   have hcat:=zba ty ci;replace ht2:=hid ht2;replace hlen:=hid hlen;replace h10:=hid h10;replace hj:=hid hj;clear ht e1 hxr;have hix:=znD (.int .i64 kd) (.int .i64 pa) (.int .i64 sq) (.int .i64 st) (.int .i64 ba) (.int .i64 ve) wr;go_wp2_with fail
   refine (hpi.out _).mono ?_;rintro e w2 ⟨rfl,hx3⟩;have hx3:=hid (hx.out.trans hx3);go_wp2_with fail
   go_roundg 1
   case measure=>have:=hj.out;omega
   case rel=>exact ⟨5,ty++ci,by omega,rfl,by simp,hx3.out,ht2.out,by have:=hlen.out;have:=h10.out;simp only [List.length_append];omega⟩
  ·have e1:L.drop 5=ve::L.drop 6:=by rw [hL.out];rfl
   have hxr:=hr.out ve (by rw [hL.out];simp);have hpi:=hid (zbn ve hxr.1 hxr.2);have h10:=zau ve;have ht2:zaE L=(ty++zbs ve)++zaE (L.drop 6):=by rw [ht,e1];simp [zaE]
   generalize zbs ve=ci at*;have hsum:(⟨ty.toArray⟩:ByteArray).size+(⟨ci.toArray⟩:ByteArray).size<=1000000:=by simp only [zaS];omega
   have hcat:=zba ty ci;replace ht2:=hid ht2;replace hlen:=hid hlen;replace h10:=hid h10;replace hj:=hid hj;clear ht e1 hxr;have hix:=znh (.int .i64 kd) (.int .i64 pa) (.int .i64 sq) (.int .i64 st) (.int .i64 ba) (.int .i64 ve) wr;go_wp2_with fail
   refine (hpi.out _).mono ?_;rintro e w2 ⟨rfl,hx3⟩;have hx3:=hid (hx.out.trans hx3);go_wp2_with fail
   go_roundg 0
   case measure=>have:=hj.out;omega
   case rel=>exact ⟨6,ty++ci,by omega,rfl,by simp,hx3.out,ht2.out,by have:=hlen.out;have:=h10.out;simp only [List.length_append];omega⟩
  ·rw [List.drop_eq_nil_of_le (by rw [hL.out];simp)] at ht
   have hTr:=hx.out.at hT1 (fun h=>h);have f6:wr.cell? ⟨T,6,none⟩=some (.string ⟨da.toArray⟩):=zaa hTr 6;have hps:=hid (zdl da (by have:=hda.out;omega));have hbz3:bz=ty++zeL da:=by rw [hbz2.out,ht];simp [zaE]
   have hsm:=hid (fun W (hW:Gl W)=>sum_any bz W hW (by have:=hblen.out;omega));have hcr:=zjA bz;have hpi:=hid (zbn (crc bz) (by omega) (by omega));have h10:=zau (crc bz);have hsum1:(⟨ty.toArray⟩:ByteArray).size+(⟨(zeL da).toArray⟩:ByteArray).size<=1000000:=by
    have:=hblen.out;rw [hbz3] at this;simp only [zaS,List.length_append] at this ⊢;omega
   have hsum2:(⟨(zbs (crc bz)).toArray⟩:ByteArray).size+(⟨bz.toArray⟩:ByteArray).size<=1000000:=by
    have:=hblen.out;simp only [zaS];omega
   have hcat:(⟨ty.toArray⟩:ByteArray)++⟨(zeL da).toArray⟩=⟨bz.toArray⟩:=by rw [zba,<- hbz3]
   generalize crc bz=cr at*;generalize zbs cr=ci at*;generalize zeL da=sd at*;replace ht:=hid ht;replace hbz3:=hid hbz3;replace hlen:=hid hlen;replace h10:=hid h10;clear hcr;go_wp2_with fail
   refine (hps.out _).mono ?_;rintro e w2 ⟨rfl,hx3⟩;go_wp2_with fail
   refine (hsm.out _ (hG.out.ext ((hx2.out.trans hx.out).trans hx3))).mono ?_;rintro e w3 ⟨rfl,rfl⟩;go_wp2_with fail
   refine (hpi.out _).mono ?_;rintro e w4 ⟨rfl,hx4⟩;go_wp2_with fail
   go_ret2
   refine ⟨?_,((hx2.out.trans hx.out).trans hx3).trans hx4⟩;rw [htz.out,<- zba]
   rfl
end Go.Proofs.YtjjfphalcibjfaaGreatDoor
namespace Cdk
open Go Go.RowKit
theorem zeD {α:Type} {P:Program} (f:α -> List Value) {base:Nat} {e:TypeId} {z:Value} {size bytes:Nat} {w:World} {ops:Array Oper} {rest:List Oper} {o:Oper} {a:Act} {Q:Exit -> Act -> World -> Prop} (hg:o.guard=none) (l c:Operand) (t:TypeId)
  (ho:o.op=Op.makeSlice t l c) (ht:P.underlying t=some (.slice e)) (el:El P e z size bytes) (n:Nat) (hl:a.eval l=.int .i64 0) (C:Int) (hc:a.eval c=.int .i64 C) (hC:C=(n:Int)) (hn:n<=137438953472) (hbase:base<=w.heap.size)
  (hK:∀ v w',Hid (Cdk.Own w' base e size f v ([]:List α)/\Ext w w') -> wpList P ops Q rest (a.put o.dst v) w'):wpList P ops Q (o::rest) a w:=by
 obtain ⟨i0,hi,hz0,hz1,hz2⟩:=info_parts el.row;refine wpList_make_own w hg l c t ho base e i0 z size ht hi hz0 hz1 .i64 .i64 C n hl hc hC ?_ ?_ hbase (fun w' h1 h2=>hK _ w' ⟨h1,Mod.ofGrown h2 (fun k hk=>by cases hk)⟩)
 ·rw [hz2]
  have:=el.small;exact Nat.le_trans (Nat.mul_le_mul this hn) (by decide)
 ·exact Nat.le_trans hn (by decide)
theorem zbC {α:Type} {f:α -> List Value} {e:TypeId} {size B:Nat} {w w2 w3:World} {v:Value} {xs:List α} (hx:Ext w w2) (h:Cdk.Own w2 B e size f v xs) (hB:w.heap.size<=B) (hm:Mod (fun k=>v.ownBlock=some k) w2 w3):Ext w w3:=
 ⟨hm.os.trans hx.os,hm.tape.trans hx.tape,hm.output.trans hx.output,Nat.le_trans hx.size hm.size,fun k hk hs=>(hm.block k (Nat.lt_of_lt_of_le hk hx.size) (fun e=>by have:=(h.block k e).1;omega)).trans (hx.block k hk hs)⟩
theorem zhu {α:Type} {f:α -> List Value} {e:TypeId} {size B:Nat} {w:World} {ao:Option Addr} {n cap:Nat} {xs:List α} (h:Cdk.Own w B e size f (.slice ao n cap) xs):n=xs.length/\n<=cap/\cap<=9223372036854775807/\(ao=none -> cap=0):=by
 rcases h.2 with ⟨hv,h0⟩ | ⟨g,c,cur,hv,h2,h3,h4,h5,h6⟩
 ·injection hv with e1 e2 e3
  subst e1 e2 e3;exact ⟨h0.symm,by omega,by omega,fun _=>rfl⟩
 ·injection hv with e1 e2 e3
  subst e1 e2 e3;exact ⟨rfl,h4,h5,fun e=>nomatch e⟩
end Cdk
namespace Go.Proofs.YtjjfphalcibjfaaGreatDoor
open Go.Shelf Go.RowKit Cdk Scr
theorem el9:El Tryz.prog 9 (.string .empty) 1 16:=⟨by kernel_rfl,rfl,by decide,by decide⟩
theorem zbk {w:World} {B:Nat} {v:Value} {l:List Bs} (h:Cdk.Own w B 9 1 zdj v l) (hl:l.length<=140737488355328):zbw (fun k=>B<=k/\k < w.heap.size) w v l:=by
 obtain ⟨ao,cap,rfl,h1,h2⟩:=h.row;obtain ⟨-,h3,h4,h5⟩:=zhu h;exact ⟨ao,cap,rfl,h1,fun b off e _=>h.block b (h2 b off e),h3,⟨hl,h4⟩,h5⟩
theorem zkx (s:Bs) (w:World):Calls Tryz.prog 180 #[.string ⟨s.toArray⟩] w fun e w'=>e=.returned (.string ⟨s.toArray⟩)/\Ext w w':=by
 go_enter Tryz.func180,Tryz.ntmps180;go_wp2_with fail
 go_ret;exact ⟨rfl,Mod.refl _ _⟩
theorem zbz (v:Value) (l:List Int) (hl:∀ x ∈ l,I64 x) (w:World) (hG:Gl w) (h:zai (fun k=>k < w.heap.size) w zd1 v l) (hn0:l.length<=1000) (hlen:(join 44 (l.map itoa)).length<=1000000):
  Calls Tryz.prog 137 #[v,.func (.func 107) #[] #[]] w fun e w'=>e=.returned (.string ⟨(listW (l.map itoa)).toArray⟩)/\Ext w w':=by
 obtain ⟨tz,htz⟩:∃ tz,tz=listW (l.map itoa):=⟨_,rfl⟩;rw [<- htz];obtain ⟨ao,cap,rfl⟩:=h.slice;obtain ⟨n,hn⟩:∃ n,n=l.length:=⟨_,rfl⟩;rw [<- hn] at h hn0 ⊢;have hce:=enters_of Tryz.func107 (by kernel_rfl) rfl;replace hlen:=hid hlen;replace hG:=hid hG;replace hl:=hid hl
 by_cases h0:n=0
 ·have hl:l=[]:=List.eq_nil_of_length_eq_zero (by omega)
  subst h0;replace htz:=hid (show tz=[42] by rw [htz,hl];rfl);clear hn;go_enter Tryz.func137,Tryz.ntmps137;go_wp2_with fail
  go_ret;exact ⟨by rw [htz.out];rfl,Mod.refl _ _⟩
 ·have hl:l ≠ []:=by intro e;subst e;simp at hn;omega
  replace htz:tz=join 44 (l.map itoa):=by rw [htz,listW,if_neg (by simpa using hl)]
  have hn1:((n:Int)==0)=false:=by rw [beq_eq_false_iff_ne];omega
  have hni:¬ (n:Int)=0:=by omega
  replace hn:=hid hn;replace h:=hid h;replace htz:=hid htz;clear hl;go_enter Tryz.func137,Tryz.ntmps137;go_wp2_with (at_make;refine zeD zdj rfl _ _ _ rfl Tryz.underlying22 el9 n rfl _ rfl rfl (by omega) (base:=w.heap.size) (Nat.le_refl _) (fun v1 w1 H1=>?_))
  obtain ⟨hO1,hx1⟩:=H1.out;obtain ⟨ao1,cap1,rfl,-⟩:=hO1.row;clear H1;replace hO1:=hid hO1;replace hx1:=hid hx1;simp only [List.length_nil];go_wp2_with fail
  go_loopg [5,16] n (fun g s i wr=>∃ (j:Nat) (av:Option Addr) (cv:Nat),j+g=n/\i=.int .i64 j/\s=.slice av j cv/\Cdk.Own wr w.heap.size 9 1 zdj (.slice av j cv) ((l.map itoa).take j)/\Ext w wr)
  case atStart=>exact ⟨0,ao1,cap1,by omega,rfl,rfl,hO1.out,hx1.out⟩
  case round=>
   clear hO1 hx1;obtain ⟨j,av,cv,hj,rfl,rfl,hO,hx⟩:=hrel;replace hj:=hid hj
   by_cases hlt:j < n
   ·have hdi:(j:Int) < (n:Int):=by omega
    have hd:decide ((j:Int) < (n:Int))=true:=decide_eq_true hdi;have hjl:j < l.length:=by have:=hn.out;omega
    obtain ⟨b',off,rfl,c0⟩:=zbA (h.out.ext hx) hjl;have htk:(l.map itoa).take (j+1)=(l.map itoa).take j++[itoa l[j]]:=by
     rw [List.take_succ_eq_append_getElem (by rw [List.length_map];omega)];rw [List.getElem_map]
    have hcl:=hid (fun W (hX:Ext w W)=>zaw l[j] (hl.out _ (List.getElem_mem _)) W (hG.out.ext hX));generalize l[j]=x at c0 hcl htk;generalize itoa x=tx at hcl htk;replace hO:=hid hO;replace hx:=hid hx;replace htk:=hid htk;go_wp2_with fail
    refine (hcl.out _ hx.out).mono ?_;rintro e w2 ⟨rfl,hx2⟩;have hO2:=hid (hO.out.ext hx2);have hx2:=hid (hx.out.trans hx2);clear hcl hO hx;have hsz:w.heap.size<=w2.heap.size:=hx2.out.size;have hlt2:((l.map itoa).take j).length<=1000:=by rw [List.length_take,List.length_map];omega
    replace hlt2:=hid hlt2;go_wp2_with (at_builtin;refine zaX rfl _ _ _ rfl Tryz.underlying22 el9 rfl (hO2.out.ext ((Mod.refl _ _).alloc _)) _ 1 1 rfl [tx] rfl (by exact zaR.new _ _ _) za5 (fun y hy u hu=>by simp only [List.mem_singleton] at hy;subst hy;simp [zdj] at hu;subst hu;rfl) (by have:=hlt2.out;simp only [List.length_singleton];omega) (by rw [World.size_alloc];omega) (fun e=>nomatch e) (fun v6 w6 H6=>?_);skip)
    obtain ⟨hO6,hm6⟩:=H6.out;have hx6:=hid (zbC (hx2.out.trans ((Mod.refl _ w2).alloc _)) (hO2.out.ext ((Mod.refl _ w2).alloc _)) (Nat.le_refl _) hm6);rw [<- htk.out] at hO6;obtain ⟨av6,cv6,rfl,-⟩:=hO6.row;have e6:((l.map itoa).take (j+1)).length=j+1:=by rw [List.length_take,List.length_map];omega
    rw [e6] at hO6 ⊢;clear H6 hm6 e6;replace hO6:=hid hO6;go_wp2_with fail
    go_roundg (gk - 1)
    case measure=>have:=hj.out;omega
    case rel=>exact ⟨j+1,av6,cv6,by have:=hj.out;omega,by go_num,rfl,hO6.out,hx6.out⟩
   ·obtain rfl:j=n:=by have:=hj.out;omega
    have hdi:¬ (j:Int) < (j:Int):=by omega
    have hd:decide ((j:Int) < (j:Int))=false:=decide_eq_false hdi;rw [List.take_of_length_le (by have:=hn.out;rw [List.length_map];omega)] at hO;have hrow:=zbk hO (by have:=hn.out;rw [List.length_map];omega);have hjn:=hid (zbZ (.slice av j cv) _ 44 wr hrow (by have:=hlen.out;omega));replace hx:=hid hx;clear hO hrow;go_wp2_with fail
    refine hjn.out.mono ?_;rintro e w2 ⟨rfl,hx2⟩;have hx2:=hid (hx.out.trans hx2);go_wp2_with fail
    go_ret;exact ⟨by rw [htz.out];rfl,hx2.out⟩
theorem zfZ (v:Value) (l:List Bs) (w:World) (h:zai (fun k=>k < w.heap.size) w zdj v l) (hn0:l.length<=1000) (hlen:(join 44 (l)).length<=1000000):
  Calls Tryz.prog 179 #[v,.func (.func 180) #[] #[]] w fun e w'=>e=.returned (.string ⟨(listW (l)).toArray⟩)/\Ext w w':=by
 obtain ⟨tz,htz⟩:∃ tz,tz=listW (l):=⟨_,rfl⟩;rw [<- htz];obtain ⟨ao,cap,rfl⟩:=h.slice;obtain ⟨n,hn⟩:∃ n,n=l.length:=⟨_,rfl⟩;rw [<- hn] at h hn0 ⊢;have hce:=enters_of Tryz.func180 (by kernel_rfl) rfl;replace hlen:=hid hlen
 by_cases h0:n=0
 ·have hl:l=[]:=List.eq_nil_of_length_eq_zero (by omega)
  subst h0;replace htz:=hid (show tz=[42] by rw [htz,hl];rfl);clear hn;go_enter Tryz.func179,Tryz.ntmps179;go_wp2_with fail
  go_ret;exact ⟨by rw [htz.out];rfl,Mod.refl _ _⟩
 ·have hl:l ≠ []:=by intro e;subst e;simp at hn;omega
  replace htz:tz=join 44 (l):=by rw [htz,listW,if_neg (by simpa using hl)]
  have hn1:((n:Int)==0)=false:=by rw [beq_eq_false_iff_ne];omega
  have hni:¬ (n:Int)=0:=by omega
  replace hn:=hid hn;replace h:=hid h;replace htz:=hid htz;clear hl;go_enter Tryz.func179,Tryz.ntmps179;go_wp2_with (at_make;refine zeD zdj rfl _ _ _ rfl Tryz.underlying22 el9 n rfl _ rfl rfl (by omega) (base:=w.heap.size) (Nat.le_refl _) (fun v1 w1 H1=>?_))
  obtain ⟨hO1,hx1⟩:=H1.out;obtain ⟨ao1,cap1,rfl,-⟩:=hO1.row;clear H1;replace hO1:=hid hO1;replace hx1:=hid hx1;simp only [List.length_nil];go_wp2_with fail
  go_loopg [5,16] n (fun g s i wr=>∃ (j:Nat) (av:Option Addr) (cv:Nat),j+g=n/\i=.int .i64 j/\s=.slice av j cv/\Cdk.Own wr w.heap.size 9 1 zdj (.slice av j cv) ((l).take j)/\Ext w wr)
  case atStart=>exact ⟨0,ao1,cap1,by omega,rfl,rfl,hO1.out,hx1.out⟩
  case round=>
   clear hO1 hx1;obtain ⟨j,av,cv,hj,rfl,rfl,hO,hx⟩:=hrel;replace hj:=hid hj
   by_cases hlt:j < n
   ·have hdi:(j:Int) < (n:Int):=by omega
    have hd:decide ((j:Int) < (n:Int))=true:=decide_eq_true hdi;have hjl:j < l.length:=by have:=hn.out;omega
    obtain ⟨b',off,rfl,c0⟩:=zcs (h.out.ext hx) hjl;have htk:(l).take (j+1)=(l).take j++[l[j]]:=by
     rw [List.take_succ_eq_append_getElem (by omega)]
     skip
    have hcl:=hid (fun W (_:Ext w W)=>zkx l[j] W);generalize l[j]=tx at c0 hcl htk
    skip
    replace hO:=hid hO;replace hx:=hid hx;replace htk:=hid htk;go_wp2_with fail
    refine (hcl.out _ hx.out).mono ?_;rintro e w2 ⟨rfl,hx2⟩;have hO2:=hid (hO.out.ext hx2);have hx2:=hid (hx.out.trans hx2);clear hcl hO hx;have hsz:w.heap.size<=w2.heap.size:=hx2.out.size;have hlt2:((l).take j).length<=1000:=by rw [List.length_take];omega
    replace hlt2:=hid hlt2;go_wp2_with (at_builtin;refine zaX rfl _ _ _ rfl Tryz.underlying22 el9 rfl (hO2.out.ext ((Mod.refl _ _).alloc _)) _ 1 1 rfl [tx] rfl (by exact zaR.new _ _ _) za5 (fun y hy u hu=>by simp only [List.mem_singleton] at hy;subst hy;simp [zdj] at hu;subst hu;rfl) (by have:=hlt2.out;simp only [List.length_singleton];omega) (by rw [World.size_alloc];omega) (fun e=>nomatch e) (fun v6 w6 H6=>?_);skip)
    obtain ⟨hO6,hm6⟩:=H6.out;have hx6:=hid (zbC (hx2.out.trans ((Mod.refl _ w2).alloc _)) (hO2.out.ext ((Mod.refl _ w2).alloc _)) (Nat.le_refl _) hm6);rw [<- htk.out] at hO6;obtain ⟨av6,cv6,rfl,-⟩:=hO6.row;have e6:((l).take (j+1)).length=j+1:=by rw [List.length_take];omega
    rw [e6] at hO6 ⊢;clear H6 hm6 e6;replace hO6:=hid hO6;go_wp2_with fail
    go_roundg (gk - 1)
    case measure=>have:=hj.out;omega
    case rel=>exact ⟨j+1,av6,cv6,by have:=hj.out;omega,by go_num,rfl,hO6.out,hx6.out⟩
   ·obtain rfl:j=n:=by have:=hj.out;omega
    have hdi:¬ (j:Int) < (j:Int):=by omega
    have hd:decide ((j:Int) < (j:Int))=false:=decide_eq_false hdi;rw [List.take_of_length_le (by have:=hn.out;omega)] at hO;have hrow:=zbk hO (by have:=hn.out;omega);have hjn:=hid (zbZ (.slice av j cv) _ 44 wr hrow (by have:=hlen.out;omega));replace hx:=hid hx;clear hO hrow;go_wp2_with fail
    refine hjn.out.mono ?_;rintro e w2 ⟨rfl,hx2⟩;have hx2:=hid (hx.out.trans hx2);go_wp2_with fail
    go_ret;exact ⟨by rw [htz.out];rfl,hx2.out⟩
end Go.Proofs.YtjjfphalcibjfaaGreatDoor
