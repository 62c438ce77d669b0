import Derived.Test.YtjjfphalcibjfaaGreatDoorA3
import Derived.Test.YtjjfphalcibjfaaGreatDoorA12
import Derived.Test.YtjjfphalcibjfaaGreatDoorTh2
import Derived.Lib.Split
set_option maxRecDepth 100000
set_option maxHeartbeats 16000000
namespace Go.Proofs.YtjjfphalcibjfaaGreatDoor
open Go.Shelf Go.RowKit Cdk Scr
theorem zay (n:Int):(zbc n).length<=10:=by
 unfold zbc;split
 ·simp
 ·exact zl8 10 _
theorem zb3 (s:Bs):(zeQ s).length<=10+s.length:=by
 unfold zeQ;split
 ·simp
 ·have:=zay s.length;simp;omega
theorem zbl (a b:Bs):(⟨a.toArray⟩:ByteArray)++⟨b.toArray⟩=⟨(a++b).toArray⟩:=by
 apply ByteArray.ext;simp [ByteArray.data_append]
theorem za6 (a:Bs):(⟨a.toArray⟩:ByteArray).size=a.length:=rfl
theorem zdO (s:Bs) (hs:s.length<=65536) (w:World):
  Calls Tryz.prog 188 #[.string ⟨s.toArray⟩] w fun e w'=>e=.returned (.tuple #[.string ⟨(zeQ s).toArray⟩,.int .i64 0])/\Ext w w':=by
 obtain ⟨S,hS⟩:∃ S:ByteArray,S=⟨s.toArray⟩:=⟨_,rfl⟩;have hSs:S.size=s.length:=by rw [hS];rfl
 rw [<- hS];have hp:=Y (zbr (S.size:Int) (by omega) (by omega));have hput:Hid (zeQ s=zbc S.size++s):=Y (by unfold zeQ;rw [if_neg (by omega),hSs]);have h1:¬ (65536:Int) < (S.size:Int):=by omega
 have h2:=zay (S.size:Int);obtain ⟨T,hT⟩:∃ T,T=zbc (S.size:Int):=⟨_,rfl⟩;rw [<- hT] at h2;have hsum:(⟨T.toArray⟩:ByteArray).size+S.size<=1000000:=by rw [za6];omega
 replace hT:=Y hT;replace h2:=Y h2;replace hSs:=Y hSs;replace hS:=Y hS;go_enter Tryz.func188,Tryz.ntmps188;go_wp2_with fail
 refine (hp.o _).mono ?_;rintro e w' ⟨rfl,hx⟩;rw [<- hT.o];replace hx:=Y hx;go_wp2_with fail
 go_ret2
 refine ⟨?_,hx.o⟩;rw [hput.o,<- hT.o,<- zbl,<- hS.o]
 rfl
theorem wraps_u32 (n:Int) (h₀:0<=n) (h₁:n < 2 ^ 32):IntKind.u32.wrap n=n:=by rw [IntKind.wrap_u32];omega
theorem zkw (x y:UInt32):bits .xor .u32 (x.toNat:Int) (y.toNat:Int)=((x ^^^ y).toNat:Int):=by
 have hx:=x.toNat_lt;have hy:=y.toNat_lt;have ha:x.toNat % 2 ^ IntKind.u32.bits=x.toNat:=Nat.mod_eq_of_lt hx;have hb:y.toNat % 2 ^ IntKind.u32.bits=y.toNat:=Nat.mod_eq_of_lt hy;rw [UInt32.toNat_xor];simp only [bits,BitVec.ofInt_natCast,BitVec.toNat_xor,BitVec.toNat_ofNat,ha,hb];have:=Nat.xor_lt_two_pow hx hy;exact wraps_u32 _ (Int.natCast_nonneg _) (by exact_mod_cast this)
theorem zmX {w:World} (h:Gl w) (r:UInt32):w.cell? ⟨0,r.toNat % 16,none⟩=some (.int .u32 ((zek.getD (r.toNat % 16) 0).toNat:Int)):=by
 have hk:r.toNat % 16 < 16:=Nat.mod_lt _ (by decide);have hc:=h.sh.cell zeP (r.toNat % 16) hk;rw [hc];generalize r.toNat % 16=k at hk;congr 2;have:∀ k:Fin 16,zjg.getD k.val 0=((zek.getD k.val 0).toNat:Int):=by decide+kernel
 exact this ⟨k,hk⟩
theorem zjq {w:World} (h:Gl w) (r:UInt32):∃ v:UInt32,w.cell? ⟨0,r.toNat % 16,none⟩=some (.int .u32 v.toNat)/\bits .xor .u32 ((r.toNat:Int) / 16) v.toNat=((nib r).toNat:Int):=by
 refine ⟨_,zmX h r,?_⟩;have h2:=zkw (r >>> 4) (zek.getD (r.toNat % 16) 0);have h3:(r >>> 4).toNat=r.toNat / 16:=by
  rw [UInt32.toNat_shiftRight];simp [Nat.shiftRight_eq_div_pow]
 rw [h3] at h2;exact h2
theorem sum_any (t:Bs) (w:World) (h:Gl w) (hsz:t.length<=1000000):
  Calls Tryz.prog 189 #[.string ⟨t.toArray⟩] w fun e w'=>e=.returned (.int .i64 (crc t))/\w=w':=by
 obtain ⟨C,hC⟩:∃ C,C=zlH 0xFFFFFFFF t:=⟨_,rfl⟩;have hcr:Hid (crc t=((C ^^^ 0xFFFFFFFF).toNat:Int)):=Y (by rw [hC];rfl);obtain ⟨s,hs⟩:∃ s:ByteArray,s=⟨t.toArray⟩:=⟨_,rfl⟩;have hst:s.data.toList=t:=by rw [hs]
 have hsl:s.size<=1000000:=by rw [hs];exact hsz
 rw [<- hs];rw [<- hst] at hC;replace hst:=Y hst;replace hs:=Y hs;replace h:=Y h;go_enter Tryz.func189,Tryz.ntmps189;go_wp2_with fail
 go_loopg [3,4] s.size (fun g rv i wr=>∃ (j:Nat) (r:UInt32),j+g=s.size/\i=.int .i64 j/\rv=.int .u32 r.toNat/\wr=w/\C=zlH r (s.data.toList.drop j))
 case atStart=>exact ⟨0,0xFFFFFFFF,by omega,rfl,rfl,rfl,by rw [hC];rfl⟩
 case round=>
  clear hC;obtain ⟨j,r,hj,rfl,rfl,rfl,hCj⟩:=hrel;replace hj:=Y hj
  by_cases hlt:j < s.size
  ·have hd:decide ((j:Int) < (s.size:Int))=true:=decide_eq_true (by omega)
   have hdi:(j:Int) < (s.size:Int):=by omega
   rw [drop_at s hlt] at hCj;obtain ⟨r1,hr1⟩:∃ r1,r1=r ^^^ s[j].toUInt32:=⟨_,rfl⟩;have e1:(s[j].toNat:Int) % 4294967296=s[j].toNat:=by have:=s[j].toNat_lt;omega
   have e2:bits .xor .u32 (r.toNat:Int) (s[j].toNat:Int)=(r1.toNat:Int):=by
    rw [hr1,<- zkw];simp
   simp only [zlH] at hCj;rw [<- hr1] at hCj;have e3:(r1.toNat:Int).tmod 16=((r1.toNat % 16:Nat):Int):=by rw [Int.tmod_eq_emod_of_nonneg (by omega)];omega
   have e5:r1.toNat % 16 < 16:=by omega
   obtain ⟨v1,c1,e6⟩:=zjq h.o r1;generalize nib r1=r2 at*;have f3:(r2.toNat:Int).tmod 16=((r2.toNat % 16:Nat):Int):=by rw [Int.tmod_eq_emod_of_nonneg (by omega)];omega
   have f5:r2.toNat % 16 < 16:=by omega
   obtain ⟨v2,c2,f6⟩:=zjq h.o r2;generalize nib r2=r3 at*;replace hCj:=Y hCj;replace hr1:=Y hr1;go_wp2_with fail
   go_roundg (gk - 1)
   case measure=>have:=hj.o;omega
   case rel=>exact ⟨j+1,r3,by have:=hj.o;omega,by go_num,rfl,rfl,hCj.o⟩
  ·obtain rfl:j=s.size:=by have:=hj.o;omega
   have hdi:¬ (s.size:Int) < (s.size:Int):=by omega
   have hd:decide ((s.size:Int) < (s.size:Int))=false:=decide_eq_false hdi;rw [List.drop_eq_nil_of_le (Nat.le_of_eq (zaN s).symm)] at hCj;simp only [zlH] at hCj;have e9:bits .xor .u32 IntKind.u32.max (r.toNat:Int)=((C ^^^ 0xFFFFFFFF).toNat:Int):=by
    rw [hCj,UInt32.xor_comm];exact zkw 0xFFFFFFFF r
   have e10:wrap64 ((C ^^^ 0xFFFFFFFF).toNat:Int)=((C ^^^ 0xFFFFFFFF).toNat:Int):=by
    have:=(C ^^^ 0xFFFFFFFF).toNat_lt;exact IntWalk.wrap64_in _ (by omega)
   generalize (C ^^^ 0xFFFFFFFF).toNat=Z at e9 e10 hcr;replace hCj:=Y hCj;go_wp2_with fail
   go_ret;exact ⟨by rw [hcr.o];rfl,rfl⟩
theorem zfx (B b:Nat) (tx:Bs) (v:Value) (l:List Int) (hl:∀ x ∈ l,-4611686018427387903<=x/\x<=4611686018427387903) (w:World) (h:Bld B b tx w) (hI:∀ W,za4 B b w W -> zaF (fun _=>True) W v l) (hlen:tx.length+10*l.length<=1000000000):
  Calls Tryz.prog 206 #[.pointer (some ⟨b,0,none⟩),v] w fun e w'=>e=.returned (.tuple #[])/\Bld B b (tx++zaB l) w'/\za4 B b w w':=by
 have hn0:=(hI w (za4.refl _ _ _)).len;obtain ⟨ao,cap,rfl⟩:=(hI w (za4.refl _ _ _)).slice;obtain ⟨n,hn⟩:∃ n,n=l.length:=⟨_,rfl⟩;obtain ⟨tz,htz⟩:∃ tz,tz=tx++zaB l:=⟨_,rfl⟩;rw [<- htz];rw [<- hn] at hlen hI hn0 ⊢;replace hI:=Y hI;replace hn:=Y hn;go_enter Tryz.func206,Tryz.ntmps206;go_wp2_with fail
 go_loopg [10] n (fun g i wr=>∃ (j:Nat) (ty:Bs),j+g=n/\i=.int .i64 j/\Bld B b ty wr/\za4 B b w wr/\tz=ty++zaB (l.drop j)/\ty.length+10*(n - j)<=1000000000)
 case atStart=>exact ⟨0,tx,by omega,rfl,h,za4.refl _ _ _,by rw [htz];rfl,hlen⟩
 case round=>
  clear h hlen htz;obtain ⟨j,ty,hj,rfl,hB,hK,ht,hlen⟩:=hrel;replace hj:=Y hj;replace hlen:=Y hlen
  by_cases hlt:j < n
  ·have hdi:(j:Int) < (n:Int):=by omega
   have hd:decide ((j:Int) < (n:Int))=true:=decide_eq_true hdi;have hjl:j < l.length:=by have:=hn.o;omega
   obtain ⟨b',off,rfl,c0⟩:=zbG (hI.o wr hK) hjl;have hxr:=hl l[j] (List.getElem_mem _);rw [List.drop_eq_getElem_cons hjl] at ht;generalize l[j]=x at c0 hxr ht;have hp:=Y (zbr x hxr.1 hxr.2);have h10:=zay x;have ht2:tz=(ty++zbc x)++zaB (l.drop (j+1)):=by rw [ht];simp [zaB]
   generalize hT:zbc x=T at hp h10 ht2;replace ht2:=Y ht2;replace h10:=Y h10;replace hB:=Y hB;replace hK:=Y hK;clear ht hT hxr;go_wp2_with fail
   refine (hp.o _).mono ?_;rintro e w' ⟨rfl,hx⟩;go_wp2_with fail
   refine (zes B b ty ⟨T.toArray⟩ w' (hB.o.ext hx) (by have:=hlen.o;have:=h10.o;rw [za6];omega)).mono ?_;rintro e w2 ⟨rfl,hB2,hK2⟩;replace hB2:=Y hB2;replace hK2:=Y ((hK.o.ext hx).trans hK2);go_wp2_with fail
   go_roundg (gk - 1)
   case measure=>have:=hj.o;omega
   case rel=>exact ⟨j+1,ty++T,by have:=hj.o;omega,by go_num,hB2.o,hK2.o,ht2.o,by have:=hlen.o;have:=h10.o;have:=hj.o;simp;omega⟩
  ·obtain rfl:j=n:=by have:=hj.o;omega
   have hdi:¬ (j:Int) < (j:Int):=by omega
   have hd:decide ((j:Int) < (j:Int))=false:=decide_eq_false hdi;rw [List.drop_eq_nil_of_le (by have:=hn.o;omega)] at ht;replace hB:=Y hB;replace hK:=Y hK;replace ht:=Y ht;go_wp2_with fail
   go_end0
   exact ⟨rfl,by rw [ht.o];simpa [zaB] using hB.o,hK.o⟩
end Go.Proofs.YtjjfphalcibjfaaGreatDoor
namespace Scr
open Go
theorem zoh (c:UInt8):Lib.indexByte [] c=-1:=rfl
theorem znJ (c:UInt8) (r:Bs):Lib.indexByte (c::r) c=0:=by simp [Lib.indexByte]
theorem zm3 {c x:UInt8} (h:x ≠ c) (r:Bs):Lib.indexByte (x::r) c=if Lib.indexByte r c=-1 then -1 else Lib.indexByte r c+1:=by
 have:(x==c)=false:=by rw [beq_eq_false_iff_ne];exact h
 simp [Lib.indexByte,this]
theorem zfy (c:UInt8):∀ s:Bs,Lib.cut s [c]=zby c s
 | []=>by simp [Lib.cut,Lib.index_one,zoh,zby]
 | x::r=>by
  have ih:=zfy c r;unfold Lib.cut at ih ⊢;rw [Lib.index_one] at ih ⊢;have hge:=Lib.indexByte_ge r c
  by_cases h:x=c
  ·subst h
   rw [znJ,zby,if_pos rfl];simp
  ·rw [zm3 h,zby,if_neg h,<- ih]
   by_cases h1:Lib.indexByte r c=-1
   ·rw [if_pos h1,h1]
    simp
   ·rw [if_neg h1,if_pos (by omega),if_pos (by omega)]
    have:(Lib.indexByte r c+1).toNat=(Lib.indexByte r c).toNat+1:=by omega
    rw [this];simp only [List.length_cons,List.length_nil,List.take_succ_cons];rw [show (Lib.indexByte r c).toNat+1+(0+1)=((Lib.indexByte r c).toNat+(0+1))+1 by omega,List.drop_succ_cons]
theorem zcv (c:UInt8):∀ s:Bs,parts c s=if (zby c s).2.2 then (zby c s).1::parts c (zby c s).2.1 else [s]
 | []=>by simp [parts,zby]
 | x::r=>by
  by_cases h:x=c
  ·simp [parts,zby,h]
  ·simp only [parts,zby,if_neg h]
   rw [zcv c r]
   by_cases h2:(zby c r).2.2=true
   ·simp [h2]
   ·have h2':(zby c r).2.2=false:=by simpa using h2
    simp [h2']
theorem zeD (c:UInt8):∀ (k:Nat) (s:Bs),s.count c<=k -> Lib.splitK [c] 0 k s=parts c s
 | 0,s,h=>by
  have hc:c ∉ s:=by
   intro hm;have:=List.count_pos_iff.2 hm;omega
  rw [zd7 hc];rfl
 | k+1,s,h=>by
  have hcut:=zfy c s;unfold Lib.cut at hcut;have hge:-1<=Lib.index s [c]:=Lib.index_ge _ _
  by_cases h1:Lib.index s [c]=-1
  ·rw [if_neg (by omega)] at hcut
   rw [Lib.splitK,h1,zcv,<- hcut]
   rfl
  ·have h2:(Lib.index s [c]==-1)=false:=by rw [beq_eq_false_iff_ne];exact h1
   rw [if_pos (by omega)] at hcut;rw [Lib.splitK,h2,zcv,<- hcut];simp only [Bool.false_eq_true,if_false,if_true,Nat.add_zero,List.cons.injEq,true_and];refine zeD c k _ ?_;rcases zbU (c:=c) s with ⟨e1,e2,e3⟩ | ⟨e1,-⟩
   ·rw [<- hcut] at e2
    simp only at e2;have e4:=congrArg (List.count c) e2;rw [List.count_append,List.count_cons_self] at e4;omega
   ·rw [<- hcut] at e1
    cases e1
theorem ziD {c:UInt8} {x:Nat} (h:hexV c=some x):x < 16:=by
 unfold hexV at h;split at h
 ·injection h with h;omega
 ·split at h
  ·injection h with h;omega
  ·cases h
def zpS:List UInt8:=[48,49,50,51,52,53,54,55,56,57,97,98,99,100,101,102]
def zna (c:UInt8):Int:=match hexV c with | some x=>x | none=>-1
theorem znY (c:UInt8):Lib.indexByte zpS c=zna c:=by
 have h:∀ n:Fin 256,Lib.indexByte zpS (UInt8.ofNat n.val)=zna (UInt8.ofNat n.val):=by decide+kernel
 have:=h ⟨c.toNat,c.toNat_lt⟩;simpa using this
theorem zhR:∀ s:Bs,s.length % 2=1 -> unhex s=none
 | [],h=>by simp at h
 | [_],_=>rfl
 | a::b::r,h=>by
  have ih:=zhR r (by simp only [List.length_cons] at h;omega);unfold unhex;rw [ih];cases hexV a <;> cases hexV b <;> rfl
theorem zkE {s:Bs} {j:Nat} (h:j+1 < s.length):unhex (s.drop j)=match hexV s[j],hexV s[j+1] with
  | some x,some y=>(unhex (s.drop (j+2))).map (fun l=>UInt8.ofNat (16*x+y)::l)
  | _,_=>none:=by
 rw [List.drop_eq_getElem_cons (by omega),List.drop_eq_getElem_cons h]
 rfl
theorem zoF {acc x j:Nat} (h:acc < 2 ^ j):acc ||| (x*2 ^ j)=acc+x*2 ^ j:=by
 have:=Nat.two_pow_add_eq_or_of_lt h x;rw [Nat.mul_comm x,Nat.or_comm,<- this,Nat.add_comm]
theorem zdj {acc x j:Nat} (h:acc < 2 ^ (7*j)) (hx:x < 128):acc+x*2 ^ (7*j) < 2 ^ (7*(j+1)):=by
 have e:2 ^ (7*(j+1))=128*2 ^ (7*j):=by rw [Nat.mul_add,Nat.pow_add];omega
 have h2:x*2 ^ (7*j)+2 ^ (7*j)<=128*2 ^ (7*j):=by
  have:=Nat.mul_le_mul_right (2 ^ (7*j)) (show x+1<=128 by omega);rw [Nat.add_mul] at this;omega
 omega
theorem zjr {g j acc:Nat}:zcr (g+1) j acc []=none:=rfl
theorem zdP {g j acc:Nat} {b:UInt8} {r:Bs} (h:128<=b.toNat):zcr (g+1) j acc (b::r)=zcr g (j+1) (acc+b.toNat % 128*2 ^ (7*j)) r:=by
 rw [zcr,if_pos h]
def zeT (z:Nat):Int:=if z % 2=1 then -((z / 2:Nat):Int) - 1 else ((z / 2:Nat):Int)
theorem zea {g j acc:Nat} {b:UInt8} {r:Bs} (h:¬ 128<=b.toNat):zcr (g+1) j acc (b::r)=
  if (b.toNat=0/\0 < j) \/ zeT (acc+b.toNat*2 ^ (7*j)) < -4611686018427387903 then none else some (zeT (acc+b.toNat*2 ^ (7*j)),r):=by
 rw [zcr,if_neg h];rfl
theorem zgf (s:Bs):∀ (g j acc a:Nat) (n:Int) (r:Bs),zcr g j acc (s.drop a)=some (n,r) -> ∃ b,a < b/\b<=s.length/\r=s.drop b
 | 0,_,_,_,_,_,h=>by cases h
 | g+1,j,acc,a,n,r,h=>by
  by_cases ha:a < s.length
  ·rw [List.drop_eq_getElem_cons ha] at h
   by_cases h1:128<=s[a].toNat
   ·rw [zdP h1] at h
    obtain ⟨b,h2,h3,h4⟩:=zgf s g _ _ (a+1) n r h;exact ⟨b,by omega,h3,h4⟩
   ·rw [zea h1] at h
    split at h
    ·cases h
    ·injection h with h
     injection h with _ h
     exact ⟨a+1,by omega,by omega,h.symm⟩
  ·rw [List.drop_eq_nil_of_le (by omega)] at h
   cases h
theorem ze6:∀ (g j acc:Nat) (s:Bs) (n:Int) (r:Bs),j+g=9 -> acc < 2 ^ (7*j) -> zcr g j acc s=some (n,r) -> -4611686018427387903<=n/\n<=4611686018427387903
 | 0,_,_,_,_,_,_,_,h=>by cases h
 | g+1,j,acc,[],n,r,_,_,h=>by cases h
 | g+1,j,acc,b::s,n,r,hg,ha,h=>by
  by_cases h1:128<=b.toNat
  ·rw [zdP h1] at h
   exact ze6 g (j+1) _ s n r (by omega) (zdj ha (Nat.mod_lt _ (by decide))) h
  ·rw [zea h1] at h
   have hz:=zdj (x:=b.toNat) ha (by omega);have h63:2 ^ (7*(j+1))<=2 ^ 63:=Nat.pow_le_pow_right (by decide) (by omega);generalize acc+b.toNat*2 ^ (7*j)=z at h hz;split at h
   ·cases h
   ·rename_i hn
    injection h with h
    injection h with h _
    subst h;simp only [not_or,Int.not_lt] at hn;refine ⟨hn.2,?_⟩;unfold zeT;split <;> omega
theorem zjU {s:Bs} {n:Int} {r:Bs} (h:zdt s=some (n,r)):-4611686018427387903<=n/\n<=4611686018427387903:=ze6 9 0 0 s n r rfl (by decide) h
theorem zhL {s:Bs} {a:Nat} {n:Int} {r:Bs} (h:zdt (s.drop a)=some (n,r)):∃ b,a < b/\b<=s.length/\r=s.drop b:=zgf s 9 0 0 a n r h
abbrev St:=Except Int Bs
def mR {α:Type} (z:α) (f:Rb α):St -> α × St
 | .error e=>(z,.error e)
 | .ok r=>match f r with
  | .ok x=>(x.1,.ok x.2)
  | .error e=>(z,.error e)
def mI:St -> Int × St:=mR 0 rbI
def mS:St -> Bs × St:=mR [] rbS
def mN {α:Type} (el:St -> α × St):Nat -> St -> List α × St
 | 0,st=>([],st)
 | _+1,.error e=>([],.error e)
 | k+1,.ok r=>((el (.ok r)).1::(mN el k (el (.ok r)).2).1,(mN el k (el (.ok r)).2).2)
def mL {α:Type} (most:Int) (el:St -> α × St):St -> List α × St:=fun st=>
 match (mI st).2 with
 | .error e=>([],.error e)
 | .ok r=>if (mI st).1 < 0 \/ most < (mI st).1 then ([],.error 30) else mN el (mI st).1.toNat (.ok r)
def mB:St -> Bk × St:=fun st=>
 let id:=mI st
 let kd:=mI id.2
 let tx:=mS kd.2
 let st:=mI tx.2
 let rf:=mI st.2
 let til:=mI rf.2
 let aft:=mL 64 mI til.2
 let app:=mI aft.2
 let den:=mI app.2
 (⟨id.1,kd.1,tx.1,st.1,rf.1,⟨til.1,aft.1,app.1,den.1⟩⟩,den.2)
structure Agree {α:Type} (el:St -> α × St) (f:Rb α):Prop where
 bad:∀ e,(el (.error e)).2=.error e
 good:∀ r x r',f r=.ok (x,r') -> el (.ok r)=(x,.ok r')
 fail:∀ r e,f r=.error e -> (el (.ok r)).2=.error e
theorem zlm {α:Type} (z:α) (f:Rb α):Agree (mR z f) f:=by
 refine ⟨fun e=>rfl,fun r x r' h=>?_,fun r e h=>?_⟩
 ·simp [mR,h]
 ·simp [mR,h]
theorem zfe:Agree mI rbI:=zlm _ _
theorem znS:Agree mS rbS:=zlm _ _
theorem zh9 {α:Type} (el:St -> α × St) (k:Nat) (e:Int):mN el k (.error e)=([],.error e):=by cases k <;> rfl
theorem zi7 {α:Type} {el:St -> α × St} {f:Rb α} (h:Agree el f):∀ (k:Nat),Agree (mN el k) (rbN f k)
 | 0=>⟨fun e=>rfl,fun r x r' hx=>by cases hx;rfl,fun r e hx=>by cases hx⟩
 | k+1=>by
  have ih:=zi7 h k;refine ⟨fun e=>rfl,fun r x r' hx=>?_,fun r e hx=>?_⟩
  ·rw [rbN] at hx
   cases h1:f r with
   | error e=>rw [h1] at hx;cases hx
   | ok p=>
    obtain ⟨y,s⟩:=p;rw [h1] at hx;simp only at hx;cases h2:rbN f k s with
    | error e=>rw [h2] at hx;cases hx
    | ok q=>
     obtain ⟨l,t⟩:=q;rw [h2] at hx;cases hx
     rw [mN,h.good _ _ _ h1,ih.good _ _ _ h2]
  ·rw [rbN] at hx
   cases h1:f r with
   | error e'=>
    rw [h1] at hx;cases hx
    rw [mN,h.fail _ _ h1,zh9]
   | ok p=>
    obtain ⟨y,s⟩:=p;rw [h1] at hx;simp only at hx;cases h2:rbN f k s with
    | error e'=>
     rw [h2] at hx;cases hx
     rw [mN,h.good _ _ _ h1,ih.fail _ _ h2]
    | ok q=>rw [h2] at hx;cases hx
theorem zlb {α:Type} {el:St -> α × St} {f:Rb α} (h:Agree el f) (most:Int):Agree (mL most el) (rbL most f):=by
 refine ⟨fun e=>rfl,fun r x r' hx=>?_,fun r e hx=>?_⟩
 ·unfold rbL at hx
  cases h1:rbI r with
  | error e=>rw [h1] at hx;cases hx
  | ok p=>
   obtain ⟨c,s⟩:=p;rw [h1] at hx;simp only at hx;unfold mL;rw [zfe.good _ _ _ h1];split at hx
   ·cases hx
   ·rename_i hc
    simp only [if_neg hc];exact (zi7 h _).good _ _ _ hx
 ·unfold rbL at hx
  cases h1:rbI r with
  | error e'=>
   rw [h1] at hx;cases hx
   unfold mL;rw [zfe.fail _ _ h1]
  | ok p=>
   obtain ⟨c,s⟩:=p;rw [h1] at hx;simp only at hx;unfold mL;rw [zfe.good _ _ _ h1];split at hx
   ·rename_i hc
    cases hx
    simp only [if_pos hc]
   ·rename_i hc
    simp only [if_neg hc];exact (zi7 h _).fail _ _ hx
theorem bind_ok {α β:Type} {f:Rb α} {g:α × Bs -> Except Int β} {r:Bs} {y:β} (h:(f r >>=g)=.ok y):∃ x s,f r=.ok (x,s)/\g (x,s)=.ok y:=by
 cases h1:f r with
 | error e=>rw [h1] at h;cases h
 | ok p=>rw [h1] at h;exact ⟨p.1,p.2,rfl,h⟩
theorem zcP {α β:Type} {f:Rb α} {g:α × Bs -> Except Int β} {r:Bs} {e:Int} (h:(f r >>=g)=.error e):f r=.error e \/ ∃ x s,f r=.ok (x,s)/\g (x,s)=.error e:=by
 cases h1:f r with
 | error e'=>rw [h1] at h;cases h;exact .inl rfl
 | ok p=>rw [h1] at h;exact .inr ⟨p.1,p.2,rfl,h⟩
theorem znQ:Agree mB rbB:=by
 have hI:=zfe;have hS:=znS;have hL:=zlb zfe 64;refine ⟨fun e=>rfl,fun r x r' hx=>?_,fun r e hx=>?_⟩
 ·unfold rbB at hx
  obtain ⟨y1,s1,e1,hx⟩:=bind_ok hx;obtain ⟨y2,s2,e2,hx⟩:=bind_ok hx;obtain ⟨y3,s3,e3,hx⟩:=bind_ok hx;obtain ⟨y4,s4,e4,hx⟩:=bind_ok hx;obtain ⟨y5,s5,e5,hx⟩:=bind_ok hx;obtain ⟨y6,s6,e6,hx⟩:=bind_ok hx;obtain ⟨y7,s7,e7,hx⟩:=bind_ok hx;obtain ⟨y8,s8,e8,hx⟩:=bind_ok hx;obtain ⟨y9,s9,e9,hx⟩:=bind_ok hx;cases hx
  unfold mB;simp only [hI.good _ _ _ e1,hI.good _ _ _ e2,hS.good _ _ _ e3,hI.good _ _ _ e4,hI.good _ _ _ e5,hI.good _ _ _ e6,hL.good _ _ _ e7,hI.good _ _ _ e8,hI.good _ _ _ e9]
 ·unfold rbB at hx
  unfold mB;rcases zcP hx with e1 | ⟨y1,s1,e1,hx⟩
  ·simp only [hI.fail _ _ e1,hI.bad,hS.bad,hL.bad]
  rcases zcP hx with e2 | ⟨y2,s2,e2,hx⟩
  ·simp only [hI.good _ _ _ e1,hI.fail _ _ e2,hI.bad,hS.bad,hL.bad]
  rcases zcP hx with e3 | ⟨y3,s3,e3,hx⟩
  ·simp only [hI.good _ _ _ e1,hI.good _ _ _ e2,hS.fail _ _ e3,hI.bad,hL.bad]
  rcases zcP hx with e4 | ⟨y4,s4,e4,hx⟩
  ·simp only [hI.good _ _ _ e1,hI.good _ _ _ e2,hS.good _ _ _ e3,hI.fail _ _ e4,hI.bad,hL.bad]
  rcases zcP hx with e5 | ⟨y5,s5,e5,hx⟩
  ·simp only [hI.good _ _ _ e1,hI.good _ _ _ e2,hS.good _ _ _ e3,hI.good _ _ _ e4,hI.fail _ _ e5,hI.bad,hL.bad]
  rcases zcP hx with e6 | ⟨y6,s6,e6,hx⟩
  ·simp only [hI.good _ _ _ e1,hI.good _ _ _ e2,hS.good _ _ _ e3,hI.good _ _ _ e4,hI.good _ _ _ e5,hI.fail _ _ e6,hI.bad,hL.bad]
  rcases zcP hx with e7 | ⟨y7,s7,e7,hx⟩
  ·simp only [hI.good _ _ _ e1,hI.good _ _ _ e2,hS.good _ _ _ e3,hI.good _ _ _ e4,hI.good _ _ _ e5,hI.good _ _ _ e6,hL.fail _ _ e7,hI.bad]
  rcases zcP hx with e8 | ⟨y8,s8,e8,hx⟩
  ·simp only [hI.good _ _ _ e1,hI.good _ _ _ e2,hS.good _ _ _ e3,hI.good _ _ _ e4,hI.good _ _ _ e5,hI.good _ _ _ e6,hL.good _ _ _ e7,hI.fail _ _ e8,hI.bad]
  rcases zcP hx with e9 | ⟨y9,s9,e9,hx⟩
  ·simp only [hI.good _ _ _ e1,hI.good _ _ _ e2,hS.good _ _ _ e3,hI.good _ _ _ e4,hI.good _ _ _ e5,hI.good _ _ _ e6,hL.good _ _ _ e7,hI.good _ _ _ e8,hI.fail _ _ e9]
  ·cases hx
theorem zlk (s:Bs):(∃ l,mL 24 mB (.ok s)=(l,.ok [])/\zec l=true/\zdm s=.ok l) ∨
  (((∃ e,(mL 24 mB (.ok s)).2=.error e) \/ (∃ b r,(mL 24 mB (.ok s)).2=.ok (b::r)) \/ ((mL 24 mB (.ok s)).2=.ok []/\zec (mL 24 mB (.ok s)).1=false))/\∃ e,zdm s=.error e):=by
 have hL:=zlb znQ 24;unfold zdm;cases h:rbL 24 rbB s with
 | error e=>exact .inr ⟨.inl ⟨e,hL.fail _ _ h⟩,e,rfl⟩
 | ok p=>
  obtain ⟨l,r⟩:=p;have h1:=hL.good _ _ _ h;rw [h1];cases r with
  | cons b r=>exact .inr ⟨.inr (.inl ⟨b,r,rfl⟩),10,rfl⟩
  | nil=>
   simp only [List.isEmpty_nil,Bool.not_true,Bool.false_eq_true,if_false];cases hv:zec l with
   | true=>exact .inl ⟨l,rfl,hv,rfl⟩
   | false=>exact .inr ⟨.inr (.inr ⟨trivial,by first | exact hv | exact trivial | rfl⟩),30,by first | rfl | trivial⟩
end Scr
namespace Go.Proofs.YtjjfphalcibjfaaGreatDoor
open Go.Shelf Go.RowKit Cdk Scr
def zlP (t:Bs) (a:Nat) (e:Ending) (G:Option (Int × Bs)):Prop:=match G with
 | none=>e=.returned (.tuple #[.int .i64 0,.int .i64 0,.int .i64 10])
 | some x=>∃ b:Nat,a < b/\b<=t.length/\x.2=t.drop b/\e=.returned (.tuple #[.int .i64 x.1,.int .i64 b,.int .i64 0])
def zjo (t:Bs) (a:Nat) (e:Ending):Prop:=zlP t a e (zdt (t.drop a))
theorem zpN {acc x j:Nat} (hj:j < 9) (h:acc < 2 ^ (7*j)) (hx:x < 128):bits .or .u64 (acc:Int) (IntKind.u64.wrap ((x:Int)*2 ^ (7*j)))=((acc+x*2 ^ (7*j):Nat):Int):=by
 have hn:=zdj h hx;have h63:2 ^ (7*(j+1))<=2 ^ 63:=Nat.pow_le_pow_right (by decide) (by omega);have e0:((x:Int)*2 ^ (7*j))=((x*2 ^ (7*j):Nat):Int):=by push_cast;rfl
 rw [e0];generalize hy:x*2 ^ (7*j)=y at*;have e1:IntKind.u64.wrap ((y:Nat):Int)=y:=by rw [IntKind.wrap_u64];omega
 rw [e1];have ha:acc % 2 ^ IntKind.u64.bits=acc:=Nat.mod_eq_of_lt (by show acc < 2 ^ 64;omega);have hb:y % 2 ^ IntKind.u64.bits=y:=Nat.mod_eq_of_lt (by show y < 2 ^ 64;omega);have ho:acc ||| y=acc+y:=by rw [<- hy];exact zoF h
 simp only [bits,BitVec.ofInt_natCast,BitVec.toNat_or,BitVec.toNat_ofNat,ha,hb,ho];rw [IntKind.wrap_u64];omega
theorem zm0 {y:Nat} (h:y < 4611686018427387904):wrap64 (y:Int)=y:=IntWalk.wrap64_in _ (by omega)
theorem zoq {y:Nat} (h:y < 4611686018427387904):wrap64 (-(y:Int))=-(y:Int):=IntWalk.wrap64_in _ (by omega)
theorem znd {y:Nat} (h:y < 4611686018427387904):wrap64 (-(y:Int) - 1)=-(y:Int) - 1:=IntWalk.wrap64_in _ (by omega)
theorem zoy {y:Nat} (h:y < 4611686018427387904):IntKind.u64.wrap (y:Int)=y:=by rw [IntKind.wrap_u64];omega
theorem zoz {j:Nat} (h:j < 9) {z:Nat} (hz:z < 2 ^ (7*(j+1))):z < 9223372036854775808:=Nat.lt_of_lt_of_le hz (Nat.le_trans (Nat.pow_le_pow_right (by decide) (by omega:7*(j+1)<=63)) (by decide))
theorem zjI {z:Nat} (h:z % 2=1):zeT z=-((z / 2:Nat):Int) - 1:=by unfold zeT;rw [if_pos h]
theorem zhG {z:Nat} (h:¬ z % 2=1):zeT z=((z / 2:Nat):Int):=by unfold zeT;rw [if_neg h]
theorem zgE (t:Bs) (a:Nat) (ha:a<=t.length) (hs:t.length<=1000000) (w:World):
  Calls Tryz.prog 192 #[.string ⟨t.toArray⟩,.int .i64 a] w fun e w'=>w=w'/\zjo t a e:=by
 have hrest:=fun n r (h:zdt (t.drop a)=some (n,r))=>zhL h
 obtain ⟨G,hG⟩:∃ G,G=zdt (t.drop a):=⟨_,rfl⟩;have hR:Hid (∀ e,zjo t a e=zlP t a e G):=Y (fun e=>by rw [hG];rfl);obtain ⟨S,hS⟩:∃ S:ByteArray,S=⟨t.toArray⟩:=⟨_,rfl⟩;have hSs:S.size=t.length:=by rw [hS];rfl
 have hSd:S.data.toList=t:=by rw [hS]
 rw [<- hS];have hsl:S.size<=1000000:=by omega
 have haS:a<=S.size:=by omega
 have hG0:Hid (G=zcr 9 0 0 (S.data.toList.drop (a+0))):=Y (by rw [hG,hSd];rfl);have h1:¬ (a:Int) < 0:=by omega
 have h2:¬ (S.size:Int) < (a:Int):=by omega
 replace hS:=Y hS;replace hSd:=Y hSd;replace hSs:=Y hSs;replace hG:=Y hG;replace hrest:=Y hrest;go_enter Tryz.func192,Tryz.ntmps192;go_wp2_with fail
 clear h1 h2;go_loopg [1,7,8] 9 (fun g at' z sh wr=>∃ (j acc aj sj:Nat),j+g=9/\aj=a+j/\sj=7*j/\at'=.int .i64 aj/\z=.int .u64 acc/\sh=.int .i64 sj/\acc < 2 ^ (7*j)/\aj<=S.size/\wr=w/\G=zcr g j acc (S.data.toList.drop aj))
 case atStart=>exact ⟨0,0,a,0,rfl,rfl,rfl,rfl,rfl,rfl,by decide,haS,rfl,hG0.o⟩
 case round=>
  clear hG0 hG;obtain ⟨j,acc,aj,sj,hj,haj,hsj,rfl,rfl,rfl,hacc,hajS,rfl,hGj⟩:=hrel
  by_cases hj9:j < 9
  ·obtain ⟨g,rfl⟩:∃ g,gk=g+1:=⟨gk - 1,by omega⟩
   have hd:decide ((sj:Int) < 63)=true:=decide_eq_true (by omega);have hdi:(sj:Int) < 63:=by omega
   have hsw:IntKind.i64.wrap ((sj:Int)+7)=(sj:Int)+7:=IntWalk.i64_in _ (by omega)
   by_cases hend:aj=S.size
   ·rw [hend,List.drop_eq_nil_of_le (Nat.le_of_eq (zaN S).symm),zjr] at hGj
    have hei:(aj:Int)=(S.size:Int):=by omega
    have heb:((aj:Int)==(S.size:Int))=true:=by rw [beq_iff_eq];exact hei
    replace hj:=Y hj;replace hacc:=Y hacc;replace hGj:=Y hGj;replace haj:=Y haj;replace hsj:=Y hsj;clear hend;go_wp2_with fail
    go_ret3
    exact ⟨rfl,by rw [hR.o,hGj.o];rfl⟩
   ·have hlt:aj < S.size:=by omega
    have hei:¬ (aj:Int)=(S.size:Int):=by omega
    have heb:((aj:Int)==(S.size:Int))=false:=by rw [beq_eq_false_iff_ne];exact hei
    have hlti:(aj:Int) < (S.size:Int):=by omega
    rw [drop_at S hlt] at hGj;replace hj:=Y hj;replace hacc:=Y hacc;replace hGj:=Y hGj;replace haj:=Y haj;replace hsj:=Y hsj;clear hend;go_upto_region 11 with fail
    generalize S[aj]=Bt at hGj ⊢;have hb256:=Bt.toNat_lt
    by_cases hm:128<=Bt.toNat
    ·have hgm:=zdP (g:=g) (j:=j) (acc:=acc) (r:=S.data.toList.drop (aj+1)) hm
     have hGn:=Y (hGj.o.trans hgm);have e2:=zpN (x:=Bt.toNat % 128) hj9 hacc.o (Nat.mod_lt _ (by decide));have hnx:=Y (zdj (x:=Bt.toNat % 128) hacc.o (Nat.mod_lt _ (by decide)));rw [<- hsj.o] at e2;have e4:((Bt.toNat % 128:Nat):Int)=(Bt.toNat:Int) % 128:=by omega
     rw [e4] at e2;obtain ⟨z,hz⟩:∃ z,z=acc+Bt.toNat % 128*2 ^ (7*j):=⟨_,rfl⟩;have hz':acc+Bt.toNat % 128*2 ^ sj=z:=by rw [hz,hsj.o]
     rw [hz'] at e2;rw [<- hz] at hGn hnx;have hmi:(128:Int)<=(Bt.toNat:Int):=by omega
     have hmd:decide ((128:Int)<=(Bt.toNat:Int))=true:=decide_eq_true hmi;have hmn:¬ (Bt.toNat:Int) < 128:=by omega
     clear hGj hgm hz hz' e4 hm;generalize Bt.toNat=bt at*;go_wp2_with fail
     go_roundg g
     case measure=>omega
     case rel=>exact ⟨j+1,z,aj+1,sj+7,by have:=hj.o;omega,by have:=haj.o;omega,by have:=hsj.o;omega,by go_num,rfl,by go_num,hnx.o,by omega,rfl,hGn.o⟩
    ·have hgm:=zea (g:=g) (j:=j) (acc:=acc) (r:=S.data.toList.drop (aj+1)) hm
     have hGn:=hGj.o.trans hgm;have e2:=zpN (x:=Bt.toNat) hj9 hacc.o (by omega);have hnx:=zdj (x:=Bt.toNat) hacc.o (by omega);rw [<- hsj.o] at e2;have e4:(Bt.toNat:Int) % 128=(Bt.toNat:Int):=by omega
     obtain ⟨z,hz⟩:∃ z,z=acc+Bt.toNat*2 ^ (7*j):=⟨_,rfl⟩;have hz':acc+Bt.toNat*2 ^ sj=z:=by rw [hz,hsj.o]
     rw [hz'] at e2;rw [<- hz] at hGn hnx;have hzl:=zoz hj9 hnx;have hmi:¬ (128:Int)<=(Bt.toNat:Int):=by omega
     have hmd:decide ((128:Int)<=(Bt.toNat:Int))=false:=decide_eq_false hmi;have hmn:(Bt.toNat:Int) < 128:=by omega
     clear hGj hgm hz hz' hm hnx;generalize Bt.toNat=bt at*;obtain ⟨n,hn⟩:∃ n,n=zeT z:=⟨_,rfl⟩;rw [<- hn] at hGn;obtain ⟨y,hy⟩:∃ y,y=z / 2:=⟨_,rfl⟩;have hyl:y < 4611686018427387904:=by omega
     have f1:(z:Int).tdiv 2=(y:Int):=by rw [Int.tdiv_eq_ediv_of_nonneg (by omega)];omega
     have f2:=zoy hyl;replace hn:=Y hn;replace hy:=Y hy;have f5:=zoq hyl
     by_cases ho:z % 2=1
     ·have hnn:n=-(y:Int) - 1:=by rw [hn.o,zjI ho,hy.o]
      have f3:=zm0 hyl;have f6:wrap64 (-(y:Int) - 1)=n:=by rw [hnn];exact znd hyl
      have f4:(z:Int).tmod 2=1:=by rw [Int.tmod_eq_emod_of_nonneg (by omega)];omega
      replace hnn:=Y hnn;replace ho:=Y ho;clear hyl hzl
      by_cases hb0:bt=0
      ·have h4:((bt:Int)==0)=true:=by rw [beq_iff_eq];omega
       have h4i:(bt:Int)=0:=by omega
       by_cases hj0:0 < j
       ·have h3:(0:Int) < (sj:Int):=by have:=hsj.o;omega
        have h5:0 < sj:=by omega
        rw [if_pos (.inl ⟨hb0,hj0⟩)] at hGn;replace hGn:=Y hGn;replace hb0:=Y hb0;replace hj0:=Y hj0;clear h4i;go_wp2_with fail
        go_ret3
        exact ⟨rfl,by rw [hR.o,hGn.o];rfl⟩
       ·have h3:¬ (0:Int) < (sj:Int):=by have:=hsj.o;omega
        have h5:¬ 0 < sj:=by omega
        by_cases hlow:n < -4611686018427387903
        ·rw [if_pos (.inr hlow)] at hGn
         replace hGn:=Y hGn;replace hb0:=Y hb0;replace hj0:=Y hj0;clear h4i;go_wp2_with fail
         go_ret3
         exact ⟨rfl,by rw [hR.o,hGn.o];rfl⟩
        ·rw [if_neg (fun hh=>hh.elim (fun q=>hj0 q.2) hlow)] at hGn
         replace hGn:=Y hGn;replace hb0:=Y hb0;replace hj0:=Y hj0;clear h4i;go_wp2_with fail
         go_ret3
         exact ⟨rfl,by rw [hR.o,hGn.o];exact ⟨aj+1,by have:=haj.o;omega,by have:=hSs.o;omega,by rw [hSd.o],by first | rfl | (go_num)⟩⟩
      ·have h4:((bt:Int)==0)=false:=by rw [beq_eq_false_iff_ne];omega
       have h4i:¬ (bt:Int)=0:=by omega
       by_cases hlow:n < -4611686018427387903
       ·rw [if_pos (.inr hlow)] at hGn
        replace hGn:=Y hGn;replace hb0:=Y hb0;go_wp2_with fail
        go_ret3
        exact ⟨rfl,by rw [hR.o,hGn.o];rfl⟩
       ·rw [if_neg (fun hh=>hh.elim (fun q=>hb0 q.1) hlow)] at hGn
        replace hGn:=Y hGn;replace hb0:=Y hb0;go_wp2_with fail
        go_ret3
        exact ⟨rfl,by rw [hR.o,hGn.o];exact ⟨aj+1,by have:=haj.o;omega,by have:=hSs.o;omega,by rw [hSd.o],by first | rfl | (go_num)⟩⟩
     ·have hnn:n=(y:Int):=by rw [hn.o,zhG ho,hy.o]
      have f3:wrap64 (y:Int)=n:=by rw [hnn];exact zm0 hyl
      have f4:(z:Int).tmod 2=0:=by rw [Int.tmod_eq_emod_of_nonneg (by omega)];omega
      replace hnn:=Y hnn;replace ho:=Y ho;clear hyl hzl f5
      by_cases hb0:bt=0
      ·have h4:((bt:Int)==0)=true:=by rw [beq_iff_eq];omega
       have h4i:(bt:Int)=0:=by omega
       by_cases hj0:0 < j
       ·have h3:(0:Int) < (sj:Int):=by have:=hsj.o;omega
        have h5:0 < sj:=by omega
        rw [if_pos (.inl ⟨hb0,hj0⟩)] at hGn;replace hGn:=Y hGn;replace hb0:=Y hb0;replace hj0:=Y hj0;clear h4i;go_wp2_with fail
        go_ret3
        exact ⟨rfl,by rw [hR.o,hGn.o];rfl⟩
       ·have h3:¬ (0:Int) < (sj:Int):=by have:=hsj.o;omega
        have h5:¬ 0 < sj:=by omega
        by_cases hlow:n < -4611686018427387903
        ·rw [if_pos (.inr hlow)] at hGn
         replace hGn:=Y hGn;replace hb0:=Y hb0;replace hj0:=Y hj0;clear h4i;go_wp2_with fail
         go_ret3
         exact ⟨rfl,by rw [hR.o,hGn.o];rfl⟩
        ·rw [if_neg (fun hh=>hh.elim (fun q=>hj0 q.2) hlow)] at hGn
         replace hGn:=Y hGn;replace hb0:=Y hb0;replace hj0:=Y hj0;clear h4i;go_wp2_with fail
         go_ret3
         exact ⟨rfl,by rw [hR.o,hGn.o];exact ⟨aj+1,by have:=haj.o;omega,by have:=hSs.o;omega,by rw [hSd.o],by first | rfl | (go_num)⟩⟩
      ·have h4:((bt:Int)==0)=false:=by rw [beq_eq_false_iff_ne];omega
       have h4i:¬ (bt:Int)=0:=by omega
       by_cases hlow:n < -4611686018427387903
       ·rw [if_pos (.inr hlow)] at hGn
        replace hGn:=Y hGn;replace hb0:=Y hb0;go_wp2_with fail
        go_ret3
        exact ⟨rfl,by rw [hR.o,hGn.o];rfl⟩
       ·rw [if_neg (fun hh=>hh.elim (fun q=>hb0 q.1) hlow)] at hGn
        replace hGn:=Y hGn;replace hb0:=Y hb0;go_wp2_with fail
        go_ret3
        exact ⟨rfl,by rw [hR.o,hGn.o];exact ⟨aj+1,by have:=haj.o;omega,by have:=hSs.o;omega,by rw [hSd.o],by first | rfl | (go_num)⟩⟩
  ·obtain rfl:gk=0:=by omega
   have hd:decide ((sj:Int) < 63)=false:=decide_eq_false (by omega);have hdi:¬ (sj:Int) < 63:=by omega
   replace hGj:=Y (show G=none from hGj);replace hsj:=Y hsj;go_wp2_with fail
   go_ret3
   exact ⟨rfl,by rw [hR.o,hGj.o];rfl⟩
def znX (t:Bs) (a:Nat) (e:Ending) (G:Option (Bs × Bs)):Prop:=match G with
 | none=>e=.returned (.tuple #[.string ⟨#[]⟩,.int .i64 0,.int .i64 10])
 | some x=>∃ b:Nat,a < b/\b<=t.length/\x.2=t.drop b/\e=.returned (.tuple #[.string ⟨x.1.toArray⟩,.int .i64 b,.int .i64 0])
def znq (t:Bs) (a:Nat) (e:Ending):Prop:=znX t a e (zhj (t.drop a))
theorem zdD (s:Bs) (a b:Nat):(⟨s.toArray⟩:ByteArray).extract a b=⟨((s.take b).drop a).toArray⟩:=by
 apply ByteArray.ext;rw [ByteArray.data_extract];apply Array.ext';simp [List.extract_eq_take_drop,List.drop_take]
theorem zgb (t:Bs) (a:Nat) (ha:a<=t.length) (hs:t.length<=1000000) (w:World):
  Calls Tryz.prog 194 #[.string ⟨t.toArray⟩,.int .i64 a] w fun e w'=>w=w'/\znq t a e:=by
 have h1:=Y (zgE t a ha hs w);obtain ⟨G,hG⟩:∃ G,G=zhj (t.drop a):=⟨_,rfl⟩;have hR:Hid (∀ e,znq t a e=znX t a e G):=Y (fun e=>by rw [hG];rfl);obtain ⟨S,hS⟩:∃ S:ByteArray,S=⟨t.toArray⟩:=⟨_,rfl⟩;have hSs:S.size=t.length:=by rw [hS];rfl
 rw [<- hS] at h1 ⊢;have hsl:S.size<=1000000:=by omega
 have hex:Hid (∀ b k:Nat,S.extract b (b+k)=⟨((t.drop b).take k).toArray⟩):=Y (fun b k=>by rw [hS,zdD,<- List.take_drop]);replace hS:=Y hS;replace hSs:=Y hSs;go_enter Tryz.func194,Tryz.ntmps194;go_wp2_with fail
 refine h1.o.mono ?_;rintro e w1 ⟨rfl,hi⟩;unfold zjo zlP at hi;unfold zhj at hG;clear h1;cases hg:zdt (t.drop a) with
 | none=>
  rw [hg] at hi hG;simp only at hi hG;subst hi;replace hG:=Y hG;go_wp2_with fail
  go_ret3
  exact ⟨rfl,by rw [hR.o,hG.o];rfl⟩
 | some x=>
  obtain ⟨n,r⟩:=x;rw [hg] at hi hG;simp only at hi hG;obtain ⟨b,hab,hbl,hrb,rfl⟩:=hi;have hrl:(r.length:Int)=(S.size:Int) - (b:Int):=by rw [hrb,List.length_drop];have:=hSs.o;omega
  rw [hrl] at hG;have hbS:b<=S.size:=by have:=hSs.o;omega
  replace hrl:=Y hrl;replace hrb:=Y hrb;replace hbl:=Y hbl;replace hg:=Y hg
  by_cases h1:n < 0
  ·rw [if_pos (.inl h1)] at hG
   replace hG:=Y hG;go_wp2_with fail
   go_ret3
   exact ⟨rfl,by rw [hR.o,hG.o];rfl⟩
  by_cases h2:65536 < n
  ·rw [if_pos (.inr (.inl h2))] at hG
   replace hG:=Y hG;go_wp2_with fail
   go_ret3
   exact ⟨rfl,by rw [hR.o,hG.o];rfl⟩
  have hsw:IntKind.i64.wrap ((S.size:Int) - (b:Int))=(S.size:Int) - (b:Int):=IntWalk.i64_in _ (by omega)
  by_cases h3:(S.size:Int) - (b:Int) < n
  ·rw [if_pos (.inr (.inr h3))] at hG
   replace hG:=Y hG;go_wp2_with fail
   go_ret3
   exact ⟨rfl,by rw [hR.o,hG.o];rfl⟩
  rw [if_neg (by rintro (h | h | h);exact h1 h;exact h2 h;exact h3 h)] at hG;obtain ⟨k,rfl⟩:∃ k:Nat,n=k:=⟨n.toNat,by omega⟩;have hk:b+k<=S.size:=by omega
  have hki:(b:Int)+(k:Int)<=(S.size:Int):=by omega
  have hkl:(b:Int)<=(b:Int)+(k:Int):=by omega
  have haw:IntKind.i64.wrap ((b:Int)+(k:Int))=(b:Int)+(k:Int):=IntWalk.i64_in _ (by omega);have hx:=hex.o b k;replace hG:=Y hG;go_wp2_with fail
  go_ret3
  refine ⟨rfl,?_⟩;rw [hR.o,hG.o];refine ⟨b+k,by omega,by have:=hSs.o;omega,?_,?_⟩
  ·show r.drop (k:Int).toNat=t.drop (b+k)
   rw [hrb.o,List.drop_drop,Int.toNat_natCast]
  ·show Ending.returned (.tuple #[.string (S.extract b (b+k)),.int .i64 ((b:Int)+(k:Int)),.int .i64 0])=.returned (.tuple #[.string ⟨(r.take (k:Int).toNat).toArray⟩,.int .i64 ((b+k:Nat):Int),.int .i64 0])
   rw [hx,hrb.o,Int.toNat_natCast]
   rfl
theorem zmc:∀ (l:List Int) cs fr,(Obj.cells (l.flatMap zcZ).toArray 3 (0,0)) ≠ .cells cs u8T fr:=by
 intro l cs fr e;injection e with _ e _
 exact absurd e (by decide)
theorem zaJ.block {W:World} {k:Nat} {cs:List Value} {t:TypeId} (h:W.heap[k]?=some (.cells cs.toArray t (0,0))):zaJ W (some ⟨k,0,none⟩) cs:=fun j u hu=>by
 refine ⟨k,0,rfl,?_⟩
 rw [Nat.zero_add,zaa h j]
 simpa using hu
theorem zkW {B b k:Nat} {l:List Int} {w W:World} (hk:w.heap[k]?=some (.cells (l.flatMap zcZ).toArray 3 (0,0))) (hb:k ≠ b) (K:za4 B b w W) (hl:l.length<=1000000):
  zaF (fun _=>True) W (.slice (some ⟨k,0,none⟩) l.length l.length) l:=
 ⟨some ⟨k,0,none⟩,l.length,rfl,zaJ.block (K.2 k _ hk (zmc l) hb),fun _ _ _ _=>trivial,Nat.le_refl _,⟨by omega,by omega⟩,fun e=>nomatch e⟩
theorem zcM (B b:Nat) (tx:Bs) (l:List Int) (hl:∀ x ∈ l,-4611686018427387903<=x/\x<=4611686018427387903) (w:World) (h:Bld B b tx w) (k n m:Nat) (cs:Array Value) (hk:w.heap.size=k) (hn:l.length=n) (hm:l.length=m) (hcs:(l.flatMap zcZ).toArray=cs) (hlen:tx.length+10*l.length<=1000000):
  Calls Tryz.prog 206 #[.pointer (some ⟨b,0,none⟩),.slice (some ⟨k,0,none⟩) n m] (w.alloc (.cells cs 3)) fun e w'=>e=.returned (.tuple #[])/\Bld B b (tx++zaB l) w'/\za4 B b w w':=by
 subst hk hn hcs;rw [<- hm];have hx:=Mod.alloc (Mod.refl (fun _=>False) w) (.cells (l.flatMap zcZ).toArray 3);have hb:=h.lt;refine (zfx B b tx _ l hl _ (h.ext hx) (fun W K=>zkW (heap_alloc_new w _) (by omega) K (by omega)) (by omega)).mono ?_;rintro e w' ⟨rfl,h1,h2⟩;exact ⟨rfl,h1,za4.pre hx h2⟩
theorem zaE.below {B:Nat} {w w':World} {v:Value} {l:List Bk} (h:zaE (fun k=>k < B) w v l) (hm:Mod (fun k=>B<=k) w w'):zaE (fun k=>k < B) w' v l:=h.mod hm (fun k h1 h2=>by omega)
theorem zac.below {α:Type} {f:α -> List Value} {B:Nat} {w w':World} {v:Value} {l:List α} (h:zac (fun k=>k < B) w f v l) (hm:Mod (fun k=>B<=k) w w'):zac (fun k=>k < B) w' f v l:=h.mod hm (fun k h1 h2=>by omega)
theorem zcC {cs':Array Value}:∀ cs fr,(Obj.cells cs' 118 (0,0)) ≠ .cells cs u8T fr:=by
 intro cs fr e;injection e with _ e _
 exact absurd e (by decide)
theorem zao {B:Nat} {w w':World} (hB:w.heap.size<=B) (h:Mod (fun k=>B<=k) w w'):Ext w w':=h.mono' (fun k h1 h2=>by omega)
theorem zh3 (a b:List Int):zaB (a++b)=zaB a++zaB b:=by unfold zaB;simp
theorem zaH:∀ l:List Int,(zaB l).length<=10*l.length
 | []=>by simp [zaB]
 | x::r=>by
  have h1:=zaH r;have h2:=zay x;have:zaB (x::r)=zbc x++zaB r:=by simp [zaB]
  rw [this];simp;omega
theorem zka (v:Value) (l:List Bk) (w:World) (h:zaE (fun k=>k < w.heap.size) w v l) (hv:zec l=true):
  Calls Tryz.prog 178 #[v] w fun e w'=>e=.returned (.tuple #[.string ⟨(zcl l).toArray⟩,.int .i64 0])/\Ext w w':=by
 obtain ⟨tz,htz⟩:∃ tz,tz=zcl l:=⟨_,rfl⟩;rw [<- htz];have hgood:=Y (zcp hv);have hl24:=hgood.o.1;have hvl:=Y (fun W (hX:Ext w W)=>zb4 v l W (h.ext hX));rw [hv] at hvl;replace htz:tz=zbc l.length++l.flatMap zgR:=by rw [htz,zcl,if_pos hv]
 obtain ⟨ao,cap,rfl⟩:=h.slice;obtain ⟨n,hn⟩:∃ n,n=l.length:=⟨_,rfl⟩;rw [<- hn] at h hl24 htz hvl ⊢;replace hn:=Y hn;replace h:=Y h;replace htz:=Y htz;have hw0:=Y (Mod.refl (fun _=>False) w);go_enter Tryz.func178,Tryz.ntmps178;go_wp2_with fail
 refine (hvl.o w hw0.o).mono ?_;rintro e w1 ⟨rfl,hx1⟩;replace hx1:=Y hx1;clear hvl;go_wp2_with fail
 have hb0:=Bld.fresh w1;have hxb:=Mod.alloc (Mod.refl (fun _=>False) w1) (.cells #[.pointer none,.slice none 0 0] zhl);refine (zcM w1.heap.size w1.heap.size [] [(n:Int)] (by intro x hx;simp at hx;omega) _ hb0 _ _ _ _ (by rw [World.size_alloc]) rfl rfl rfl (by simp)).mono ?_;rintro e w2 ⟨rfl,hB2,hK2⟩;clear hb0;have hw2:=Y (zao (Nat.le_refl _) (((hxb.mono (T:=fun k=>w1.heap.size<=k) (fun _ h=>h.elim))).trans hK2.1));have hw2:=Y (hx1.o.trans hw2.o);have hs1:w.heap.size<=w1.heap.size:=hx1.o.size;generalize w1.heap.size=B at hB2 hK2 hs1 ⊢;replace hB2:=Y hB2;clear hK2 hxb hx1;go_wp2_with fail
 go_loopg [18] n (fun g i wr=>∃ (j:Nat) (ty:Bs),j+g=n/\i=.int .i64 j/\Bld B B ty wr/\za4 B B w2 wr/\tz=ty++(l.drop j).flatMap zgR/\ty.length<=10+2000*j)
 case atStart=>exact ⟨0,zbc n,by omega,rfl,by simpa [zaB] using hB2.o,za4.refl _ _ _,htz.o,by have:=zay (n:Int);omega⟩
 case round=>
  clear htz hB2;obtain ⟨j,ty,hj,rfl,hB,hK,ht,hlen⟩:=hrel;replace hj:=Y hj
  by_cases hlt:j < n
  ·have hdi:(j:Int) < (n:Int):=by omega
   have hd:decide ((j:Int) < (n:Int))=true:=decide_eq_true hdi;have hjl:j < l.length:=by have:=hn.o;omega
   have hm:Mod (fun k=>B<=k) w wr:=(hw2.o.mono (T:=fun k=>B<=k) (fun _ h=>h.elim)).trans hK.1;obtain ⟨b1,o1,a1,m1,c1,rfl,-,hF1,hI1,g0,g1,g2,g3,g4,g5,g6,g7,g8⟩:=(h.o.mod hm (fun k h1 h2=>by omega)).cells hjl;have hgb:=hgood.o.2 l[j] (List.getElem_mem _);rw [List.drop_eq_getElem_cons hjl] at ht;generalize l[j]=bb at g0 g1 g2 g3 g4 g5 g7 g8 hI1 hgb ht;obtain ⟨i1,k1,x1,s1,r1,t1,y1,p1,q1⟩:=bb;simp only at g0 g1 g2 g3 g4 g5 g6 g7 g8 hI1;have hm1:m1=y1.length:=by
    obtain ⟨_,_,e⟩:=hI1.slice;injection e
   obtain ⟨hg1,hg2,hg3,hg4,hg5,⟨hg6,hg7,hg8,hg9,hg10⟩⟩:=hgb;simp only at hg1 hg2 hg3 hg4 hg5 hg6 hg7 hg8 hg9 hg10;have hm64:m1<=64:=by omega
   have hq1:=Y (show ∀ x ∈ [i1,k1],-4611686018427387903<=x/\x<=4611686018427387903 by intro x hx;simp at hx;omega);have hq2:=Y (show ∀ x ∈ [s1,r1,t1,(m1:Int)],-4611686018427387903<=x/\x<=4611686018427387903 by intro x hx;simp at hx;omega);have hq3:=Y (show ∀ x ∈ y1,-4611686018427387903<=x/\x<=4611686018427387903 by intro x hx;have:=hg10 x hx;omega);have hq4:=Y (show ∀ x ∈ [p1,q1],-4611686018427387903<=x/\x<=4611686018427387903 by intro x hx;simp at hx;omega);clear hg1 hg2 hg4 hg5 hg6 hg7 hg8 hg10;have ht2:tz=((((((ty++zaB [i1,k1])++zeQ x1)++zaB [s1,r1,t1,(m1:Int)])++zaB y1)++zaB [p1,q1]))++(l.drop (j+1)).flatMap zgR:=by
    rw [ht,hm1];simp [zgR,zaB]
   clear ht;have l1:=zaH [i1,k1];have l2:=zb3 x1;have l3:=zaH [s1,r1,t1,(m1:Int)];have l4:=zaH y1;have l5:=zaH [p1,q1];simp only [List.length_cons,List.length_nil] at l1 l3 l5;have hjn:j < 24:=by omega
   have hxT:=Mod.alloc (Mod.refl (fun _=>False) wr) (.cells #[.int .i64 i1,.int .i64 k1,.string ⟨x1.toArray⟩,.int .i64 s1,.int .i64 r1,.int .i64 t1,.slice a1 m1 c1,.int .i64 p1,.int .i64 q1] 118);have hT:=heap_alloc_new wr (.cells #[.int .i64 i1,.int .i64 k1,.string ⟨x1.toArray⟩,.int .i64 s1,.int .i64 r1,.int .i64 t1,.slice a1 m1 c1,.int .i64 p1,.int .i64 q1] 118);have hBl:=hB.lt;have hBT:=hB.ext hxT;have hKT:=hK.ext hxT;replace hB:=Y hB;replace hlen:=Y hlen;replace ht2:=Y ht2;replace hm1:=Y hm1;replace hI1:=Y hI1;replace hK:=Y hK;replace hm:=Y hm;replace l1:=Y l1;replace l2:=Y l2;replace l3:=Y l3;replace l4:=Y l4;replace l5:=Y l5;have hg3:=Y hg3;have hg9:=Y hg9;go_upto_region 8 with fail
   have hTB:wr.heap.size ≠ B:=by omega
   generalize wr.heap.size=T at hT hTB ⊢;generalize (wr.alloc (.cells #[.int .i64 i1,.int .i64 k1,.string ⟨x1.toArray⟩,.int .i64 s1,.int .i64 r1,.int .i64 t1,.slice a1 m1 c1,.int .i64 p1,.int .i64 q1] 118))=wa at hxT hT hBT hKT ⊢;clear g0 g1 g2 g3 g4 g5 g6 g7 g8;replace hT:=Y hT;have hIa:=Y (hI1.o.ext hxT);replace hxT:=Y hxT;have f0:=cS hT.o 0;have f1:=cS hT.o 1;have f2:=cS hT.o 2;have f3:=cS hT.o 3;have f4:=cS hT.o 4;have f5:=cS hT.o 5;have f6:=cS hT.o 6;have f7:=cS hT.o 7;have f8:=cS hT.o 8;go_wp2_with fail
   refine (zcM B B ty [i1,k1] hq1.o _ hBT _ _ _ _ rfl rfl rfl rfl (by have:=hlen.o;have:=l1.o;have:=l2.o;have:=l3.o;have:=l4.o;have:=hg3.o;have:=hg9.o;simp only [List.length_cons,List.length_nil];omega)).mono ?_;rintro e w4 ⟨rfl,hBN,hKN⟩;have hT2:=Y (hKN.2 T _ hT.o zcC hTB);clear f0 f1 f2 f3 f4 f5 f6 f7 f8;have hK2:=hKT.trans hKN;have hI2:=Y (hIa.o.mod hKN.1 (fun k h1 h2=>by omega));clear hT hBT hKT hIa;have hT:=hT2;have hBT:=hBN;have hKT:=hK2;have hIa:=hI2;clear hKN hT2 hBN hK2 hI2;have f0:=cS hT.o 0;have f1:=cS hT.o 1;have f2:=cS hT.o 2;have f3:=cS hT.o 3;have f4:=cS hT.o 4;have f5:=cS hT.o 5;have f6:=cS hT.o 6;have f7:=cS hT.o 7;have f8:=cS hT.o 8;go_wp2_with fail
   refine (zdO x1 (by have:=hg3.o;omega) _).mono ?_;rintro e w5 ⟨rfl,hx5⟩;have hKN:=za4.ofExt (B:=B) (b:=B) hx5;have hBN:=hBT.ext hx5;have hT2:=Y (hKN.2 T _ hT.o zcC hTB);clear f0 f1 f2 f3 f4 f5 f6 f7 f8;have hK2:=hKT.trans hKN;have hI2:=Y (hIa.o.mod hKN.1 (fun k h1 h2=>by omega));clear hT hBT hKT hIa;have hT:=hT2;have hBT:=hBN;have hKT:=hK2;have hIa:=hI2;clear hKN hT2 hBN hK2 hI2;have f0:=cS hT.o 0;have f1:=cS hT.o 1;have f2:=cS hT.o 2;have f3:=cS hT.o 3;have f4:=cS hT.o 4;have f5:=cS hT.o 5;have f6:=cS hT.o 6;have f7:=cS hT.o 7;have f8:=cS hT.o 8;go_wp2_with fail
   refine (zes B B _ ⟨(zeQ x1).toArray⟩ w5 hBT (by have:=hlen.o;have:=l1.o;have:=l2.o;have:=hg3.o;rw [za6];simp only [List.length_append];omega)).mono ?_;rintro e w6 ⟨rfl,hBN,hKN⟩;have hT2:=Y (hKN.2 T _ hT.o zcC hTB);clear f0 f1 f2 f3 f4 f5 f6 f7 f8;have hK2:=hKT.trans hKN;have hI2:=Y (hIa.o.mod hKN.1 (fun k h1 h2=>by omega));clear hT hBT hKT hIa;have hT:=hT2;have hBT:=hBN;have hKT:=hK2;have hIa:=hI2;clear hKN hT2 hBN hK2 hI2;have f0:=cS hT.o 0;have f1:=cS hT.o 1;have f2:=cS hT.o 2;have f3:=cS hT.o 3;have f4:=cS hT.o 4;have f5:=cS hT.o 5;have f6:=cS hT.o 6;have f7:=cS hT.o 7;have f8:=cS hT.o 8;go_wp2_with fail
   refine (zcM B B _ [s1,r1,t1,(m1:Int)] hq2.o _ hBT _ _ _ _ rfl rfl rfl rfl (by have:=hlen.o;have:=l1.o;have:=l2.o;have:=l3.o;have:=l4.o;have:=hg3.o;have:=hg9.o;simp only [List.length_append,List.length_cons,List.length_nil];omega)).mono ?_;rintro e w7 ⟨rfl,hBN,hKN⟩;have hT2:=Y (hKN.2 T _ hT.o zcC hTB);clear f0 f1 f2 f3 f4 f5 f6 f7 f8;have hK2:=hKT.trans hKN;have hI2:=Y (hIa.o.mod hKN.1 (fun k h1 h2=>by omega));clear hT hBT hKT hIa;have hT:=hT2;have hBT:=hBN;have hKT:=hK2;have hIa:=hI2;clear hKN hT2 hBN hK2 hI2;have f0:=cS hT.o 0;have f1:=cS hT.o 1;have f2:=cS hT.o 2;have f3:=cS hT.o 3;have f4:=cS hT.o 4;have f5:=cS hT.o 5;have f6:=cS hT.o 6;have f7:=cS hT.o 7;have f8:=cS hT.o 8;go_wp2_with fail
   refine (zfx B B _ (.slice a1 m1 c1) y1 hq3.o w7 hBT (fun W K=>(hIa.o.mod K.1 (fun k h1 h2=>by omega)).mono (fun _ _=>trivial)) (by have:=hlen.o;have:=l1.o;have:=l2.o;have:=l3.o;have:=hg3.o;have:=hg9.o;simp only [List.length_append];omega)).mono ?_;rintro e w8 ⟨rfl,hBN,hKN⟩;have hT2:=Y (hKN.2 T _ hT.o zcC hTB);clear f0 f1 f2 f3 f4 f5 f6 f7 f8;have hK2:=hKT.trans hKN;have hI2:=Y (hIa.o.mod hKN.1 (fun k h1 h2=>by omega));clear hT hBT hKT hIa;have hT:=hT2;have hBT:=hBN;have hKT:=hK2;have hIa:=hI2;clear hKN hT2 hBN hK2 hI2;have f0:=cS hT.o 0;have f1:=cS hT.o 1;have f2:=cS hT.o 2;have f3:=cS hT.o 3;have f4:=cS hT.o 4;have f5:=cS hT.o 5;have f6:=cS hT.o 6;have f7:=cS hT.o 7;have f8:=cS hT.o 8;go_wp2_with fail
   refine (zcM B B _ [p1,q1] hq4.o _ hBT _ _ _ _ rfl rfl rfl rfl (by have:=hlen.o;have:=l1.o;have:=l2.o;have:=l3.o;have:=l4.o;have:=hg3.o;have:=hg9.o;simp only [List.length_append,List.length_cons,List.length_nil];omega)).mono ?_;rintro e w9 ⟨rfl,hBN,hKN⟩;have hT2:=Y (hKN.2 T _ hT.o zcC hTB);clear f0 f1 f2 f3 f4 f5 f6 f7 f8;have hK2:=hKT.trans hKN;have hI2:=Y (hIa.o.mod hKN.1 (fun k h1 h2=>by omega));clear hT hBT hKT hIa;have hT:=hT2;have hBT:=hBN;have hKT:=hK2;have hIa:=hI2;clear hKN hT2 hBN hK2 hI2;replace hBT:=Y hBT;replace hKT:=Y hKT;go_wp2_with fail
   go_roundg (gk - 1)
   case measure=>have:=hj.o;omega
   case rel=>exact ⟨j+1,_,by have:=hj.o;omega,by go_num,hBT.o,hKT.o,ht2.o,by have:=hlen.o;have:=l1.o;have:=l2.o;have:=l3.o;have:=l4.o;have:=l5.o;have:=hg3.o;have:=hg9.o;simp only [List.length_append];omega⟩
  ·obtain rfl:j=n:=by have:=hj.o;omega
   have hdi:¬ (j:Int) < (j:Int):=by omega
   have hd:decide ((j:Int) < (j:Int))=false:=decide_eq_false hdi;rw [List.drop_eq_nil_of_le (by have:=hn.o;omega)] at ht;have hBl:=hB.lt;have hm:Mod (fun k=>B<=k) w wr:=(hw2.o.mono (T:=fun k=>B<=k) (fun _ h=>h.elim)).trans hK.1;replace ht:=Y ht;replace hm:=Y hm;have hst:=Y (zgL B B ty wr hB);clear hB hK;go_wp2_with fail
   refine hst.o.mono ?_;rintro e w4 ⟨rfl,hm4⟩;replace hm4:=Y hm4;go_wp2_with fail
   go_ret2
   exact ⟨by rw [ht.o];simp,zao hs1 (hm.o.trans hm4.o)⟩
end Go.Proofs.YtjjfphalcibjfaaGreatDoor
