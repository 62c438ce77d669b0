import Derived.Lib.AtoiAll
import Derived.Lib.ItoaNum
import Derived.Lib.AtoiAllCases
import Derived.WalkKit
import Derived.WalkSpells
import Derived.WalkLawsBesides
import Derived.Deep.LoopGhost
import Derived.Deep.DeepCutAuto
import Derived.Deep.QuietTactic
import Derived.BigQuiet
import Derived.Deep.RegionHeld3
import Derived.Deep.DeepFit
import Derived.StillTailTactics
set_option linter.all false
namespace Scr
abbrev Bs:=List UInt8
structure Ms where
 kd:Int
 pa:Int
 sq:Int
 st:Int
 ba:Int
 ve:Int
 da:Bs
deriving DecidableEq
def Ms.zero:Ms:=⟨0,0,0,0,0,0,[]⟩
def rng (n a b:Int):Bool:=decide (a<=n) && decide (n<=b)
def isSum (n:Int):Bool:=rng n 0 4294967295
def vMs (m:Ms):Bool:=
 rng m.pa 1 8 && (rng m.sq 1 4611686018427387903 && (rng m.st 1 64 && (isSum m.ba && (isSum m.ve &&
  (if m.kd=1 then decide (m.da.length<=16384)
   else if m.kd=2 then decide (m.ba=0) && (decide (m.ve=0) && m.da.isEmpty)
   else if m.kd=3 then decide (m.ba=0) && m.da.isEmpty
   else if m.kd=4 then decide (m.ve=0) && m.da.isEmpty
   else false)))))
def dig (n:Nat):UInt8:=UInt8.ofNat (48+n)
def decF:Nat -> Nat -> Bs
 | 0,_=>[]
 | f+1,n=>if n < 10 then [dig n] else decF f (n / 10)++[dig (n % 10)]
def itoa (n:Int):Bs:=if n < 0 then 45::decF 20 n.natAbs else decF 20 n.toNat
def grpF:Nat -> Nat -> Bs
 | 0,_=>[]
 | f+1,z=>if z < 128 then [UInt8.ofNat z] else UInt8.ofNat (z % 128+128)::grpF f (z / 128)
def zz (n:Int):Nat:=if n < 0 then 2*n.natAbs - 1 else 2*n.toNat
def putI (n:Int):Bs:=if n < -4611686018427387903 \/ 4611686018427387903 < n then [] else grpF 10 (zz n)
def putS (s:Bs):Bs:=if 65536 < s.length then [] else putI s.length++s
def getIF:Nat -> Nat -> Nat -> Bs -> Option (Int × Bs)
 | 0,_,_,_=>none
 | _+1,_,_,[]=>none
 | f+1,i,acc,b::r=>
  if 128<=b.toNat then getIF f (i+1) (acc+b.toNat % 128*2 ^ (7*i)) r
  else
   let z:=acc+b.toNat*2 ^ (7*i)
   let n:Int:=if z % 2=1 then -((z / 2:Nat):Int) - 1 else ((z / 2:Nat):Int)
   if (b.toNat=0/\0 < i) \/ n < -4611686018427387903 then none else some (n,r)
def getI (s:Bs):Option (Int × Bs):=getIF 9 0 0 s
def getS (s:Bs):Option (Bs × Bs):=
 match getI s with
 | none=>none
 | some (n,r)=>if n < 0 \/ 65536 < n \/ (r.length:Int) < n then none else some (r.take n.toNat,r.drop n.toNat)
def shiftsT:List UInt32:=[0x00000000,0x105ec76f,0x20bd8ede,0x30e349b1,0x417b1dbc,0x5125dad3,0x61c69362,0x7198540d,0x82f63b78,0x92a8fc17,0xa24bb5a6,0xb21572c9,0xc38d26c4,0xd3d3e1ab,0xe330a81a,0xf36e6f75]
def nib (r:UInt32):UInt32:=(r >>> 4) ^^^ (shiftsT.getD (r.toNat % 16) 0)
def crcF:UInt32 -> Bs -> UInt32
 | r,[]=>r
 | r,c::s=>crcF (nib (nib (r ^^^ c.toUInt32))) s
def crc (s:Bs):Int:=((crcF 0xFFFFFFFF s) ^^^ 0xFFFFFFFF).toNat
def putIs (l:List Int):Bs:=l.flatMap putI
abbrev Rb (α:Type):=Bs -> Except Int (α × Bs)
def rbI:Rb Int:=fun s=>match getI s with | none=>.error 10 | some x=>.ok x
def rbS:Rb Bs:=fun s=>match getS s with | none=>.error 10 | some x=>.ok x
def bodyM (m:Ms):Bs:=putIs [m.kd,m.pa,m.sq,m.st,m.ba,m.ve]++putS m.da
def encM (m:Ms):Bs:=if vMs m then putI (crc (bodyM m))++bodyM m else []
def decM (s:Bs):Except Int Ms:=do
 let (sum,s) <- rbI s
 if sum ≠ crc s then .error 200
 let (a,s) <- rbI s
 let (b,s) <- rbI s
 let (c,s) <- rbI s
 let (d,s) <- rbI s
 let (e,s) <- rbI s
 let (f,s) <- rbI s
 let (da,s) <- rbS s
 if !s.isEmpty then .error 10
 let m:Ms:=⟨a,b,c,d,e,f,da⟩
 if vMs m then .ok m else .error 200
def parts (c:UInt8):Bs -> List Bs
 | []=>[[]]
 | x::r=>if x=c then []::parts c r else match parts c r with
  | []=>[[x]]
  | p::q=>(x::p)::q
theorem decF_eq:∀ (f n:Nat),n < 10 ^ f -> 0 < f -> decF f n=Go.Lib.decDigits n
 | 0,n,_,h=>by omega
 | f+1,n,h,_=>by
  rw [Go.Lib.decDigits]
  by_cases h10:n < 10
  ·rw [dif_pos h10];simp only [decF,if_pos h10];rfl
  ·rw [dif_neg h10]
   have hf:0 < f:=by
    cases f with
    | zero=>simp at h;omega
    | succ f=>omega
   simp only [decF,if_neg h10]
   rw [decF_eq f (n / 10) (by rw [Nat.pow_succ] at h;omega) hf];rfl
theorem itoa_eq {n:Int} (h1:-9223372036854775808<=n) (h2:n<=9223372036854775807):itoa n=Go.Lib.itoa n:=by
 unfold itoa Go.Lib.itoa
 by_cases h:n < 0
 ·rw [if_pos h,if_pos h,decF_eq 20 _ (by simp only [Nat.reducePow];omega) (by decide)]
 ·rw [if_neg h,if_neg h,decF_eq 20 _ (by simp only [Nat.reducePow];omega) (by decide)]
def valZ (z:Nat):Int:=if z % 2=1 then -((z / 2:Nat):Int) - 1 else ((z / 2:Nat):Int)
theorem getIF_grp:∀ (f g i acc z:Nat) (r:Bs),z < 128 ^ f -> z < 128 ^ g -> 0 < f -> 0 < g -> (i=0 \/ 0 < z) →
  getIF g i acc (grpF f z++r)=if valZ (acc+z*2 ^ (7*i)) < -4611686018427387903 then none else some (valZ (acc+z*2 ^ (7*i)),r)
 | 0,_,_,_,_,_,_,_,h,_,_=>by omega
 | _+1,0,_,_,_,_,_,_,_,h,_=>by omega
 | f+1,g+1,i,acc,z,r,h1,h2,_,_,h5=>by
  by_cases hz:z < 128
  ·have hb:(UInt8.ofNat z).toNat=z:=by rw [UInt8.toNat_ofNat'];simp only [Nat.reducePow];omega
   simp only [grpF,if_pos hz,List.cons_append,List.nil_append,getIF,hb]
   rw [if_neg (by omega)]
   have hc:¬ (z=0/\0 < i):=by omega
   unfold valZ
   by_cases hv:(if (acc+z*2 ^ (7*i)) % 2=1 then -(((acc+z*2 ^ (7*i)) / 2:Nat):Int) - 1 else (((acc+z*2 ^ (7*i)) / 2:Nat):Int)) < -4611686018427387903
   ·rw [if_pos hv,if_pos (.inr hv)]
   ·rw [if_neg hv,if_neg (by rintro (h | h);exact hc h;exact hv h)]
  ·have hb:(UInt8.ofNat (z % 128+128)).toNat=z % 128+128:=by rw [UInt8.toNat_ofNat'];simp only [Nat.reducePow];omega
   simp only [grpF,if_neg hz,List.cons_append,getIF,hb]
   rw [if_pos (by omega)]
   have hf:0 < f:=by
    cases f with
    | zero=>simp at h1;omega
    | succ f=>omega
   have hg:0 < g:=by
    cases g with
    | zero=>simp at h2;omega
    | succ g=>omega
   rw [Nat.pow_succ] at h1 h2
   rw [getIF_grp f g (i+1) _ (z / 128) r (by omega) (by omega) hf hg (.inr (by omega))]
   have e:acc+(z % 128+128) % 128*2 ^ (7*i)+z / 128*2 ^ (7*(i+1))=acc+z*2 ^ (7*i):=by
    have h7:2 ^ (7*(i+1))=128*2 ^ (7*i):=by rw [Nat.mul_add,Nat.pow_add,Nat.mul_one,Nat.mul_comm]
    rw [h7,<- Nat.mul_assoc,Nat.add_assoc,<- Nat.add_mul]
    congr 2;omega
   rw [e]
theorem getI_putI {n:Int} (h1:-4611686018427387903<=n) (h2:n<=4611686018427387903) (r:Bs):getI (putI n++r)=some (n,r):=by
 unfold putI getI
 rw [if_neg (by omega)]
 have hz:zz n < 9223372036854775808:=by unfold zz;split <;> omega
 rw [getIF_grp 10 9 0 0 (zz n) r (by simp only [Nat.reducePow];omega) (by simp only [Nat.reducePow];omega) (by decide) (by decide) (.inl rfl)]
 have hv:valZ (0+zz n*2 ^ (7*0))=n:=by
  simp only [Nat.mul_zero,Nat.pow_zero,Nat.mul_one,Nat.zero_add]
  unfold valZ zz
  by_cases h:n < 0
  ·rw [if_pos h,if_pos (by omega)];omega
  ·rw [if_neg h,if_neg (by omega)];omega
 rw [hv,if_neg (by omega)]
theorem getS_putS {s:Bs} (h:s.length<=65536) (r:Bs):getS (putS s++r)=some (s,r):=by
 unfold putS getS
 rw [if_neg (by omega),List.append_assoc,getI_putI (by omega) (by omega)]
 simp only
 rw [if_neg (by rw [List.length_append];omega)]
 simp
theorem rbI_putI {n:Int} (h1:-4611686018427387903<=n) (h2:n<=4611686018427387903) (r:Bs):rbI (putI n++r)=.ok (n,r):=by
 unfold rbI;rw [getI_putI h1 h2]
theorem rbS_putS {s:Bs} (h:s.length<=65536) (r:Bs):rbS (putS s++r)=.ok (s,r):=by
 unfold rbS;rw [getS_putS h]
theorem rng_iff {n a b:Int}:rng n a b=true ↔ a<=n/\n<=b:=by unfold rng;simp
theorem crc_rng (s:Bs):0<=crc s/\crc s<=4294967295:=by
 unfold crc
 have:=((crcF 0xFFFFFFFF s) ^^^ 0xFFFFFFFF).toNat_lt
 omega
structure GoodMs (m:Ms):Prop where
 kd:1<=m.kd/\m.kd<=4
 pa:1<=m.pa/\m.pa<=8
 sq:1<=m.sq/\m.sq<=4611686018427387903
 st:1<=m.st/\m.st<=64
 ba:0<=m.ba/\m.ba<=4294967295
 ve:0<=m.ve/\m.ve<=4294967295
 da:m.da.length<=16384
theorem vMs_good {m:Ms} (h:vMs m=true):GoodMs m:=by
 unfold vMs isSum at h
 simp only [Bool.and_eq_true,rng_iff] at h
 obtain ⟨h1,h2,h3,h4,h5,h6⟩:=h
 have hk:(1<=m.kd/\m.kd<=4)/\m.da.length<=16384:=by
  split at h6
  ·simp only [decide_eq_true_eq] at h6;omega
  ·split at h6
   ·simp only [Bool.and_eq_true,decide_eq_true_eq,List.isEmpty_iff] at h6
    rw [h6.2.2];simp;omega
   ·split at h6
    ·simp only [Bool.and_eq_true,decide_eq_true_eq,List.isEmpty_iff] at h6
     rw [h6.2];simp;omega
    ·split at h6
     ·simp only [Bool.and_eq_true,decide_eq_true_eq,List.isEmpty_iff] at h6
      rw [h6.2];simp;omega
     ·cases h6
 exact ⟨hk.1,h1,h2,h3,h4,h5,hk.2⟩
theorem decM_encM {m:Ms} (h:vMs m=true):decM (encM m)=.ok m:=by
 obtain ⟨h1,h2,h3,h4,h5,h6,h7⟩:=vMs_good h
 have hc:=crc_rng (bodyM m)
 unfold encM decM
 rw [if_pos h,rbI_putI (by omega) (by omega)]
 simp only [bind,Except.bind,ne_eq,not_true_eq_false,if_false]
 unfold bodyM putIs
 simp only [List.flatMap_cons,List.flatMap_nil,List.append_nil,List.append_assoc]
 try simp only [pure,Except.pure]
 rw [rbI_putI (by omega) (by omega)]
 simp only
 rw [rbI_putI (by omega) (by omega)]
 simp only
 rw [rbI_putI (by omega) (by omega)]
 simp only
 rw [rbI_putI (by omega) (by omega)]
 simp only
 rw [rbI_putI (by omega) (by omega)]
 simp only
 rw [rbI_putI (by omega) (by omega)]
 simp only
 have:=rbS_putS (s:=m.da) (by omega) []
 rw [List.append_nil] at this
 rw [this]
 simp [h]
end Scr
namespace Cdk
open Go Go.RowKit
theorem hid {p:Prop} (h:p):Hid p:=h
structure Mod (S:Nat -> Prop) (w w':World):Prop where
 os:w'.os=w.os
 tape:w'.tape=w.tape
 output:w'.output=w.output
 size:w.heap.size<=w'.heap.size
 block:∀ k,k < w.heap.size -> ¬ S k -> w'.heap[k]?=w.heap[k]?
abbrev Ext (w w':World):Prop:=Mod (fun _=>False) w w'
variable {S T:Nat -> Prop} {w w' w'':World}
theorem Mod.refl (S:Nat -> Prop) (w:World):Mod S w w:=⟨rfl,rfl,rfl,Nat.le_refl _,fun _ _ _=>rfl⟩
theorem Mod.trans (h:Mod S w w') (k:Mod S w' w''):Mod S w w'':=
 ⟨k.os.trans h.os,k.tape.trans h.tape,k.output.trans h.output,Nat.le_trans h.size k.size,fun i hi hs=>(k.block i (Nat.lt_of_lt_of_le hi h.size) hs).trans (h.block i hi hs)⟩
theorem Mod.mono (h:Mod S w w') (hST:∀ k,S k -> T k):Mod T w w':=
 ⟨h.os,h.tape,h.output,h.size,fun k hk hs=>h.block k hk (fun hS=>hs (hST k hS))⟩
theorem Mod.mono' (h:Mod S w w') (hST:∀ k,k < w.heap.size -> S k -> T k):Mod T w w':=
 ⟨h.os,h.tape,h.output,h.size,fun k hk hs=>h.block k hk (fun hS=>hs (hST k hk hS))⟩
theorem Mod.then (h:Mod S w w') (k:Mod T w' w'') (hT:∀ k,k < w.heap.size -> T k -> S k):Mod S w w'':=
 ⟨k.os.trans h.os,k.tape.trans h.tape,k.output.trans h.output,Nat.le_trans h.size k.size,
  fun i hi hs=>(k.block i (Nat.lt_of_lt_of_le hi h.size) (fun t=>hs (hT i hi t))).trans (h.block i hi hs)⟩
theorem Mod.drew (h:Mod S w w'):Mod S w w'.drew:=⟨h.os,h.tape,h.output,h.size,h.block⟩
theorem Mod.drew0 (S:Nat -> Prop) (w:World):Mod S w w.drew:=(Mod.refl S w).drew
theorem Mod.ofDrewN (h:Mod S w w') (n:Nat):Mod S w (w'.drewN n):=⟨h.os,h.tape,h.output,h.size,h.block⟩
theorem Mod.alloc (h:Mod S w w') (o:Obj):Mod S w (w'.alloc o):=
 ⟨h.os,h.tape,h.output,Nat.le_trans h.size (by simp),fun k hk hs=>by
  rw [Below.heap_alloc w' o k (Nat.lt_of_lt_of_le hk h.size)];exact h.block k hk hs⟩
theorem Mod.setCell (h:Mod S w w') {a:Addr} (ha:a.block < w.heap.size -> S a.block) (u:Value):Mod S w (w'.setCell a u):=
 ⟨h.os,h.tape,h.output,by simpa [World.setCell] using h.size,fun k hk hs=>by
  rw [Below.heap_setCell w' a u k (fun e=>hs (e ▸ ha (e ▸ hk)))];exact h.block k hk hs⟩
theorem Mod.ofGrown {row:Option Nat} (hg:w.grownBy w' row) (hr:∀ k,row=some k -> S k):Mod S w w':=
 ⟨hg.os,hg.tape,hg.output,hg.size,fun k hk hs=>hg.block k hk (fun e=>hs (hr k e.symm))⟩
theorem Mod.ofBelow (h:Below w.heap.size w w'):Mod S w w':=⟨h.os,h.tape,h.output,h.size,fun k hk _=>h.block k hk⟩
theorem Mod.below (h:Mod S w w') {B:Nat} (hB:B<=w.heap.size) (hS:∀ k,S k -> B<=k):Below B w w':=
 ⟨h.os,h.tape,h.output,h.size,fun k hk=>h.block k (Nat.lt_of_lt_of_le hk hB) (fun hs=>by have:=hS k hs;omega)⟩
theorem Mod.at {o:Obj} (h:Mod S w w') {k:Nat} (hk:w.heap[k]?=some o) (hs:¬ S k):w'.heap[k]?=some o:=by
 rw [h.block k (Array.getElem?_eq_some_iff.1 hk).1 hs];exact hk
theorem Mod.cell (h:Mod S w w') {a:Addr} {v:Value} (hc:w.cell? a=some v) (hs:¬ S a.block):w'.cell? a=some v:=by
 rw [World.cell?_of_block (h.block a.block (World.block_lt_of_cell? w a hc) hs)];exact hc
theorem lt_of_at {o:Obj} {k:Nat} (hk:w.heap[k]?=some o):k < w.heap.size:=(Array.getElem?_eq_some_iff.1 hk).1
theorem alloc_get (w:World) (o:Obj) (k:Nat):(w.alloc o).heap[k]?=if k=w.heap.size then some o else w.heap[k]?:=by
 show (w.heap.push o)[k]?=_
 rw [Array.getElem?_push]
def allocs:World -> List Obj -> World
 | w,[]=>w
 | w,o::l=>allocs (w.alloc o) l
theorem allocs_ext:∀ (l:List Obj) (w:World),Mod S w (allocs w l)
 | [],w=>Mod.refl _ w
 | o::l,w=>((Mod.refl S w).alloc o).trans (allocs_ext l _)
theorem allocs_size:∀ (l:List Obj) (w:World),(allocs w l).heap.size=w.heap.size+l.length
 | [],w=>rfl
 | o::l,w=>by rw [allocs,allocs_size l];simp;omega
theorem allocs_get:∀ (l:List Obj) (w:World) (j:Nat),j < l.length -> (allocs w l).heap[w.heap.size+j]?=l[j]?
 | [],w,j,h=>by simp at h
 | o::l,w,0,h=>by
  rw [allocs,(allocs_ext (S:=fun _=>False) l (w.alloc o)).block (w.heap.size+0) (by simp) (fun h=>h),alloc_get]
  simp
 | o::l,w,j+1,h=>by
  have:=allocs_get l (w.alloc o) j (by simpa using h)
  simp only [World.size_alloc] at this
  rw [allocs,show w.heap.size+(j+1)=w.heap.size+1+j from by omega,this]
  simp
end Cdk
namespace Cdk
open Go Go.RowKit
theorem sA {α:Type _} (l:List α) (i:Nat) (a:α):l.toArray.setIfInBounds i a=(l.set i a).toArray:=List.setIfInBounds_toArray l i a
theorem sZ {α:Type _} {x:α} {xs:List α} {a:α}:(x::xs).set 0 a=a::xs:=rfl
theorem sS {α:Type _} {x:α} {xs:List α} {i:Nat} {a:α}:(x::xs).set (i+1) a=x::xs.set i a:=rfl
set_option linter.unusedSectionVars false
theorem ba_beq (a b:ByteArray):(a==b)=decide (a=b):=by
 cases a with | mk a=>cases b with | mk b=>
 show (a==b)=_
 simp only [ByteArray.mk.injEq]
 by_cases h:a=b
 ·subst h;simp
 ·have:(a==b)=false:=by simp [h]
  rw [this];simp [h]
instance:LawfulBEq ByteArray where
 eq_of_beq:=fun {a b} h=>by rw [ba_beq] at h;simpa using h
 rfl:=fun {a}=>by rw [ba_beq];simp
theorem map_eraseIdx' {α β:Type} (f:α -> β):∀ (l:List α) (j:Nat),(l.eraseIdx j).map f=(l.map f).eraseIdx j
 | [],_=>by simp
 | _::_,0=>by simp
 | _::l,j+1=>by simp [map_eraseIdx' f l j]
section
variable {K:Type} [DecidableEq K]
structure KeyOk (P:Program) (kt:TypeId) (mk:K -> Value):Prop where
 inj:∀ a b,mk a=mk b -> a=b
 und:∃ desc,P.underlying kt=some desc/\(∀ a b,Instr.sameNow desc (mk a) (mk b)=some (decide (a=b))) ∧
  (∀ (e:Bool) (n:Nat) (a:K) (w:World),(Instr.checkKey e (n+1) kt (mk a)).run P w=.ok () w)
 bits:∀ a,Instr.sameBits 10000 (mk a) (mk a)=true
theorem keyOk_string {P:Program} {kt:TypeId} (h:P.underlying kt=some .string):KeyOk P kt Value.string where
 inj:=fun a b e=>by injection e
 und:=⟨.string,h,fun a b=>by
  simp only [Instr.sameNow,ba_beq],fun e n a w=>by simp [Instr.checkKey,run_underlying h]⟩
 bits:=fun a=>by simp [Instr.sameBits]
theorem keyOk_int {P:Program} {kt:TypeId} {k:IntKind} (h:P.underlying kt=some (.int k)):KeyOk P kt (Value.int k) where
 inj:=fun a b e=>by injection e
 und:=⟨.int k,h,fun a b=>by
  simp only [Instr.sameNow,if_true]
  congr 1,fun e n a w=>by simp [Instr.checkKey,run_underlying h]⟩
 bits:=fun a=>by simp [Instr.sameBits]
def EntriesAre (mk:K -> Value) (es:Array MapEntry) (clock:Nat) (d:List (K × Value)):Prop:=
 es.toList.map (fun e=>(e.key,e.val))=d.map (fun p=>(mk p.1,p.2))/\(d.map (·.1)).Nodup/\(es.toList.map (·.born)).Nodup/\∀ e ∈ es.toList,e.born < clock
def MapAt (w:World) (mk:K -> Value) (m:Nat) (d:List (K × Value)):Prop:=
 ∃ es clock,w.heap[m]?=some (.map es clock)/\EntriesAre mk es clock d
def assoc (d:List (K × Value)) (k:K):Option Value:=(d.find? (fun p=>decide (p.1=k))).map (·.2)
def upd (d:List (K × Value)) (k:K) (v:Value):List (K × Value):=
 if (assoc d k).isSome then d.map (fun p=>if p.1=k then (p.1,v) else p) else d++[(k,v)]
def del (d:List (K × Value)) (k:K):List (K × Value):=d.filter (fun p=>!decide (p.1=k))
variable {P:Program} {kt:TypeId} {mk:K -> Value} {w w':World} {m:Nat} {d:List (K × Value)}
theorem MapAt.mod {S:Nat -> Prop} (h:MapAt w mk m d) (hm:Mod S w w') (hs:¬ S m):MapAt w' mk m d:=by
 obtain ⟨es,c,hh,he⟩:=h
 exact ⟨es,c,hm.at hh hs,he⟩
theorem MapAt.lt (h:MapAt w mk m d):m < w.heap.size:=by
 obtain ⟨es,c,hh,he⟩:=h
 exact lt_of_at hh
theorem MapAt.made (w:World) (mk:K -> Value):MapAt (w.alloc (.map #[] 0)) mk w.heap.size ([]:List (K × Value)):=
 ⟨#[],0,heap_alloc_new w _,by simp,by simp,by simp,by simp⟩
theorem findNow_list {desc:TypeDesc} (hsame:∀ a b,Instr.sameNow desc (mk a) (mk b)=some (decide (a=b))) (k:K):
  ∀ (es:List MapEntry) (d:List (K × Value)) (i:Nat),es.map (fun e=>(e.key,e.val))=d.map (fun p=>(mk p.1,p.2)) →
   Instr.findNow desc (mk k) es i=some ((d.findIdx? (fun p=>decide (p.1=k))).map (fun j=>(i+j,((d[j]?).map (·.2)).getD undef)))
 | [],[],_,_=>by simp [Instr.findNow]
 | [],_::_,_,h=>by simp at h
 | _::_,[],_,h=>by simp at h
 | e::es,p::d,i,h=>by
  simp only [List.map_cons,List.cons.injEq,Prod.mk.injEq] at h
  obtain ⟨⟨hk,hv⟩,ht⟩:=h
  simp only [Instr.findNow,hk,hsame]
  by_cases hkp:k=p.1
  ·simp [hkp,List.findIdx?_cons,hv]
  ·have hpk:¬ p.1=k:=fun e=>hkp e.symm
   simp only [hkp,decide_false]
   rw [findNow_list hsame k es d (i+1) ht]
   simp only [List.findIdx?_cons,hpk,decide_false]
   cases hfi:d.findIdx? (fun p=>decide (p.1=k)) with
   | none=>simp
   | some j=>simp;omega
theorem assoc_findIdx (d:List (K × Value)) (k:K):
  assoc d k=(d.findIdx? (fun p=>decide (p.1=k))).map (fun j=>((d[j]?).map (·.2)).getD undef):=by
 induction d with
 | nil=>simp [assoc]
 | cons p d ih=>
  by_cases h:p.1=k
  ·simp [assoc,List.findIdx?_cons,h]
  ·simp only [assoc,List.find?_cons,h,decide_false,List.findIdx?_cons]
   simp only [assoc] at ih
   rw [ih]
   cases hfi:d.findIdx? (fun p=>decide (p.1=k)) with
   | none=>simp
   | some j=>simp
theorem findKey_run (ok:KeyOk P kt mk) (k:K) (es:Array MapEntry) (clock:Nat) (he:EntriesAre mk es clock d) (w:World):
  (Instr.findKey kt (mk k) es.toList).run P w=.ok ((d.findIdx? (fun p=>decide (p.1=k))).map (fun j=>(j,((d[j]?).map (·.2)).getD undef))) w:=by
 obtain ⟨desc,hu,hs,_⟩:=ok.und
 simp [Instr.findKey,run_underlying hu,findNow_list hs k es.toList d 0 he.1]
theorem run_checkKey (ok:KeyOk P kt mk) (e:Bool) (k:K) (w:World):(Instr.checkKey e 10000 kt (mk k)).run P w=.ok () w:=by
 obtain ⟨desc,hu,hs,hc⟩:=ok.und
 exact hc e 9999 k w
theorem run_getObj_map {es:Array MapEntry} {clock:Nat} (h:w.heap[m]?=some (.map es clock)):(getObj m).run P w=.ok (.map es clock) w:=by
 simp [getObj,Sem.run,h]
theorem run_setObj_map {es es':Array MapEntry} {clock clock':Nat} (h:w.heap[m]?=some (.map es clock)):
  (setObj m (.map es' clock')).run P w=.ok () { w with heap:=w.heap.setIfInBounds m (.map es' clock') }:=by
 simp [setObj,Sem.run,h]
theorem Mod.setBlock {S:Nat -> Prop} (hs:m < w.heap.size -> S m) (o:Obj):Mod S w { w with heap:=w.heap.setIfInBounds m o }:=
 ⟨rfl,rfl,rfl,by simp,fun k hk hn=>by
  have:m ≠ k:=fun e=>hn (e ▸ hs (e ▸ hk))
  simp [this]⟩
theorem run_lookupM {t e:TypeId} (ok:KeyOk P kt mk) (ht:P.underlying t=some (.map kt e)) (h:MapAt w mk m d) (k:K) {z:Value} (hz:(zeroValue e).run P w=.ok z w) (c:Bool):
  (Instr.lookup t (.map (some m)) (mk k) c).run P w=.ok (if c then .tuple #[(assoc d k).getD z,.bool (assoc d k).isSome] else (assoc d k).getD z) w:=by
 obtain ⟨es,clock,hh,he⟩:=h
 rw [assoc_findIdx]
 simp only [Instr.lookup,Sem.run_bind,run_underlying ht,Result.andThen_ok,run_getObj_map hh,Sem.run_pure,run_checkKey ok,findKey_run ok k es clock he]
 cases hfi:d.findIdx? (fun p=>decide (p.1=k)) with
 | none=>cases c <;> simp [hz]
 | some j=>cases c <;> simp
theorem map_fst_upd (d:List (K × Value)) (k:K) (v:Value):(upd d k v).map (·.1)=if (assoc d k).isSome then d.map (·.1) else d.map (·.1)++[k]:=by
 unfold upd
 split
 ·rw [List.map_map]
  apply List.map_congr_left
  intro p _
  simp only [Function.comp]
  split <;> rfl
 ·simp
theorem assoc_none_iff (d:List (K × Value)) (k:K):assoc d k=none ↔ k ∉ d.map (·.1):=by
 simp only [assoc,Option.map_eq_none_iff,List.find?_eq_none,decide_eq_true_eq,List.mem_map,not_exists,not_and]
theorem findIdx_nodup:∀ (d:List (K × Value)) (k:K) (v:Value) (j:Nat),(d.map (·.1)).Nodup -> d.findIdx? (fun p=>decide (p.1=k))=some j →
  d.map (fun p=>if p.1=k then (p.1,v) else p)=d.modify j (fun p=>(p.1,v))
 | [],_,_,_,_,h=>by simp at h
 | p::d,k,v,j,hn,h=>by
  simp only [List.findIdx?_cons] at h
  simp only [List.map_cons,List.nodup_cons] at hn
  by_cases hp:p.1=k
  ·simp only [hp,decide_true,if_true,Option.some.injEq] at h
   subst h
   simp only [List.map_cons,hp,if_true,List.modify_zero_cons]
   congr 1
   conv=>rhs;rw [<- List.map_id d]
   apply List.map_congr_left
   intro q hq
   have:q.1 ≠ k:=fun e=>hn.1 (by rw [hp,<- e];exact List.mem_map_of_mem hq)
   simp [this]
  ·simp only [hp,decide_false,Bool.false_eq_true,if_false] at h
   cases hf:d.findIdx? (fun p=>decide (p.1=k)) with
   | none=>rw [hf] at h;simp at h
   | some i=>
    rw [hf] at h
    simp at h
    subst h
    simp only [List.map_cons,hp,if_false,List.modify_succ_cons]
    rw [findIdx_nodup d k v i hn.2 hf]
theorem EntriesAre.upd {es:Array MapEntry} {clock:Nat} (he:EntriesAre mk es clock d) (k:K) (v:Value):
  match d.findIdx? (fun p=>decide (p.1=k)) with
  | some j=>EntriesAre mk (es.modify j (fun e=>{ e with key:=mk k,val:=v })) clock (upd d k v)
  | none=>EntriesAre mk (es.push { key:=mk k,val:=v,born:=clock }) (clock+1) (upd d k v):=by
 obtain ⟨h1,h2,h3,h4⟩:=he
 cases hf:d.findIdx? (fun p=>decide (p.1=k)) with
 | none=>
  have ha:assoc d k=none:=by rw [assoc_findIdx,hf];rfl
  have hu:Cdk.upd d k v=d++[(k,v)]:=by simp [Cdk.upd,ha]
  simp only [hu]
  refine ⟨by simp [h1],?_,?_,?_⟩
  ·rw [List.map_append,List.nodup_append]
   refine ⟨h2,by simp,?_⟩
   intro a ha' b hb
   simp at hb
   subst hb
   intro e
   subst e
   exact (assoc_none_iff d _).1 ha ha'
  ·simp only [Array.toList_push,List.map_append,List.map_cons,List.map_nil]
   rw [List.nodup_append]
   refine ⟨h3,by simp,?_⟩
   intro a ha' b hb
   simp at hb
   subst hb
   obtain ⟨e,he,rfl⟩:=List.mem_map.1 ha'
   exact Nat.ne_of_lt (h4 e he)
  ·intro e he
   simp only [Array.toList_push,List.mem_append,List.mem_singleton] at he
   rcases he with he | rfl
   ·exact Nat.lt_succ_of_lt (h4 e he)
   ·exact Nat.lt_succ_self _
 | some j=>
  have ha:(assoc d k).isSome=true:=by rw [assoc_findIdx,hf];rfl
  have hu:Cdk.upd d k v=d.modify j (fun p=>(p.1,v)):=by
   simp only [Cdk.upd,ha,if_true]
   exact findIdx_nodup d k v j h2 hf
  have hkey:∀ p,d[j]?=some p -> p.1=k:=by
   intro p hp
   have:=List.findIdx?_eq_some_iff_getElem.1 hf
   obtain ⟨hlt,hpj,_⟩:=this
   rw [List.getElem?_eq_getElem hlt] at hp
   simp at hp hpj
   rw [<- hp];exact hpj
  refine ⟨?_,?_,?_,?_⟩
  ·rw [hu,Array.toList_modify]
   apply List.ext_getElem?
   intro i
   have h1i:=congrArg (fun l=>l[i]?) h1
   simp only [List.getElem?_map] at h1i
   simp only [List.getElem?_map,List.getElem?_modify]
   by_cases hij:j=i
   ·subst hij
    cases he:es.toList[j]? with
    | none=>
     rw [he] at h1i
     cases hd:d[j]? with
     | none=>simp
     | some p=>rw [hd] at h1i;simp at h1i
    | some e=>
     rw [he] at h1i
     cases hd:d[j]? with
     | none=>rw [hd] at h1i;simp at h1i
     | some p=>simp [hkey p hd]
   ·simp only [hij,if_false]
    simpa using h1i
  ·rw [map_fst_upd,if_pos ha];exact h2
  ·have:(es.modify j (fun e=>{ e with key:=mk k,val:=v })).toList.map (·.born)=es.toList.map (·.born):=by
    rw [Array.toList_modify]
    apply List.ext_getElem?
    intro i
    simp only [List.getElem?_map,List.getElem?_modify]
    by_cases hij:j=i
    ·subst hij;cases es.toList[j]? <;> simp
    ·simp [hij]
   rw [this];exact h3
  ·intro e he
   rw [Array.toList_modify] at he
   obtain ⟨i,hi,rfl⟩:=List.mem_iff_getElem.1 he
   simp only [List.getElem_modify]
   have hi':i < es.toList.length:=by simpa using hi
   have h4':=h4 _ (List.getElem_mem hi')
   split
   ·exact h4'
   ·exact h4'
theorem run_updateM {t e:TypeId} (ok:KeyOk P kt mk) (ht:P.underlying t=some (.map kt e)) (h:MapAt w mk m d) (k:K) (v:Value):
  ∃ w',(Instr.mapUpdate t (.map (some m)) (mk k) v).run P w=.ok () w'/\MapAt w' mk m (upd d k v)/\Mod (Eq m) w w'/\w'.heap.size=w.heap.size:=by
 obtain ⟨es,clock,hh,he⟩:=h
 have hlt:=lt_of_at hh
 have hupd:=he.upd k v
 simp only [Instr.mapUpdate,Sem.run_bind,run_underlying ht,Result.andThen_ok,run_getObj_map hh,run_checkKey ok,findKey_run ok k es clock he]
 cases hf:d.findIdx? (fun p=>decide (p.1=k)) with
 | none=>
  rw [hf] at hupd
  simp only [Option.map_none]
  rw [run_setObj_map hh]
  exact ⟨_,rfl,⟨_,_,by simp [hlt],hupd⟩,Mod.setBlock (fun _=>rfl) _,by simp⟩
 | some j=>
  rw [hf] at hupd
  simp only [Option.map_some]
  have hold:((es[j]?).map (·.key)).getD (mk k)=mk k:=by
   have h1j:=congrArg (fun l=>l[j]?) he.1
   simp only [List.getElem?_map,Array.getElem?_toList] at h1j
   obtain ⟨hlt',hpj,_⟩:=List.findIdx?_eq_some_iff_getElem.1 hf
   rw [List.getElem?_eq_getElem hlt'] at h1j
   simp at hpj
   cases hes:es[j]? with
   | none=>rfl
   | some x=>rw [hes] at h1j;simp at h1j;simp [h1j.1,hpj]
  have hstay:(Instr.keyThatStays (((es[j]?).map (·.key)).getD (mk k)) (mk k)).run P w=.ok (mk k) w:=by
   rw [hold];simp [Instr.keyThatStays,ok.bits]
  simp only [Sem.run_bind,hstay,Result.andThen_ok]
  rw [run_setObj_map hh]
  exact ⟨_,rfl,⟨_,_,by simp [hlt],hupd⟩,Mod.setBlock (fun _=>rfl) _,by simp⟩
theorem EntriesAre.del {es:Array MapEntry} {clock:Nat} (he:EntriesAre mk es clock d) (k:K):
  match d.findIdx? (fun p=>decide (p.1=k)) with
  | some j=>EntriesAre mk (es.eraseIdxIfInBounds j) clock (del d k)
  | none=>EntriesAre mk es clock (del d k):=by
 obtain ⟨h1,h2,h3,h4⟩:=he
 cases hf:d.findIdx? (fun p=>decide (p.1=k)) with
 | none=>
  have:Cdk.del d k=d:=by
   unfold Cdk.del
   rw [List.filter_eq_self]
   intro p hp
   rw [List.findIdx?_eq_none_iff] at hf
   simpa using hf p hp
  simp only [this]
  exact ⟨h1,h2,h3,h4⟩
 | some j=>
  have hd:Cdk.del d k=d.eraseIdx j:=by
   clear h1 h3 h4
   induction d generalizing j with
   | nil=>simp at hf
   | cons p d ih=>
    simp only [List.map_cons,List.nodup_cons] at h2
    simp only [List.findIdx?_cons] at hf
    by_cases hp:p.1=k
    ·simp only [hp,decide_true,if_true,Option.some.injEq] at hf
     subst hf
     have:Cdk.del d k=d:=by
      unfold Cdk.del
      rw [List.filter_eq_self]
      intro q hq
      have:q.1 ≠ k:=fun e=>h2.1 (by rw [hp,<- e];exact List.mem_map_of_mem hq)
      simp [this]
     simp only [Cdk.del] at this
     simp [Cdk.del,hp,this]
    ·simp only [hp,decide_false,Bool.false_eq_true,if_false] at hf
     cases hf':d.findIdx? (fun p=>decide (p.1=k)) with
     | none=>rw [hf'] at hf;simp at hf
     | some i=>
      rw [hf'] at hf
      simp at hf
      subst hf
      have:=ih h2.2 i hf'
      simp only [Cdk.del] at this
      simp [Cdk.del,hp,this]
  have hjl:j < es.size:=by
   obtain ⟨hlt',_,_⟩:=List.findIdx?_eq_some_iff_getElem.1 hf
   have:=congrArg List.length h1
   simp at this
   omega
  have het:(es.eraseIdxIfInBounds j).toList=es.toList.eraseIdx j:=by
   simp [Array.eraseIdxIfInBounds,hjl]
  refine ⟨?_,?_,?_,?_⟩
  ·rw [het,hd,map_eraseIdx',map_eraseIdx',h1]
  ·unfold Cdk.del
   exact (List.Sublist.map _ List.filter_sublist).nodup h2
  ·rw [het]
   exact (List.Sublist.map _ (List.eraseIdx_sublist _ _)).nodup h3
  ·rw [het]
   intro e he
   exact h4 e ((List.eraseIdx_sublist _ _).subset he)
theorem run_deleteM {t e ty kt':TypeId} (ok:KeyOk P kt mk) (ht:P.underlying t=some (.map kt e)) (h:MapAt w mk m d) (k:K):
  ∃ w',(Builtin.delete_ #[t,kt'] ty #[.map (some m),mk k]).run P w=.ok (.tuple #[]) w'/\MapAt w' mk m (del d k)/\Mod (Eq m) w w'/\w'.heap.size=w.heap.size:=by
 obtain ⟨es,clock,hh,he⟩:=h
 have hlt:=lt_of_at hh
 have hdel:=he.del k
 simp only [Builtin.delete_,List.getElem?_toArray,List.getElem?_cons_zero,List.getElem?_cons_succ,Sem.run_bind,run_underlying ht,Result.andThen_ok,run_getObj_map hh,run_checkKey ok,findKey_run ok k es clock he]
 cases hf:d.findIdx? (fun p=>decide (p.1=k)) with
 | none=>
  rw [hf] at hdel
  simp only [Option.map_none]
  simp only [Sem.run_bind,run_setObj_map hh,Result.andThen_ok,Sem.run_pure]
  exact ⟨_,rfl,⟨_,_,by simp [hlt],hdel⟩,Mod.setBlock (fun _=>rfl) _,by simp⟩
 | some j=>
  rw [hf] at hdel
  simp only [Option.map_some]
  simp only [Sem.run_bind,run_setObj_map hh,Result.andThen_ok,Sem.run_pure]
  exact ⟨_,rfl,⟨_,_,by simp [hlt],hdel⟩,Mod.setBlock (fun _=>rfl) _,by simp⟩
end
set_option linter.unusedSectionVars false
section
variable {K:Type} [DecidableEq K]
variable {P:Program} {kt:TypeId} {mk:K -> Value} {w w':World} {m r:Nat} {d:List (K × Value)}
def IterAt (w:World) (mk:K -> Value) (m r:Nat) (d:List (K × Value)) (seen:List K):Prop:=
 ∃ es clock sn,w.heap[m]?=some (.map es clock)/\EntriesAre mk es clock d/\w.heap[r]?=some (.mapIter (some m) clock sn clock)/\r ≠ m ∧
  (∀ e ∈ es.toList,∀ k,e.key=mk k -> (e.born ∈ sn.toList ↔ k ∈ seen)) ∧
  (∀ k s,seen=k::s -> ∀ v,(k,v) ∈ d -> ∃ b,sn.back?=some b/\∃ e ∈ es.toList,e.born=b/\e.key=mk k/\e.val=v)
theorem IterAt.mod {S:Nat -> Prop} {seen:List K} (h:IterAt w mk m r d seen) (hm:Mod S w w') (hs:¬ S m) (hr:¬ S r):IterAt w' mk m r d seen:=by
 obtain ⟨es,c,sn,h1,h2,h3,h4,h5⟩:=h
 exact ⟨es,c,sn,hm.at h1 hs,h2,hm.at h3 hr,h4,h5⟩
theorem IterAt.lt {seen:List K} (h:IterAt w mk m r d seen):r < w.heap.size/\m < w.heap.size/\r ≠ m:=by
 obtain ⟨es,c,sn,h1,h2,h3,h4,_⟩:=h
 exact ⟨lt_of_at h3,lt_of_at h1,h4⟩
theorem run_rangeM {t e:TypeId} (ht:P.underlying t=some (.map kt e)) (h:MapAt w mk m d):
  ∃ w',(Instr.range t (.map (some m))).run P w=.ok (.pointer (some ⟨w.heap.size,0,none⟩)) w'/\IterAt w' mk m w.heap.size d []/\Ext w w'/\w'.heap.size=w.heap.size+1:=by
 obtain ⟨es,clock,hh,he⟩:=h
 have hlt:=lt_of_at hh
 refine ⟨w.alloc (.mapIter (some m) clock #[] clock),?_,⟨es,clock,#[],?_,he,heap_alloc_new w _,by omega,by simp,by simp⟩,(Mod.refl _ w).alloc _,by simp⟩
 ·simp [Instr.range,run_underlying ht,run_getObj_map hh]
 ·rw [Below.heap_alloc w _ m hlt];exact hh
theorem run_getObj_iter {mm:Option Nat} {s c:Nat} {sn:Array Nat} (h:w.heap[r]?=some (.mapIter mm s sn c)):(getObj r).run P w=.ok (.mapIter mm s sn c) w:=by
 simp [getObj,Sem.run,h]
theorem run_nextM {seen:List K} (h:IterAt w mk m r d seen) (inj:∀ a b,mk a=mk b -> a=b) (ty:TypeId):
  ((∀ p ∈ d,p.1 ∈ seen)/\(Instr.next (.pointer (some ⟨r,0,none⟩)) false ty).run P w=.ok (.tuple #[.bool false]) w) ∨
  (∃ k v w',(k,v) ∈ d/\k ∉ seen/\(Instr.next (.pointer (some ⟨r,0,none⟩)) false ty).run P w=.ok (.tuple #[.bool true,mk k,v]) w' ∧
   IterAt w' mk m r d (k::seen)/\Mod (Eq r) w w'/\w'.heap.size=w.heap.size):=by
 obtain ⟨es,clock,sn,hh,he,hr,hne,hs,hl⟩:=h
 have hpairs:∀ e ∈ es.toList,∃ p ∈ d,e.key=mk p.1/\e.val=p.2:=by
  intro e hin
  have h1:(e.key,e.val) ∈ es.toList.map (fun e=>(e.key,e.val)):=List.mem_map_of_mem hin
  rw [he.1] at h1
  obtain ⟨p,hp,hpe⟩:=List.mem_map.1 h1
  simp only [Prod.mk.injEq] at hpe
  exact ⟨p,hp,hpe.1.symm,hpe.2.symm⟩
 have hpairs':∀ p ∈ d,∃ e ∈ es.toList,e.key=mk p.1/\e.val=p.2:=by
  intro p hp
  have h1:(mk p.1,p.2) ∈ d.map (fun p=>(mk p.1,p.2)):=List.mem_map_of_mem hp
  rw [<- he.1] at h1
  obtain ⟨e,hin,hpe⟩:=List.mem_map.1 h1
  simp only [Prod.mk.injEq] at hpe
  exact ⟨e,hin,hpe.1,hpe.2⟩
 have hold:∀ e ∈ es.toList,e.born < clock:=he.2.2.2
 have hcheck:(!sn.isEmpty && !es.isEmpty && es.all (fun e=>decide (e.born ≥ clock)))=false:=by
  cases hemp:es.isEmpty with
  | true=>simp
  | false=>
   have:es.all (fun e=>decide (e.born ≥ clock))=false:=by
    rw [Bool.eq_false_iff]
    intro hall
    rw [Array.all_eq_true_iff_forall_mem] at hall
    have hne':es ≠ #[]:=by intro e;subst e;simp at hemp
    obtain ⟨x,hx⟩:=Array.exists_mem_of_ne_empty es hne'
    have h1:=hall x hx
    have h2:=hold x (Array.mem_toList_iff.2 hx)
    simp at h1
    omega
   simp [this]
 have hnew:∀ l:Array MapEntry,(∀ e ∈ l,e.born < clock) -> l.filter (fun e=>decide (e.born ≥ clock))=#[]:=by
  intro l hl'
  rw [Array.filter_eq_empty_iff]
  intro e hin
  have:=hl' e hin
  simp;omega
 have holdf:∀ l:Array MapEntry,(∀ e ∈ l,e.born < clock) -> l.filter (fun e=>decide (e.born < clock))=l:=by
  intro l hl'
  rw [Array.filter_eq_self]
  intro e hin
  simpa using hl' e hin
 have hleftlt:∀ e ∈ es.filter (fun e=>!sn.contains e.born),e.born < clock:=by
  intro e hin
  exact hold e (Array.mem_toList_iff.2 (Array.mem_filter.1 hin).1)
 have hrun:(Instr.next (.pointer (some ⟨r,0,none⟩)) false ty).run P w=
   ((choose (.mapNext ((if (es.filter (fun e:MapEntry=>!sn.contains e.born)).isEmpty then #[none] else #[])++(es.filter (fun e:MapEntry=>!sn.contains e.born)).map some:Array (Option MapEntry)).size)).run P w).andThen fun c w1=>
    (match ((if (es.filter (fun e:MapEntry=>!sn.contains e.born)).isEmpty then #[none] else #[])++(es.filter (fun e:MapEntry=>!sn.contains e.born)).map some:Array (Option MapEntry))[c]? with
     | some (some e)=>(do setObj r (.mapIter (some m) clock (sn.push e.born) clock);pure (.tuple #[.bool true,e.key,e.val]):Sem Value)
     | some none=>pure (.tuple #[.bool false])
     | none => stuck "Next: no such candidate").run P w1 := by
  simp only [Instr.next,Sem.run_bind,run_getObj_iter hr,Result.andThen_ok,run_getObj_map hh]
  simp only [hcheck,Bool.false_eq_true,if_false,Sem.run_bind]
  rw [holdf _ hleftlt,hnew _ hleftlt]
  simp only [Array.append_empty]
  rfl
 rw [hrun]
 by_cases hemp:(es.filter (fun e=>!sn.contains e.born)).isEmpty=true
 ·left
  have hnil:es.filter (fun e=>!sn.contains e.born)=#[]:=by simpa using hemp
  refine ⟨?_,?_⟩
  ·intro p hp
   obtain ⟨e,hin,hk,_⟩:=hpairs' p hp
   rw [Array.filter_eq_empty_iff] at hnil
   have h1:=hnil e (Array.mem_toList_iff.1 hin)
   simp only [Bool.not_eq_true',Bool.not_eq_false,Array.contains_iff_mem] at h1
   exact (hs e hin p.1 hk).1 (Array.mem_toList_iff.2 (by simpa using h1))
  ·rw [hnil]
   simp [Question.forced]
 ·right
  generalize hleft:es.filter (fun e=>!sn.contains e.born)=left at*
  have hpos:0 < left.size:=by
   rcases Nat.eq_zero_or_pos left.size with h | h
   ·exfalso;apply hemp;simp [Array.isEmpty,h]
   ·exact h
  simp only [hemp,Bool.false_eq_true,if_false,Array.empty_append]
  have pick:∀ (c:Nat) (w1:World),c < left.size -> w1.heap=w.heap -> Mod (Eq r) w w1 →
    ∃ k v w',(k,v) ∈ d/\k ∉ seen ∧
     ((match (left.map some)[c]? with
      | some (some e)=>(do setObj r (.mapIter (some m) clock (sn.push e.born) clock);pure (.tuple #[.bool true,e.key,e.val]):Sem Value)
      | some none=>pure (.tuple #[.bool false])
      | none => stuck "Next: no such candidate").run P w1) = .ok (.tuple #[.bool true, mk k, v]) w' ∧
     IterAt w' mk m r d (k::seen)/\Mod (Eq r) w w'/\w'.heap.size=w.heap.size:=by
   intro c w1 hc hheap hmod
   have hget:(left.map some)[c]?=some (some left[c]):=by simp [hc]
   rw [hget]
   have hmem:left[c] ∈ es.filter (fun e=>!sn.contains e.born):=by rw [hleft];exact Array.getElem_mem hc
   obtain ⟨hin,hnot⟩:=Array.mem_filter.1 hmem
   have hin':=Array.mem_toList_iff.2 hin
   obtain ⟨p,hp,hk,hv⟩:=hpairs _ hin'
   have hr1:w1.heap[r]?=some (.mapIter (some m) clock sn clock):=by rw [hheap];exact hr
   have hset:(setObj r (.mapIter (some m) clock (sn.push left[c].born) clock)).run P w1=.ok () { w1 with heap:=w1.heap.setIfInBounds r (.mapIter (some m) clock (sn.push left[c].born) clock) }:=by
    simp [setObj,Sem.run,hr1]
   have hrl:r < w1.heap.size:=lt_of_at hr1
   refine ⟨p.1,p.2,{ w1 with heap:=w1.heap.setIfInBounds r (.mapIter (some m) clock (sn.push left[c].born) clock) },hp,?_,?_,?_,?_,?_⟩
   ·intro hseen
    have:=(hs _ hin' p.1 hk).2 hseen
    rw [Array.mem_toList_iff] at this
    simp at hnot
    exact hnot this
   ·simp only [Sem.run_bind,hset,Result.andThen_ok,Sem.run_pure,hk,hv]
   ·refine ⟨es,clock,sn.push left[c].born,?_,he,by simp [hrl],hne,?_,?_⟩
    ·simp [hne,hheap,hh]
    ·intro e hein k hek
     simp only [Array.toList_push,List.mem_append,List.mem_cons,List.not_mem_nil,or_false]
     constructor
     ·rintro (h | h)
      ·exact .inr ((hs e hein k hek).1 h)
      ·left
       have hee:e=left[c]:=by
        have hnd:=he.2.2.1
        obtain ⟨i,hi,rfl⟩:=List.mem_iff_getElem.1 hein
        obtain ⟨j,hj,hje⟩:=List.mem_iff_getElem.1 hin'
        have:i=j:=by
         have h1:(es.toList.map (·.born))[i]'(by simpa using hi)=(es.toList.map (·.born))[j]'(by simpa using hj):=by
          simp only [List.getElem_map];rw [hje];exact h
         exact (List.getElem_inj hnd).1 h1
        subst this
        exact hje
       rw [hee,hk] at hek
       exact inj _ _ hek.symm
     ·rintro (h | h)
      ·right
       have hee:e=left[c]:=by
        have hnd:=he.2.1
        subst h
        obtain ⟨i,hi,rfl⟩:=List.mem_iff_getElem.1 hein
        obtain ⟨j,hj,hje⟩:=List.mem_iff_getElem.1 hin'
        have hkeys:es.toList.map (·.key)=d.map (fun p=>mk p.1):=by
         have:=congrArg (fun l=>l.map (·.1)) he.1
         simpa [List.map_map,Function.comp_def] using this
        have hnd':(es.toList.map (·.key)).Nodup:=by
         rw [hkeys]
         have:d.map (fun p=>mk p.1)=(d.map (·.1)).map mk:=by simp [List.map_map,Function.comp_def]
         rw [this]
         exact List.Pairwise.map _ (fun a b hab e=>hab (inj _ _ e)) hnd
        have:i=j:=by
         have h1:(es.toList.map (·.key))[i]'(by simpa using hi)=(es.toList.map (·.key))[j]'(by simpa using hj):=by
          simp only [List.getElem_map];rw [hje,hek,hk]
         exact (List.getElem_inj hnd').1 h1
        subst this
        exact hje
       rw [hee]
      ·exact .inl ((hs e hein k hek).2 h)
    ·intro k s hks v hkv
     injection hks with hk1 hk2
     subst hk1
     refine ⟨left[c].born,by simp,left[c],hin',rfl,hk,?_⟩
     have hnd:=he.2.1
     have:p=(p.1,v):=by
      obtain ⟨i,hi,hie⟩:=List.mem_iff_getElem.1 hp
      obtain ⟨j,hj,hje⟩:=List.mem_iff_getElem.1 hkv
      have:i=j:=by
       have h1:(d.map (·.1))[i]'(by simpa using hi)=(d.map (·.1))[j]'(by simpa using hj):=by
        simp only [List.getElem_map];rw [hje,hie]
       exact (List.getElem_inj hnd).1 h1
      subst this
      rw [hie] at hje;exact hje
     rw [hv,this]
   ·exact hmod.trans (Mod.setBlock (fun _=>rfl) _)
   ·simp [hheap]
  simp only [run_choose]
  by_cases hf:(Question.mapNext (left.map some).size).forced=true
  ·simp only [hf,if_true,Result.andThen_ok]
   exact pick 0 w hpos rfl (Mod.refl _ w)
  ·simp only [hf,Bool.false_eq_true,if_false,Result.andThen_ok]
   refine pick _ _ ?_ rfl ⟨rfl,rfl,rfl,Nat.le_refl _,fun _ _ _=>rfl⟩
   have:=Nat.mod_lt (w.tape w.drawn (.mapNext (left.map some).size)) hpos
   simpa [Question.cut] using this
theorem run_entryM {k:K} {v:Value} {seen:List K} (h:IterAt w mk m r d (k::seen)) (hin:(k,v) ∈ d):
  (Instr.entry (.pointer (some ⟨r,0,none⟩))).run P w=.ok (.tuple #[mk k,v]) w:=by
 obtain ⟨es,clock,sn,hh,he,hr,hne,hs,hl⟩:=h
 obtain ⟨b,hb,e,hein,heb,hek,hev⟩:=hl k seen rfl v hin
 have hfind:es.find? (fun x=>x.born==b)=some e:=by
  rw [<- Array.find?_toList]
  have hnd:=he.2.2.1
  have:∀ l:List MapEntry,(l.map (·.born)).Nodup -> e ∈ l -> l.find? (fun x=>x.born==b)=some e:=by
   intro l
   induction l with
   | nil=>intro _ h;cases h
   | cons x l ih=>
    intro hn hm
    simp only [List.map_cons,List.nodup_cons] at hn
    rcases List.mem_cons.1 hm with rfl | hm
    ·simp [heb]
    ·have hxb:¬ x.born=b:=fun hxb=>hn.1 (by rw [hxb,<- heb];exact List.mem_map_of_mem hm)
     simp only [List.find?_cons]
     have:(x.born==b)=false:=by simpa using hxb
     rw [this]
     exact ih hn.2 hm
  exact this _ hnd hein
 simp only [Instr.entry,Sem.run_bind,run_getObj_iter hr,Result.andThen_ok,hb,run_getObj_map hh]
 simp [hfind,hek,hev]
end
end Cdk
