import Derived.Test.YtcopgcdhkgenkaaGreatDoorV31
set_option linter.all false
set_option maxRecDepth 100000
set_option maxHeartbeats 16000000
namespace Go.Proofs.YtcopgcdhkgenkaaGreatDoor
open Go.Shelf Go.RowKit Cdk Scr
def rdrC (a1 a2:Option Addr) (c1 c2:Nat) (k:Int) (url word:ByteArray) (mm:Nat):Array Value:=#[.slice a1 0 c1,.slice a2 0 c2,.int .i64 k,.string ⟨#[]⟩,.int .i64 0,.string ⟨#[]⟩,.string url,.string word,.map (some mm)]
structure RdrAt (w:World) (a1 a2:Option Addr) (c1 c2:Nat) (k:Int) (url word:ByteArray) (rd mm:Nat) (d:List (ByteArray × Value)):Prop where
 at_:w.heap[rd]?=some (.cells (rdrC a1 a2 c1 c2 k url word mm) 461 (0,0))
 map:MapAt w Value.string mm d
theorem RdrAt.mod {S:Nat -> Prop} {w w':World} {a1 a2:Option Addr} {c1 c2:Nat} {k:Int} {url word:ByteArray} {rd mm:Nat} {d:List (ByteArray × Value)} (h:RdrAt w a1 a2 c1 c2 k url word rd mm d) (hx:Cdk.Mod S w w') (h1:¬ S rd) (h2:¬ S mm):RdrAt w' a1 a2 c1 c2 k url word rd mm d:=⟨hx.at h.at_ h1,h.map.mod hx h2⟩
theorem RdrAt.ne {w:World} {a1 a2:Option Addr} {c1 c2:Nat} {k:Int} {url word:ByteArray} {rd mm:Nat} {d:List (ByteArray × Value)} (h:RdrAt w a1 a2 c1 c2 k url word rd mm d):rd ≠ mm:=by
 intro e;obtain ⟨es,cl,hh,_⟩:=h.map;have:=h.at_;rw [e,hh] at this;simp at this
def ValSpec (a1 a2:Option Addr) (key v:ByteArray):Prop:=∀ (c1 c2:Nat) (W:World),Gl W -> Calls Tryz.prog 312 #[stV a1 a2 c1 c2,.string key] W fun e w'=>e=.returned (.string v)/\Ext W w'
theorem read_new (key v:ByteArray) {a1 a2:Option Addr} {c1 c2:Nat} {k:Int} {url word:ByteArray} {rd mm:Nat} {d:List (ByteArray × Value)} (hv:ValSpec a1 a2 key v) (hd:assoc d key=none) (w:World) (hG:Gl w) (h12:12<=mm) (hR:RdrAt w a1 a2 c1 c2 k url word rd mm d):
  Calls Tryz.prog 247 #[.pointer (some ⟨rd,0,none⟩),.string key] w fun e w'=>e=.returned (.string v)/\RdrAt w' a1 a2 c1 c2 k url word rd mm (upd d key (.string v))/\Cdk.Mod (Eq mm) w w':=by
 have hlk:=run_lookupM (P:=Tryz.prog) (t:=218) (keyOk_string Tryz.underlying9) Tryz.underlying218 hR.map key (zero_str w) true;rw [hd] at hlk;simp only [Option.getD_none,Option.isSome_none,if_true] at hlk;have s0:w.cell? ⟨rd,0,none⟩=some (.slice a1 0 c1):=cellN hR.at_ 0;have s1:w.cell? ⟨rd,1,none⟩=some (.slice a2 0 c2):=cellN hR.at_ 1;have s8:w.cell? ⟨rd,8,none⟩=some (.map (some mm)):=cellN hR.at_ 8;have hvs:=hid (hv c1 c2 w hG);unfold stV at hvs;have hne:=hid hR.ne;have hR0:=hid hR;clear hd hR hv;go_enter Tryz.func247,Tryz.ntmps247;go_wp2_with fail
 refine hvs.out.mono ?_;rintro e w1 ⟨rfl,hx⟩;have t8:w1.cell? ⟨rd,8,none⟩=some (.map (some mm)):=hx.cell s8 (fun h=>h);have hm1:=hid (hR0.out.map.mod hx (fun h=>h));have hx1:=hid hx;clear hx hlk;go_wp2_with (refine wpList_update rfl _ _ _ 218 _ rfl (keyOk_string Tryz.underlying9) Tryz.underlying218 hm1.out key (.string v) rfl rfl rfl (fun w2 H=>?_))
 have hx2:=hid H.out.2.1;have hm2:=hid H.out.1;clear H t8;go_wp2_with fail
 go_ret;have hxf:Cdk.Mod (Eq mm) w _:=(hx1.out.mono (fun _ h=>h.elim)).trans hx2.out;exact ⟨rfl,⟨hxf.at hR0.out.at_ (fun e=>hne.out e.symm),hm2.out⟩,hxf⟩
end Go.Proofs.YtcopgcdhkgenkaaGreatDoor
namespace Tpl
abbrev Bs:=List UInt8
structure Tk where
 kind:Nat
 text:Bs
 off:Nat
deriving DecidableEq
def isL (c:UInt8):Bool:=decide (97<=c.toNat) && decide (c.toNat<=122)
def isD (c:UInt8):Bool:=decide (48<=c.toNat) && decide (c.toNat<=57)
def isP (c:UInt8):Bool:=decide (32<=c.toNat) && decide (c.toNat<=126)
def isW (c:UInt8):Bool:=isL c || isD c || decide (c.toNat=45)
def isA (c:UInt8):Bool:=isP c && !decide (c.toNat=34)
def lit:Bs -> Bs × Nat × Bs × Bool
 | []=>([],0,[],true)
 | [c]=>if c.toNat=123 then ([],0,[c],true) else if decide (c.toNat ≠ 10) && !isP c then ([],0,[c],false) else ([c],1,[],true)
 | c::d::r=>
  if c.toNat=123 then
   if d.toNat=123 then let x:=lit r;(c::x.1,x.2.1+2,x.2.2)
   else ([],0,c::d::r,true)
  else if decide (c.toNat ≠ 10) && !isP c then ([],0,c::d::r,false)
  else let x:=lit (d::r);(c::x.1,x.2.1+1,x.2.2)
def part (c:UInt8) (r:Bs):Option (Nat × Bs × Nat × Bs):=
 if isL c then
  let w:=c::r.takeWhile isW
  if 20 < w.length then none else some (2,w,w.length,r.dropWhile isW)
 else if isD c then
  let w:=c::r.takeWhile isD
  if decide (6 < w.length) || (decide (1 < w.length) && decide (c.toNat=48)) then none else some (3,w,w.length,r.dropWhile isD)
 else if c.toNat=34 then
  let w:=r.takeWhile isA
  match r.dropWhile isA with
  | []=>none
  | d::t=>if d.toNat=34 then some (4,w,w.length+2,t) else none
 else if c.toNat=124 then some (5,[c],1,r)
 else if c.toNat=125 then some (7,[c],1,r)
 else none
def scan:Nat -> Bs -> Nat -> Option Nat -> List Tk
 | 0,_,_,_=>[]
 | _+1,[],_,none=>[]
 | _+1,[],_,some tag=>[⟨0,[],tag⟩]
 | f+1,c::r,off,none=>
  if decide (c.toNat=123) && !(match r with | d::_=>decide (d.toNat=123) | []=>false) then ⟨6,[c],off⟩::scan f r (off+1) (some off)
  else
   let x:=lit (c::r)
   if x.2.2.2 then ⟨1,x.1,off⟩::scan f x.2.2.1 (off+x.2.1) none else [⟨0,[],off+x.2.1⟩]
 | f+1,c::r,off,some tag=>
  if c.toNat=32 \/ c.toNat=10 then scan f r (off+1) (some tag)
  else
   match part c r with
   | none=>[⟨0,[],off⟩]
   | some (k,w,n,t)=>⟨k,w,off⟩::scan f t (off+n) (if k=7 then none else some tag)
def tokens (s:Bs):Except Nat (List Tk):=
 if 1000 < s.length then .error 1000
 else
  let l:=scan (s.length+1) s 0 none
  match l.find? (fun t=>decide (t.kind=0)) with
  | some t=>.error t.off
  | none=>.ok l
inductive Nd where
 | mk (kind:Nat) (text name arg:Bs) (count:Int) (filters:List Bs) (kids els:List Nd)
namespace Nd
def kind:Nd -> Nat | mk k _ _ _ _ _ _ _=>k
def text:Nd -> Bs | mk _ t _ _ _ _ _ _=>t
def name:Nd -> Bs | mk _ _ n _ _ _ _ _=>n
def arg:Nd -> Bs | mk _ _ _ a _ _ _ _=>a
def count:Nd -> Int | mk _ _ _ _ c _ _ _=>c
def filters:Nd -> List Bs | mk _ _ _ _ _ f _ _=>f
def kids:Nd -> List Nd | mk _ _ _ _ _ _ k _=>k
def els:Nd -> List Nd | mk _ _ _ _ _ _ _ e=>e
end Nd
def wFor:Bs:=[102,111,114]
def wIf:Bs:=[105,102]
def wElse:Bs:=[101,108,115,101]
def wEnd:Bs:=[101,110,100]
def wInclude:Bs:=[105,110,99,108,117,100,101]
def need (size:Nat) (k:Nat):List Tk -> Except Nat (Tk × List Tk)
 | []=>.error size
 | t::r=>if t.kind=k then .ok (t,r) else .error t.off
def num (w:Bs):Int:=w.foldl (fun n c=>10*n+(c.toNat - 48:Int)) 0
def filtersS (size:Nat):Nat -> List Tk -> List Bs -> Except Nat (List Bs × List Tk)
 | 0,_,_=>.error 0
 | f+1,ts,acc=>
  match ts with
  | t::r=>if t.kind=5 then do let (n,r') <- need size 2 r;filtersS size f r' (acc++[n.text]) else .ok (acc,t::r)
  | []=>.ok (acc,[])
mutual
def listS (size:Nat):Nat -> Nat -> List Bs -> List Tk -> List Nd -> Except Nat (List Nd × Bs × List Tk)
 | 0,_,_,_,_=>.error 0
 | f+1,depth,words,ts,acc=>
  match ts with
  | []=>if words.isEmpty then .ok (acc,[],[]) else .error size
  | t::r=>
   if t.kind=1 then listS size f depth words r (acc++[.mk 1 t.text [] [] 0 [] [] []])
   else do
    let (o,r1) <- need size 6 (t::r)
    let (n,r2) <- need size 2 r1
    if n.text=wElse \/ n.text=wEnd then
     if n.text ∈ words then do
      let (_,r3) <- need size 7 r2
      .ok (acc,n.text,r3)
     else .error n.off
    else if n.text=wFor \/ n.text=wIf then
     if depth=8 then .error o.off
     else do
      let (nd,r3) <- if n.text=wFor then loopS size f (depth+1) r2 else condS size f (depth+1) r2
      listS size f depth words r3 (acc++[nd])
    else if n.text=wInclude then do
     let (m,r3) <- need size 2 r2
     let (_,r4) <- need size 7 r3
     listS size f depth words r4 (acc++[.mk 5 [] m.text [] 0 [] [] []])
    else do
     let (fl,r3) <- filtersS size f r2 []
     let (_,r4) <- need size 7 r3
     listS size f depth words r4 (acc++[.mk 2 [] n.text [] 0 fl [] []])
def loopS (size:Nat):Nat -> Nat -> List Tk -> Except Nat (Nd × List Tk)
 | 0,_,_=>.error 0
 | f+1,depth,ts=>do
  let (n,r) <- need size 2 ts
  let (a,r) <- match r with
   | t::r'=>if t.kind=4 then Except.ok (t.text,r') else .ok ([],t::r')
   | []=>.ok ([],[])
  let (c,r) <- match r with
   | t::r'=>if t.kind=3 then Except.ok (num t.text,r') else .ok (0,t::r')
   | []=>.ok (0,[])
  let (_,r) <- need size 7 r
  let (k,_,r) <- listS size f depth [wEnd] r []
  .ok (.mk 3 [] n.text a c [] k [],r)
def condS (size:Nat):Nat -> Nat -> List Tk -> Except Nat (Nd × List Tk)
 | 0,_,_=>.error 0
 | f+1,depth,ts=>do
  let (n,r) <- need size 2 ts
  let (_,r) <- need size 7 r
  let (k,w,r) <- listS size f depth [wElse,wEnd] r []
  if w=wElse then do
   let (e,_,r) <- listS size f depth [wEnd] r []
   .ok (.mk 4 [] n.text [] 0 [] k e,r)
  else .ok (.mk 4 [] n.text [] 0 [] k [],r)
end
def parse (s:Bs):Except (Nat × Int) (List Nd):=
 match tokens s with
 | .error a=>.error (a,90)
 | .ok ts=>
  match listS s.length (3*ts.length+3) 0 [] ts [] with
  | .error a=>.error (a,100)
  | .ok (l,_,_)=>.ok l
end Tpl
namespace Go.Proofs.YtcopgcdhkgenkaaGreatDoor.Ps
open Go.RowKit Cdk Tpl
theorem letter_any (c:UInt8) (w:World):Calls Tryz.prog 601 #[.int .u8 c.toNat] w fun e w'=>e=.returned (.bool (isL c))/\w=w':=by
 have e1:Hid (isL c=(decide (97<=c.toNat) && decide (c.toNat<=122))):=hid rfl;generalize isL c=r at e1 ⊢;generalize c.toNat=n at e1 ⊢
 by_cases h1:(97:Int)<=(n:Int) <;> by_cases h2:(n:Int)<=122
 all_goals
  go_enter Tryz.func601,Tryz.ntmps601;go_wp2;go_ret;refine ⟨?_,rfl⟩;rw [e1.out];congr 2;simp only
  first | omega | (simp;omega)
theorem digit_any (c:UInt8) (w:World):Calls Tryz.prog 604 #[.int .u8 c.toNat] w fun e w'=>e=.returned (.bool (isD c))/\w=w':=by
 have e1:Hid (isD c=(decide (48<=c.toNat) && decide (c.toNat<=57))):=hid rfl;generalize isD c=r at e1 ⊢;generalize c.toNat=n at e1 ⊢
 by_cases h1:(48:Int)<=(n:Int) <;> by_cases h2:(n:Int)<=57
 all_goals
  go_enter Tryz.func604,Tryz.ntmps604;go_wp2;go_ret;refine ⟨?_,rfl⟩;rw [e1.out];congr 2;simp only
  first | omega | (simp;omega)
theorem printable_any (c:UInt8) (w:World):Calls Tryz.prog 600 #[.int .u8 c.toNat] w fun e w'=>e=.returned (.bool (isP c))/\w=w':=by
 have e1:Hid (isP c=(decide (32<=c.toNat) && decide (c.toNat<=126))):=hid rfl;generalize isP c=r at e1 ⊢;generalize c.toNat=n at e1 ⊢
 by_cases h1:(32:Int)<=(n:Int) <;> by_cases h2:(n:Int)<=126
 all_goals
  go_enter Tryz.func600,Tryz.ntmps600;go_wp2;go_ret;refine ⟨?_,rfl⟩;rw [e1.out];congr 2;simp only
  first | omega | (simp;omega)
theorem word_any (c:UInt8) (w:World):Calls Tryz.prog 603 #[.int .u8 c.toNat] w fun e w'=>e=.returned (.bool (isW c))/\w=w':=by
 have e1:Hid (isW c=(isL c || isD c || decide (c.toNat=45))):=hid rfl;have hl:=letter_any c w;have hd:=digit_any c w;generalize isW c=r at e1 ⊢;generalize isL c=bl at e1 hl;generalize isD c=bd at e1 hd;generalize c.toNat=n at e1 hl hd ⊢;replace hl:=hid hl;replace hd:=hid hd;cases bl <;> cases bd
 all_goals
  go_enter Tryz.func603,Tryz.ntmps603;go_wp2_with fail
  refine hl.out.mono ?_;rintro e w' ⟨rfl,rfl⟩;go_wp2_with fail
  try (refine hd.out.mono ?_;rintro e w' ⟨rfl,rfl⟩)
  try go_wp2_with fail
  go_ret;refine ⟨?_,rfl⟩;rw [e1.out]
  first
   | rfl
   | (show Ending.returned (.bool ((n:Int)==45))=_;congr 2;rw [Bool.eq_iff_iff];simp;omega)
theorem quoted_any (c:UInt8) (w:World):Calls Tryz.prog 605 #[.int .u8 c.toNat] w fun e w'=>e=.returned (.bool (isA c))/\w=w':=by
 have e1:Hid (isA c=(isP c && !decide (c.toNat=34))):=hid rfl;have hl:=printable_any c w;generalize isA c=r at e1 ⊢;generalize isP c=bl at e1 hl;generalize c.toNat=n at e1 hl ⊢;replace hl:=hid hl;cases bl
 all_goals
  go_enter Tryz.func605,Tryz.ntmps605;go_wp2_with fail
  refine hl.out.mono ?_;rintro e w' ⟨rfl,rfl⟩;go_wp2_with fail
  go_ret;refine ⟨?_,rfl⟩;rw [e1.out]
  first
   | rfl
   | (show Ending.returned (.bool ((n:Int) !=34))=_;congr 2;rw [Bool.eq_iff_iff];simp;omega)
def opensB (l:Bs):Bool:=
 match l with
 | c::d::_=>decide (c.toNat=123) && !decide (d.toNat=123)
 | [c]=>decide (c.toNat=123)
 | []=>false
theorem drop_at (s:ByteArray) {k:Nat} (hk:k < s.size):s.data.toList.drop k=s[k]::s.data.toList.drop (k+1):=by
 have:k < s.data.toList.length:=by simpa using hk
 rw [List.drop_eq_getElem_cons this]
 rfl
theorem toList_eq (s:ByteArray):s.toList=s.data.toList:=Go.ByteArray.toList_eq s
theorem prefix_any (t:ByteArray) (w:World):Calls Tryz.prog 280 #[.string t,.string ⟨#[123,123]⟩] w fun e w'=>e=.returned (.bool (t.data.toList.take 2==[123,123]))/\w=w':=by
 by_cases h:2<=t.size
 ·have h2:(t.extract 0 2).toList=t.data.toList.take 2:=by
   rw [toList_eq];simp [ByteArray.data_extract]
  have hz:(2:Int)<=(t.size:Int):=by omega
  cases hb:(t.data.toList.take 2==[123,123]) with
  | true=>
   rw [<- h2] at hb;clear h2;go_enter Tryz.func280,Tryz.ntmps280;go_wp2;go_ret;exact ⟨rfl,rfl⟩
  | false=>
   rw [<- h2] at hb;clear h2;go_enter Tryz.func280,Tryz.ntmps280;go_wp2;go_ret;exact ⟨rfl,rfl⟩
 ·have hz:¬ (2:Int)<=(t.size:Int):=by omega
  have hf:(t.data.toList.take 2==[123,123])=false:=by
   rw [beq_eq_false_iff_ne];intro e;have:=congrArg List.length e;simp at this;have h0:t.data.size=t.size:=rfl;omega
  rw [hf];clear hf;go_enter Tryz.func280,Tryz.ntmps280;go_wp2;go_ret;exact ⟨rfl,rfl⟩
theorem opens_any (s:ByteArray) (k:Nat) (hk:k < s.size) (hs:s.size<=1000) (w:World):Calls Tryz.prog 560 #[.string s,.int .i64 k] w fun e w'=>e=.returned (.bool (opensB (s.data.toList.drop k)))/\w=w':=by
 have hp:=prefix_any (s.extract k s.size) w;have hpe:(s.extract k s.size).data.toList.take 2=(s.data.toList.drop k).take 2:=by
  rw [ByteArray.data_extract,Array.toList_extract,List.extract_eq_take_drop,List.take_take]
  by_cases h2:2<=s.size - k
  ·rw [Nat.min_eq_left h2]
  ·rw [Nat.min_eq_right (by omega),List.take_of_length_le (by have h0:s.data.size=s.size:=rfl;simp <;> omega),List.take_of_length_le (by have h0:s.data.size=s.size:=rfl;simp <;> omega)]
 rw [hpe] at hp;have hd:=drop_at s hk;rw [hd] at hp ⊢
 have hres:=hid (show opensB (s[k]::s.data.toList.drop (k+1))=(decide (s[k].toNat=123) && !((s[k]::s.data.toList.drop (k+1)).take 2==[123,123])) by
  generalize s.data.toList.drop (k+1)=r;generalize s[k]=c;cases r with
  | nil=>simp [opensB]
  | cons d r=>
   simp only [opensB,List.take_succ_cons,List.take_zero];rw [Bool.eq_iff_iff];simp only [Bool.and_eq_true,Bool.not_eq_true',decide_eq_true_eq,decide_eq_false_iff_not,beq_eq_false_iff_ne,ne_eq,List.cons.injEq,and_true];constructor
   ·rintro ⟨h1,h2⟩
    refine ⟨h1,fun h=>h2 ?_⟩;rw [h.2];rfl
   ·rintro ⟨h1,h2⟩
    refine ⟨h1,fun h=>h2 ⟨UInt8.toNat_inj.1 (by rw [h1];rfl),UInt8.toNat_inj.1 (by rw [h];rfl)⟩⟩)
 generalize opensB (s[k]::s.data.toList.drop (k+1))=res at hres ⊢;generalize ((s[k]::s.data.toList.drop (k+1)).take 2==[123,123])=pb at hp hres;clear hpe hd;replace hp:=hid hp;cases hb:((s[k].toNat:Int)==123) with
 | false=>
  go_enter Tryz.func560,Tryz.ntmps560;go_wp2_with fail
  go_ret;refine ⟨?_,rfl⟩;rw [hres.out];have:¬ s[k].toNat=123:=by intro h;rw [h] at hb;simp at hb
  simp [this]
 | true=>
  have h123:s[k].toNat=123:=by have:(s[k].toNat:Int)=123:=(by simpa using hb);omega
  replace h123:=hid h123;go_enter Tryz.func560,Tryz.ntmps560;go_wp2_with fail
  refine hp.out.mono ?_;rintro e w' ⟨rfl,rfl⟩;go_wp2_with fail
  go_ret;refine ⟨?_,rfl⟩;rw [hres.out,h123.out];simp
theorem run_word (s:ByteArray) (k:Nat) (hk:k<=s.size) (hs:s.size<=1000) (w:World):
  Calls Tryz.prog 602 #[.string s,.int .i64 k,.func (.func 603) #[] #[]] w fun e w'=>e=.returned (.int .i64 ((k+((s.data.toList.drop k).takeWhile isW).length:Nat):Int))/\w=w':=by
 go_enter Tryz.func602,Tryz.ntmps602;go_wp2_with fail
 go_loopg [1] (s.size - k) (fun g i wr=>∃ j:Nat,k<=j/\j+g=s.size/\i=.int .i64 j/\wr=w/\k+((s.data.toList.drop k).takeWhile isW).length=j+((s.data.toList.drop j).takeWhile isW).length)
 case atStart=>exact ⟨k,Nat.le_refl _,by omega,rfl,rfl,rfl⟩
 case round=>
  obtain ⟨j,hkj,hj,rfl,rfl,hr⟩:=hrel;have hjs:j<=s.size:=by omega
  replace hj:=hid hj
  by_cases hlt:j < s.size
  ·rw [drop_at s hlt,List.takeWhile_cons] at hr
   have hc:=word_any s[j] wr;cases hb:isW s[j] with
   | true=>
    rw [hb] at hc hr;simp only [if_true,List.length_cons] at hr;replace hr:=hid hr;replace hc:=hid hc;clear hb;go_wp2_with fail
    refine hc.out.mono ?_;rintro e w' ⟨rfl,rfl⟩;go_wp2_with fail
    go_roundg (gk - 1)
    case measure=>have:=hj.out;omega
    case rel=>exact ⟨j+1,by omega,by have:=hj.out;omega,by go_num,rfl,by have:=hr.out;omega⟩
   | false=>
    rw [hb] at hc hr;simp only [Bool.false_eq_true,if_false,List.length_nil,Nat.add_zero] at hr;replace hr:=hid hr;replace hc:=hid hc;clear hb;go_wp2_with fail
    refine hc.out.mono ?_;rintro e w' ⟨rfl,rfl⟩;go_wp2_with fail
    go_ret;refine ⟨?_,rfl⟩;rw [hr.out]
    rfl
  ·obtain rfl:j=s.size:=by omega
   have hd:s.data.toList.drop s.size=[]:=List.drop_eq_nil_of_le (Nat.le_refl _);rw [hd] at hr;simp only [List.takeWhile_nil,List.length_nil,Nat.add_zero] at hr;replace hr:=hid hr;clear hd;go_wp2_with fail
   go_ret;refine ⟨?_,rfl⟩;rw [hr.out]
   rfl
theorem run_digit (s:ByteArray) (k:Nat) (hk:k<=s.size) (hs:s.size<=1000) (w:World):
  Calls Tryz.prog 602 #[.string s,.int .i64 k,.func (.func 604) #[] #[]] w fun e w'=>e=.returned (.int .i64 ((k+((s.data.toList.drop k).takeWhile isD).length:Nat):Int))/\w=w':=by
 go_enter Tryz.func602,Tryz.ntmps602;go_wp2_with fail
 go_loopg [1] (s.size - k) (fun g i wr=>∃ j:Nat,k<=j/\j+g=s.size/\i=.int .i64 j/\wr=w/\k+((s.data.toList.drop k).takeWhile isD).length=j+((s.data.toList.drop j).takeWhile isD).length)
 case atStart=>exact ⟨k,Nat.le_refl _,by omega,rfl,rfl,rfl⟩
 case round=>
  obtain ⟨j,hkj,hj,rfl,rfl,hr⟩:=hrel;have hjs:j<=s.size:=by omega
  replace hj:=hid hj
  by_cases hlt:j < s.size
  ·rw [drop_at s hlt,List.takeWhile_cons] at hr
   have hc:=digit_any s[j] wr;cases hb:isD s[j] with
   | true=>
    rw [hb] at hc hr;simp only [if_true,List.length_cons] at hr;replace hr:=hid hr;replace hc:=hid hc;clear hb;go_wp2_with fail
    refine hc.out.mono ?_;rintro e w' ⟨rfl,rfl⟩;go_wp2_with fail
    go_roundg (gk - 1)
    case measure=>have:=hj.out;omega
    case rel=>exact ⟨j+1,by omega,by have:=hj.out;omega,by go_num,rfl,by have:=hr.out;omega⟩
   | false=>
    rw [hb] at hc hr;simp only [Bool.false_eq_true,if_false,List.length_nil,Nat.add_zero] at hr;replace hr:=hid hr;replace hc:=hid hc;clear hb;go_wp2_with fail
    refine hc.out.mono ?_;rintro e w' ⟨rfl,rfl⟩;go_wp2_with fail
    go_ret;refine ⟨?_,rfl⟩;rw [hr.out]
    rfl
  ·obtain rfl:j=s.size:=by omega
   have hd:s.data.toList.drop s.size=[]:=List.drop_eq_nil_of_le (Nat.le_refl _);rw [hd] at hr;simp only [List.takeWhile_nil,List.length_nil,Nat.add_zero] at hr;replace hr:=hid hr;clear hd;go_wp2_with fail
   go_ret;refine ⟨?_,rfl⟩;rw [hr.out]
   rfl
theorem run_quoted (s:ByteArray) (k:Nat) (hk:k<=s.size) (hs:s.size<=1000) (w:World):
  Calls Tryz.prog 602 #[.string s,.int .i64 k,.func (.func 605) #[] #[]] w fun e w'=>e=.returned (.int .i64 ((k+((s.data.toList.drop k).takeWhile isA).length:Nat):Int))/\w=w':=by
 go_enter Tryz.func602,Tryz.ntmps602;go_wp2_with fail
 go_loopg [1] (s.size - k) (fun g i wr=>∃ j:Nat,k<=j/\j+g=s.size/\i=.int .i64 j/\wr=w/\k+((s.data.toList.drop k).takeWhile isA).length=j+((s.data.toList.drop j).takeWhile isA).length)
 case atStart=>exact ⟨k,Nat.le_refl _,by omega,rfl,rfl,rfl⟩
 case round=>
  obtain ⟨j,hkj,hj,rfl,rfl,hr⟩:=hrel;have hjs:j<=s.size:=by omega
  replace hj:=hid hj
  by_cases hlt:j < s.size
  ·rw [drop_at s hlt,List.takeWhile_cons] at hr
   have hc:=quoted_any s[j] wr;cases hb:isA s[j] with
   | true=>
    rw [hb] at hc hr;simp only [if_true,List.length_cons] at hr;replace hr:=hid hr;replace hc:=hid hc;clear hb;go_wp2_with fail
    refine hc.out.mono ?_;rintro e w' ⟨rfl,rfl⟩;go_wp2_with fail
    go_roundg (gk - 1)
    case measure=>have:=hj.out;omega
    case rel=>exact ⟨j+1,by omega,by have:=hj.out;omega,by go_num,rfl,by have:=hr.out;omega⟩
   | false=>
    rw [hb] at hc hr;simp only [Bool.false_eq_true,if_false,List.length_nil,Nat.add_zero] at hr;replace hr:=hid hr;replace hc:=hid hc;clear hb;go_wp2_with fail
    refine hc.out.mono ?_;rintro e w' ⟨rfl,rfl⟩;go_wp2_with fail
    go_ret;refine ⟨?_,rfl⟩;rw [hr.out]
    rfl
  ·obtain rfl:j=s.size:=by omega
   have hd:s.data.toList.drop s.size=[]:=List.drop_eq_nil_of_le (Nat.le_refl _);rw [hd] at hr;simp only [List.takeWhile_nil,List.length_nil,Nat.add_zero] at hr;replace hr:=hid hr;clear hd;go_wp2_with fail
   go_ret;refine ⟨?_,rfl⟩;rw [hr.out]
   rfl
end Go.Proofs.YtcopgcdhkgenkaaGreatDoor.Ps
