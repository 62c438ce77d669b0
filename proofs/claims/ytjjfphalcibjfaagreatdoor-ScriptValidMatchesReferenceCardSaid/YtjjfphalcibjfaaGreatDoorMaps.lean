import Derived.Lib.AtoiAll
import Derived.Lib.ItoaNum
import Derived.Lib.AtoiAllCases
import Derived.WalkSpells
import Derived.WalkLawsBesides
import Derived.Deep.DeepCutAuto
import Derived.BigQuiet
import Derived.Deep.RegionHeld3
import Derived.StillTailTactics
namespace Scr
abbrev Bs:=List UInt8
structure Lb where
 til:Int
 aft:List Int
 app:Int
 den:Int
deriving DecidableEq
structure Bk where
 id:Int
 kd:Int
 tx:Bs
 st:Int
 rf:Int
 lb:Lb
deriving DecidableEq
structure Fc where
 n:Int
 tm:Int
 kd:Int
 st:Int
 lg:Bs
 rv:Int
 bs:Int
 ti:Bs
 au:Bs
 tp:List Bs
 bl:List Bk
 lb:Lb
 ed:Int
 bk:Int
 se:Int
 tx:Bs
 nm:Bs
 pa:Int
 cl:Int
 un:Int
deriving DecidableEq
structure Ms where
 kd:Int
 pa:Int
 sq:Int
 st:Int
 ba:Int
 ve:Int
 da:Bs
deriving DecidableEq
structure Ac where
 kd:Int
 fc:Fc
 n:Int
 cl:Int
 tx:Bs
 fa:List Int
 ke:List Int
 ms:Ms
deriving DecidableEq
def Lb.zero:Lb:=⟨0,[],0,0⟩
def Fc.zero:Fc:=⟨0,0,0,0,[],0,0,[],[],[],[],Lb.zero,0,0,0,[],[],0,0,0⟩
def Ms.zero:Ms:=⟨0,0,0,0,0,0,[]⟩
def Ac.zero:Ac:=⟨0,Fc.zero,0,0,[],[],[],Ms.zero⟩
def rng (n a b:Int):Bool:=decide (a<=n) && decide (n<=b)
def asc:Int -> List Int -> Bool
 | _,[]=>true
 | p,x::r=>rng x (p+1) 64 && asc x r
def vLb (l:Lb):Bool:=rng l.til 0 1000000000 && (rng l.app 0 5 && (rng l.den 0 15 && asc 0 l.aft))
def zc0 (c:UInt8):Bool:=decide (32<=c.toNat) && decide (c.toNat<=126)
def zdV (c:UInt8):Bool:=(decide (97<=c.toNat) && decide (c.toNat<=122)) || (decide (48<=c.toNat) && decide (c.toNat<=57)) || decide (c.toNat=45)
def zfV (c:UInt8):Bool:=decide (c.toNat=10) || zc0 c
def zcp (s:Bs):Bool:=decide (s.length<=300) && s.all zc0
def zbv (s:Bs):Bool:=decide (1<=s.length) && (decide (s.length<=20) && s.all zdV)
def zcj (s:Bs):Bool:=decide (1<=s.length) && zcp s
def zgO (s:Bs):Bool:=decide (s.length<=1000) && s.all zfV
def vBk (b:Bk):Bool:=
 rng b.id 1 1000 && (vLb b.lb &&
  (if b.kd=1 \/ b.kd=2 \/ b.kd=4 then zcj b.tx && (decide (b.st=0) && decide (b.rf=0))
   else if b.kd=3 then zcp b.tx && (rng b.st 1 64 && rng b.rf 1 1000)
   else if b.kd=5 then zbv b.tx && (decide (b.st=0) && decide (b.rf=0))
   else false))
def zdU:List Bk -> List Bk -> Bool
 | _,[]=>true
 | pre,b::r=>vBk b && (pre.all (fun x=>!decide (x.id=b.id)) && zdU (pre++[b]) r)
def zdt (l:List Bk):Bool:=decide (l.length<=24) && zdU [] l
def ltS:Bs -> Bs -> Bool
 | _,[]=>false
 | [],_::_=>true
 | x::a,y::b=>decide (x.toNat < y.toNat) || (decide (x.toNat=y.toNat) && ltS a b)
def zmg:Bs -> List Bs -> Bool
 | _,[]=>true
 | p,t::r=>zbv t && (ltS p t && zmg t r)
def vTp (l:List Bs):Bool:=decide (l.length<=4) && (match l with | []=>true | t::r=>zbv t && zmg t r)
def zbt (f:Fc):Fc × Bool:=
 let u:Fc:={ Fc.zero with n:=f.n,tm:=f.tm,kd:=f.kd,st:=f.st }
 let story:=rng f.st 1 64
 let partner:=rng f.pa 1 8 && rng f.un 0 1000000000
 if f.kd=1 then
  ({ u with lg:=f.lg,rv:=f.rv,bs:=f.bs,ti:=f.ti,au:=f.au,tp:=f.tp,bl:=f.bl,lb:=f.lb },
   story && (zbv f.lg && (rng f.rv 1 100 && (rng f.bs 0 (f.rv - 1) && (zcj f.ti && (zbv f.au && (vTp f.tp && (zdt f.bl && vLb f.lb))))))))
 else if f.kd=2 then ({ u with ed:=f.ed },story && rng f.ed 1 5)
 else if f.kd=3 then ({ u with lb:=f.lb },story && vLb f.lb)
 else if f.kd=4 then ({ u with lg:=f.lg,bk:=f.bk,se:=f.se,tx:=f.tx },story && (zbv f.lg && (rng f.bk 1 1000 && (rng f.se 0 299 && zcj f.tx))))
 else if f.kd=5 then ({ u with tx:=f.tx },story && zcj f.tx)
 else if f.kd=6 \/ f.kd=10 then (u,story)
 else if f.kd=7 then ({ u with st:=0,nm:=f.nm,tx:=f.tx },zbv f.nm && zgO f.tx)
 else if f.kd=8 then ({ u with st:=0,pa:=f.pa,cl:=f.cl,un:=f.un },partner && rng f.cl 0 3)
 else if f.kd=9 then ({ u with st:=0,pa:=f.pa,un:=f.un },partner)
 else (u,false)
def vFc (f:Fc):Bool:=rng f.n 0 500 && (rng f.tm 0 1000000000 && ((zbt f).2 && decide (f=(zbt f).1)))
def zbX (n:Int):Bool:=rng n 0 4294967295
def vMs (m:Ms):Bool:=
 rng m.pa 1 8 && (rng m.sq 1 4611686018427387903 && (rng m.st 1 64 && (zbX m.ba && (zbX m.ve &&
  (if m.kd=1 then decide (m.da.length<=16384)
   else if m.kd=2 then decide (m.ba=0) && (decide (m.ve=0) && m.da.isEmpty)
   else if m.kd=3 then decide (m.ba=0) && m.da.isEmpty
   else if m.kd=4 then decide (m.ve=0) && m.da.isEmpty
   else false)))))
def zfU (l:List Int) (most:Nat) (top:Int):Bool:=decide (l.length<=most) && l.all (fun n=>rng n 0 top)
def zfR (s:Bs) (least most first:Nat):Bool:=decide (least<=s.length) && (decide (s.length<=most) && s.all (fun c=>decide (first<=c.toNat) && decide (c.toNat<=126)))
def zfr (a:Ac):Ac:=
 let b:Ac:={ Ac.zero with kd:=a.kd }
 if a.kd=1 then { b with fc:=a.fc }
 else if a.kd=2 \/ a.kd=3 \/ a.kd=10 then { b with n:=a.n }
 else if a.kd=4 then { b with fa:=a.fa }
 else if a.kd=5 then { b with n:=a.n,ke:=a.ke }
 else if a.kd=6 then { b with cl:=a.cl,tx:=a.tx }
 else if a.kd=7 then { b with cl:=a.cl,n:=a.n,tx:=a.tx }
 else if a.kd=8 then { b with ms:=a.ms }
 else b
def zaV (a:Ac):Bool:=
 if a.kd=1 then decide (a.fc.n=0) && (decide (a.fc.tm=0) && (!decide (a.fc.kd=10) && vFc a.fc))
 else if a.kd=2 then rng a.n 1 500
 else if a.kd=3 then rng a.n 0 1000000000
 else if a.kd=4 then zfU a.fa 64 24
 else if a.kd=5 then rng a.n (-1) 4194304 && zfU a.ke 64 1000
 else if a.kd=6 then rng a.cl 0 3 && zfR a.tx 1 100 33
 else if a.kd=7 then rng a.cl 0 3 && (rng a.n 0 64 && zfR a.tx 0 300 32)
 else if a.kd=8 then vMs a.ms
 else if a.kd=9 then true
 else if a.kd=10 then rng a.n 0 10000
 else false
def vAc (a:Ac):Bool:=zaV a && decide (a=zfr a)
def dig (n:Nat):UInt8:=UInt8.ofNat (48+n)
def zdM:Nat -> Nat -> Bs
 | 0,_=>[]
 | f+1,n=>if n < 10 then [dig n] else zdM f (n / 10)++[dig (n % 10)]
def itoa (n:Int):Bs:=if n < 0 then 45::zdM 20 n.natAbs else zdM 20 n.toNat
def join (c:UInt8):List Bs -> Bs
 | []=>[]
 | [x]=>x
 | x::y::r=>x++c::join c (y::r)
def listW (l:List Bs):Bs:=if l.isEmpty then [42] else join 44 l
def labelW (l:Lb):Bs:=
 if l.til=0/\l.aft=[]/\l.app=0/\l.den=0 then [42]
 else join 47 [itoa l.til,listW (l.aft.map itoa),itoa l.app,itoa l.den]
def hexD (n:Nat):UInt8:=if n < 10 then UInt8.ofNat (48+n) else UInt8.ofNat (87+n)
def hexW (s:Bs):Bs:=if s.isEmpty then [42] else s.flatMap fun c=>[hexD (c.toNat / 16),hexD (c.toNat % 16)]
def ze1:Nat -> Nat -> Bs
 | 0,_=>[]
 | f+1,z=>if z < 128 then [UInt8.ofNat z] else UInt8.ofNat (z % 128+128)::ze1 f (z / 128)
def zz (n:Int):Nat:=if n < 0 then 2*n.natAbs - 1 else 2*n.toNat
def zbs (n:Int):Bs:=if n < -4611686018427387903 \/ 4611686018427387903 < n then [] else ze1 10 (zz n)
def zeL (s:Bs):Bs:=if 65536 < s.length then [] else zbs s.length++s
def zdW:Nat -> Nat -> Nat -> Bs -> Option (Int × Bs)
 | 0,_,_,_=>none
 | _+1,_,_,[]=>none
 | f+1,i,acc,b::r=>
  if 128<=b.toNat then zdW f (i+1) (acc+b.toNat % 128*2 ^ (7*i)) r
  else
   let z:=acc+b.toNat*2 ^ (7*i)
   let n:Int:=if z % 2=1 then -((z / 2:Nat):Int) - 1 else ((z / 2:Nat):Int)
   if (b.toNat=0/\0 < i) \/ n < -4611686018427387903 then none else some (n,r)
def zex (s:Bs):Option (Int × Bs):=zdW 9 0 0 s
def zkE (s:Bs):Option (Bs × Bs):=
 match zex s with
 | none=>none
 | some (n,r)=>if n < 0 \/ 65536 < n \/ (r.length:Int) < n then none else some (r.take n.toNat,r.drop n.toNat)
def zdv:List UInt32:=[0x00000000,0x105ec76f,0x20bd8ede,0x30e349b1,0x417b1dbc,0x5125dad3,0x61c69362,0x7198540d,0x82f63b78,0x92a8fc17,0xa24bb5a6,0xb21572c9,0xc38d26c4,0xd3d3e1ab,0xe330a81a,0xf36e6f75]
def nib (r:UInt32):UInt32:=(r >>> 4) ^^^ (zdv.getD (r.toNat % 16) 0)
def zj0:UInt32 -> Bs -> UInt32
 | r,[]=>r
 | r,c::s=>zj0 (nib (nib (r ^^^ c.toUInt32))) s
def crc (s:Bs):Int:=((zj0 0xFFFFFFFF s) ^^^ 0xFFFFFFFF).toNat
def zaE (l:List Int):Bs:=l.flatMap zbs
def zgP (b:Bk):Bs:=zaE [b.id,b.kd]++(zeL b.tx++(zaE [b.st,b.rf,b.lb.til,b.lb.aft.length]++(zaE b.lb.aft++zaE [b.lb.app,b.lb.den])))
def zcL (l:List Bk):Bs:=if zdt l then zbs l.length++l.flatMap zgP else []
abbrev Rb (α:Type):=Bs -> Except Int (α × Bs)
def rbI:Rb Int:=fun s=>match zex s with | none=>.error 10 | some x=>.ok x
def rbS:Rb Bs:=fun s=>match zkE s with | none=>.error 10 | some x=>.ok x
def rbN {α:Type} (el:Rb α):Nat -> Rb (List α)
 | 0,s=>.ok ([],s)
 | k+1,s=>match el s with
  | .error e=>.error e
  | .ok (x,s)=>match rbN el k s with
   | .error e=>.error e
   | .ok (l,s)=>.ok (x::l,s)
def rbL {α:Type} (most:Int) (el:Rb α):Rb (List α):=fun s=>match rbI s with
 | .error e=>.error e
 | .ok (c,s)=>if c < 0 \/ most < c then .error 30 else rbN el c.toNat s
def rbB:Rb Bk:=fun s=>do
 let (id,s) <- rbI s
 let (kd,s) <- rbI s
 let (tx,s) <- rbS s
 let (st,s) <- rbI s
 let (rf,s) <- rbI s
 let (til,s) <- rbI s
 let (aft,s) <- rbL 64 rbI s
 let (app,s) <- rbI s
 let (den,s) <- rbI s
 .ok (⟨id,kd,tx,st,rf,⟨til,aft,app,den⟩⟩,s)
def zgm (s:Bs):Except Int (List Bk):=match rbL 24 rbB s with
 | .error e=>.error e
 | .ok (l,r)=>if !r.isEmpty then .error 10 else if zdt l then .ok l else .error 30
def zbV (m:Ms):Bs:=zaE [m.kd,m.pa,m.sq,m.st,m.ba,m.ve]++zeL m.da
def zgM (m:Ms):Bs:=if vMs m then zbs (crc (zbV m))++zbV m else []
def zmU (s:Bs):Except Int Ms:=do
 let (sum,s) <- rbI s
 if sum ≠ crc s then .error 200
 let (a,s) <- rbI s
 let (b,s) <- rbI s
 let (c,s) <- rbI s
 let (d,s) <- rbI s
 let (e,s) <- rbI s
 let (f,s) <- rbI s
 let (da,s) <- rbS s
 if !s.isEmpty then .error 10
 let m:Ms:=⟨a,b,c,d,e,f,da⟩
 if vMs m then .ok m else .error 200
structure Fm where
 kd:Int
 fk:Int
 wd:Bs
def fRevise:Bs:=[114,101,118,105,115,101]
def fApprove:Bs:=[97,112,112,114,111,118,101]
def fPublish:Bs:=[112,117,98,108,105,115,104]
def fCorrect:Bs:=[99,111,114,114,101,99,116]
def fRetract:Bs:=[114,101,116,114,97,99,116]
def fTakedown:Bs:=[116,97,107,101,100,111,119,110]
def fTemplate:Bs:=[116,101,109,112,108,97,116,101]
def fPartner:Bs:=[112,97,114,116,110,101,114]
def fLease:Bs:=[108,101,97,115,101]
def fTick:Bs:=[116,105,99,107]
def fClock:Bs:=[99,108,111,99,107]
def fCut:Bs:=[99,117,116]
def fFates:Bs:=[102,97,116,101,115]
def fCrash:Bs:=[99,114,97,115,104]
def fCheck:Bs:=[99,104,101,99,107]
def fGet:Bs:=[103,101,116]
def fSearch:Bs:=[115,101,97,114,99,104]
def fForge:Bs:=[102,111,114,103,101]
def forms:List Fm:=
 [⟨1,1,fRevise⟩,⟨1,2,fApprove⟩,⟨1,3,fPublish⟩,⟨1,4,fCorrect⟩,⟨1,5,fRetract⟩,⟨1,6,fTakedown⟩,
  ⟨1,7,fTemplate⟩,⟨1,8,fPartner⟩,⟨1,9,fLease⟩,
  ⟨2,0,fTick⟩,⟨3,0,fClock⟩,⟨10,0,fCut⟩,⟨4,0,fFates⟩,⟨5,0,fCrash⟩,⟨9,0,fCheck⟩,
  ⟨6,0,fGet⟩,⟨7,0,fSearch⟩,⟨8,0,fForge⟩]
def zan:Nat -> Ac -> List Bs
 | 0,a=>[itoa a.fc.st,a.fc.lg,itoa a.fc.rv,itoa a.fc.bs,a.fc.au,listW a.fc.tp,labelW a.fc.lb,hexW (zcL a.fc.bl),a.fc.ti]
 | 1,a=>[itoa a.fc.st,itoa a.fc.ed]
 | 2,a=>[itoa a.fc.st,labelW a.fc.lb]
 | 3,a=>[itoa a.fc.st,a.fc.lg,itoa a.fc.bk,itoa a.fc.se,a.fc.tx]
 | 4,a=>[itoa a.fc.st,a.fc.tx]
 | 5,a=>[itoa a.fc.st]
 | 6,a=>[a.fc.nm,hexW a.fc.tx]
 | 7,a=>[itoa a.fc.pa,itoa a.fc.cl,itoa a.fc.un]
 | 8,a=>[itoa a.fc.pa,itoa a.fc.un]
 | 9,a=>[itoa a.n]
 | 10,a=>[itoa a.n]
 | 11,a=>[itoa a.n]
 | 12,a=>[listW (a.fa.map itoa)]
 | 13,a=>[itoa a.n,listW (a.ke.map itoa)]
 | 14,_=>[]
 | 15,a=>[itoa a.cl,a.tx]
 | 16,a=>[itoa a.cl,itoa a.n,a.tx]
 | 17,a=>[hexW (zgM a.ms)]
 | _,_=>[]
def zcW (kd fk:Int):Nat -> List Fm -> Option (Nat × Fm)
 | _,[]=>none
 | j,f::r=>if f.kd=kd/\f.fk=fk then some (j,f) else zcW kd fk (j+1) r
def line (a:Ac):Bs:=match zcW a.kd a.fc.kd 0 forms with
 | none=>[]
 | some (j,f)=>join 32 (f.wd::zan j a)
structure Rd where
 rest:Bs
 more:Bool
 bad:Bool
deriving DecidableEq
def zbY (c:UInt8):Bs -> Bs × Bs × Bool
 | []=>([],[],false)
 | x::r=>if x=c then ([],r,true) else (x::(zbY c r).1,(zbY c r).2)
def parts (c:UInt8):Bs -> List Bs
 | []=>[[]]
 | x::r=>if x=c then []::parts c r else match parts c r with
  | []=>[[x]]
  | p::q=>(x::p)::q
abbrev Rr (α:Type):=Rd -> α × Rd
def zaQ:Rr Bs:=fun r=>if r.more then ((zbY 32 r.rest).1,⟨(zbY 32 r.rest).2.1,(zbY 32 r.rest).2.2,r.bad⟩) else ([],{ r with bad:=true })
def zb7:Rr Bs:=fun r=>if r.more then (r.rest,{ r with more:=false }) else ([],{ r with bad:=true })
def zbo (s:Bs):Rr Int:=fun r=>match Go.Lib.atoiAll s with | .ok v=>(v,r) | _=>(0,{ r with bad:=true })
def zbi:Rr Int:=fun r=>zbo (zaQ r).1 (zaQ r).2
def zbc:List Bs -> Rr (List Int)
 | [],r=>([],r)
 | s::l,r=>((zbo s r).1::(zbc l (zbo s r).2).1,(zbc l (zbo s r).2).2)
def numsOf (w:Bs):Rr (List Int):=fun r=>if w=[42] then ([],r) else zbc (parts 44 w) r
def zeN:Rr (List Int):=fun r=>numsOf (zaQ r).1 (zaQ r).2
def textsOf (w:Bs):List Bs:=if w=[42] then [] else parts 44 w
def labelOf (w:Bs):Rr Lb:=fun r=>
 if w=[42] then (Lb.zero,r) else match parts 47 w with
 | [a,b,c,d]=>
  let x:=zbo a r
  let y:=numsOf b x.2
  let z:=zbo c y.2
  let t:=zbo d z.2
  (⟨x.1,y.1,z.1,t.1⟩,t.2)
 | _=>(Lb.zero,{ r with bad:=true })
def zb3:Rr Lb:=fun r=>labelOf (zaQ r).1 (zaQ r).2
def hexV (c:UInt8):Option Nat:=if 48<=c.toNat/\c.toNat<=57 then some (c.toNat - 48) else if 97<=c.toNat/\c.toNat<=102 then some (c.toNat - 87) else none
def unhex:Bs -> Option Bs
 | []=>some []
 | [_]=>none
 | a::b::r=>match hexV a,hexV b with
  | some x,some y=>(unhex r).map (fun l=>UInt8.ofNat (16*x+y)::l)
  | _,_=>none
def hexOf (w:Bs):Rr Bs:=fun r=>if w=[42] then ([],r) else match unhex w with | some s=>(s,r) | none=>([],{ r with bad:=true })
def zfJ:Rr Bs:=fun r=>hexOf (zaQ r).1 (zaQ r).2
def bad (r:Rd):Rd:={ r with bad:=true }
def zby (f:Fc):Ac:={ Ac.zero with fc:=f }
def zbe:Nat -> Rr Ac
 | 0,r=>
  let st:=zbi r
  let lg:=zaQ st.2
  let rv:=zbi lg.2
  let bs:=zbi rv.2
  let au:=zaQ bs.2
  let tp:=zaQ au.2
  let lb:=zb3 tp.2
  let hx:=zfJ lb.2
  let bl:List Bk × Rd:=match zgm hx.1 with | .ok l=>(l,hx.2) | .error _=>([],Scr.bad hx.2)
  let ti:=zb7 bl.2
  (zby { Fc.zero with st:=st.1,lg:=lg.1,rv:=rv.1,bs:=bs.1,au:=au.1,tp:=textsOf tp.1,lb:=lb.1,bl:=bl.1,ti:=ti.1 },ti.2)
 | 1,r=>let st:=zbi r;let ed:=zbi st.2;(zby { Fc.zero with st:=st.1,ed:=ed.1 },ed.2)
 | 2,r=>let st:=zbi r;let lb:=zb3 st.2;(zby { Fc.zero with st:=st.1,lb:=lb.1 },lb.2)
 | 3,r=>
  let st:=zbi r
  let lg:=zaQ st.2
  let bk:=zbi lg.2
  let se:=zbi bk.2
  let tx:=zb7 se.2
  (zby { Fc.zero with st:=st.1,lg:=lg.1,bk:=bk.1,se:=se.1,tx:=tx.1 },tx.2)
 | 4,r=>let st:=zbi r;let tx:=zb7 st.2;(zby { Fc.zero with st:=st.1,tx:=tx.1 },tx.2)
 | 5,r=>let st:=zbi r;(zby { Fc.zero with st:=st.1 },st.2)
 | 6,r=>let nm:=zaQ r;let tx:=zfJ nm.2;(zby { Fc.zero with nm:=nm.1,tx:=tx.1 },tx.2)
 | 7,r=>let pa:=zbi r;let cl:=zbi pa.2;let un:=zbi cl.2;(zby { Fc.zero with pa:=pa.1,cl:=cl.1,un:=un.1 },un.2)
 | 8,r=>let pa:=zbi r;let un:=zbi pa.2;(zby { Fc.zero with pa:=pa.1,un:=un.1 },un.2)
 | 9,r=>let n:=zbi r;({ Ac.zero with n:=n.1 },n.2)
 | 10,r=>let n:=zbi r;({ Ac.zero with n:=n.1 },n.2)
 | 11,r=>let n:=zbi r;({ Ac.zero with n:=n.1 },n.2)
 | 12,r=>let l:=zeN r;({ Ac.zero with fa:=l.1 },l.2)
 | 13,r=>let n:=zbi r;let l:=zeN n.2;({ Ac.zero with n:=n.1,ke:=l.1 },l.2)
 | 14,r=>(Ac.zero,r)
 | 15,r=>let cl:=zbi r;let tx:=zaQ cl.2;({ Ac.zero with cl:=cl.1,tx:=tx.1 },tx.2)
 | 16,r=>let cl:=zbi r;let n:=zbi cl.2;let tx:=zb7 n.2;({ Ac.zero with cl:=cl.1,n:=n.1,tx:=tx.1 },tx.2)
 | 17,r=>
  let hx:=zfJ r
  match zmU hx.1 with
  | .ok m=>({ Ac.zero with ms:=m },hx.2)
  | .error _=>(Ac.zero,Scr.bad hx.2)
 | _,r=>(Ac.zero,r)
def zgH (w:Bs):Nat -> List Fm -> Option (Nat × Fm)
 | _,[]=>none
 | j,f::r=>if f.wd=w then some (j,f) else zgH w (j+1) r
def zb0 (t:Bs):Option Ac:=
 let w:=zaQ ⟨t,true,false⟩
 match zgH w.1 0 forms with
 | none=>none
 | some (j,f)=>
  let x:=zbe j w.2
  let a:Ac:={ x.1 with kd:=f.kd,fc:={ x.1.fc with kd:=f.fk } }
  if x.2.bad || (x.2.more || (!vAc a || !decide (line a=t))) then none else some a
def skip (t:Bs):Bool:=match t with | []=>true | c::_=>decide (c.toNat=35)
def lnF (a:Ac):Bs:=line a++[10]
def print (l:List Ac):Option Bs:=
 if decide (l.length<=100) && (l.all vAc && decide ((l.flatMap lnF).length<=65536)) then some (l.flatMap lnF) else none
def zbL:Nat -> List Ac -> List Bs -> Except Nat (List Ac)
 | _,acc,[]=>.ok acc
 | k,acc,t::r=>
  if skip t then zbL (k+1) acc r
  else if acc.length=100 then .error k
  else match zb0 t with
   | none=>.error k
   | some a=>zbL (k+1) (acc++[a]) r
def parse (s:Bs):Except Nat (List Ac):=if 65536 < s.length then .error 0 else zbL 1 [] (parts 10 s)
theorem zd6:∀ (f n:Nat),n < 10 ^ f -> 0 < f -> zdM f n=Go.Lib.decDigits n
 | 0,n,_,h=>by omega
 | f+1,n,h,_=>by
  rw [Go.Lib.decDigits]
  by_cases h10:n < 10
  ·rw [dif_pos h10];simp only [zdM,if_pos h10];rfl
  ·rw [dif_neg h10]
   have hf:0 < f:=by
    cases f with
    | zero=>simp at h;omega
    | succ f=>omega
   simp only [zdM,if_neg h10];rw [zd6 f (n / 10) (by rw [Nat.pow_succ] at h;omega) hf];rfl
theorem zmK {n:Int} (h1:-9223372036854775808<=n) (h2:n<=9223372036854775807):itoa n=Go.Lib.itoa n:=by
 unfold itoa Go.Lib.itoa
 by_cases h:n < 0
 ·rw [if_pos h,if_pos h,zd6 20 _ (by simp only [Nat.reducePow];omega) (by decide)]
 ·rw [if_neg h,if_neg h,zd6 20 _ (by simp only [Nat.reducePow];omega) (by decide)]
theorem zg9 {n:Nat} (h:n < 10):(dig n).toNat=48+n:=by
 unfold dig;rw [UInt8.toNat_ofNat'];simp only [Nat.reducePow];omega
def zna (c:UInt8):Prop:=48<=c.toNat/\c.toNat<=57
theorem zhq:∀ (f n:Nat),∀ c ∈ zdM f n,zna c
 | 0,n,c,h=>by simp [zdM] at h
 | f+1,n,c,h=>by
  simp only [zdM] at h;split at h
  ·simp only [List.mem_singleton] at h
   subst h;rename_i h10;unfold zna;rw [zg9 h10];omega
  ·rw [List.mem_append] at h
   rcases h with h | h
   ·exact zhq f _ c h
   ·simp only [List.mem_singleton] at h
    subst h;unfold zna;rw [zg9 (by omega)];omega
def zoa (c:UInt8):Prop:=zna c \/ c.toNat=45
theorem zlj (n:Int):∀ c ∈ itoa n,zoa c:=by
 intro c h;unfold itoa at h;split at h
 ·rcases List.mem_cons.1 h with rfl | h
  ·exact .inr rfl
  ·exact .inl (zhq _ _ c h)
 ·exact .inl (zhq _ _ c h)
theorem zda:∀ (f n:Nat),(zdM f n).length<=f
 | 0,n=>by simp [zdM]
 | f+1,n=>by
  simp only [zdM];split
  ·simp
  ·have:=zda f (n / 10)
   simp;omega
theorem zaM (n:Int):(itoa n).length<=21:=by
 unfold itoa;split
 ·have:=zda 20 n.natAbs;simp;omega
 ·have:=zda 20 n.toNat;omega
theorem zdk {c:UInt8}:∀ (s:Bs),(zbY c s).2.2=true/\s=(zbY c s).1++c::(zbY c s).2.1/\c ∉ (zbY c s).1 \/ (zbY c s).2.2=false/\(zbY c s).1=s/\(zbY c s).2.1=[]/\c ∉ s
 | []=>.inr ⟨rfl,rfl,rfl,by simp⟩
 | x::r=>by
  by_cases hx:x=c
  ·subst hx
   exact .inl ⟨by simp [zbY],by simp [zbY],by simp [zbY]⟩
  ·have hx':c ≠ x:=fun e=>hx e.symm
   simp only [zbY,if_neg hx];rcases zdk (c:=c) r with ⟨h1,h2,h3⟩ | ⟨h1,h2,h3,h4⟩
   ·exact .inl ⟨h1,by rw [List.cons_append,<- h2],by simp [hx',h3]⟩
   ·exact .inr ⟨h1,by rw [h2],h3,by simp [hx',h4]⟩
theorem zhR (c:UInt8):∀ s:Bs,parts c s ≠ []
 | []=>by simp [parts]
 | x::r=>by
  simp only [parts];split
  ·simp
  ·split <;> simp
theorem zhF {c:UInt8}:∀ {a:Bs},c ∉ a -> parts c a=[a]
 | [],_=>rfl
 | x::a,h=>by
  have hx:x ≠ c:=fun e=>h (by simp [e])
  simp only [parts,if_neg hx];rw [zhF (fun hc=>h (by simp [hc]))]
theorem zgd {c:UInt8}:∀ {a:Bs} (b:Bs),c ∉ a -> parts c (a++c::b)=a::parts c b
 | [],b,_=>by simp [parts]
 | x::a,b,h=>by
  have hx:x ≠ c:=fun e=>h (by simp [e])
  simp only [List.cons_append,parts,if_neg hx];rw [zgd b (fun hc=>h (by simp [hc]))]
theorem zcg (c:UInt8):∀ s:Bs,(parts c s).length<=s.length+1
 | []=>by simp [parts]
 | x::r=>by
  have ih:=zcg c r;simp only [parts];split
  ·simp;omega
  ·cases hp:parts c r with
   | nil=>exact absurd hp (zhR c r)
   | cons p q=>rw [hp] at ih;simp at ih ⊢;omega
theorem zhK {n:Nat} (h:n < 16):(hexD n).toNat=if n < 10 then 48+n else 87+n:=by
 unfold hexD;split
 ·rw [UInt8.toNat_ofNat'];simp only [Nat.reducePow];omega
 ·rw [UInt8.toNat_ofNat'];simp only [Nat.reducePow];omega
def zmV (s:Bs):Bs:=s.flatMap fun c=>[hexD (c.toNat / 16),hexD (c.toNat % 16)]
theorem zj9 {s:Bs} (h:s ≠ []):hexW s=zmV s/\hexW s ≠ [42]:=by
 have hi:s.isEmpty=false:=by cases s <;> simp_all
 unfold hexW;rw [hi];refine ⟨rfl,?_⟩;simp only [Bool.false_eq_true,if_false];intro e;have:=congrArg List.length e;cases s with
 | nil=>exact h rfl
 | cons c s=>simp at this
def znO (c:UInt8):Prop:=(48<=c.toNat/\c.toNat<=57) \/ (97<=c.toNat/\c.toNat<=102)
theorem zlr (s:Bs):∀ c ∈ zmV s,znO c:=by
 intro c h;simp only [zmV,List.mem_flatMap] at h;obtain ⟨d,-,h⟩:=h;have hd:=d.toNat_lt;simp only [List.mem_cons,List.not_mem_nil,or_false] at h;unfold znO;rcases h with rfl | rfl
 ·rw [zhK (by omega)];split <;> omega
 ·rw [zhK (by omega)];split <;> omega
theorem zlb (s:Bs):(zmV s).length=2*s.length:=by
 induction s with
 | nil=>rfl
 | cons c s ih=>simp only [zmV,List.flatMap_cons,List.length_append,List.length_cons,List.length_nil] at ih ⊢;omega
theorem zk0 (s:Bs):(hexW s).length<=2*s.length+1:=by
 unfold hexW;split
 ·simp
 ·have:=zlb s
  unfold zmV at this;omega
theorem zaq {n a b:Int}:rng n a b=true ↔ a<=n/\n<=b:=by unfold rng;simp
theorem zhk:∀ {l:List Int} {p:Int},asc p l=true -> ∀ x ∈ l,p < x/\x<=64
 | [],_,_,x,h=>by simp at h
 | y::l,p,h,x,hx=>by
  simp only [asc,Bool.and_eq_true,zaq] at h;rcases List.mem_cons.1 hx with rfl | hx
  ·omega
  ·have:=zhk h.2 x hx;omega
theorem zgQ:∀ {l:List Int} {p:Int},asc p l=true -> p<=64 -> (l.length:Int)<=64 - p
 | [],_,_,h=>by simp;omega
 | y::l,p,h,h6=>by
  simp only [asc,Bool.and_eq_true,zaq] at h;have:=zgQ h.2 (by omega);simp only [List.length_cons];omega
structure GoodLb (l:Lb):Prop where
 til:0<=l.til/\l.til<=1000000000
 app:0<=l.app/\l.app<=5
 den:0<=l.den/\l.den<=15
 len:l.aft.length<=64
 aft:∀ x ∈ l.aft,0 < x/\x<=64
theorem zdm {l:Lb} (h:vLb l=true):GoodLb l:=by
 unfold vLb at h;simp only [Bool.and_eq_true,zaq] at h;exact ⟨h.1,h.2.1,h.2.2.1,by have:=zgQ h.2.2.2 (by decide);omega,zhk h.2.2.2⟩
structure GoodBk (b:Bk):Prop where
 id:1<=b.id/\b.id<=1000
 kd:1<=b.kd/\b.kd<=5
 tx:b.tx.length<=300
 st:0<=b.st/\b.st<=64
 rf:0<=b.rf/\b.rf<=1000
 lb:GoodLb b.lb
theorem zlA {b:Bk} (h:vBk b=true):GoodBk b:=by
 unfold vBk at h;simp only [Bool.and_eq_true,zaq] at h;obtain ⟨h1,h2,h3⟩:=h;split at h3
 ·rename_i hk
  simp only [zcj,zcp,Bool.and_eq_true,decide_eq_true_eq] at h3;exact ⟨h1,by omega,h3.1.2.1,by omega,by omega,zdm h2⟩
 ·split at h3
  ·rename_i hk
   simp only [zcp,Bool.and_eq_true,decide_eq_true_eq,zaq] at h3;exact ⟨h1,by omega,h3.1.1,by omega,by omega,zdm h2⟩
  ·split at h3
   ·rename_i hk
    simp only [zbv,Bool.and_eq_true,decide_eq_true_eq] at h3;exact ⟨h1,by omega,by omega,by omega,by omega,zdm h2⟩
   ·cases h3
theorem zgK:∀ {l pre:List Bk},zdU pre l=true -> ∀ b ∈ l,vBk b=true
 | [],_,_,b,h=>by simp at h
 | x::l,pre,h,b,hb=>by
  simp only [zdU,Bool.and_eq_true] at h;rcases List.mem_cons.1 hb with rfl | hb
  ·exact h.1
  ·exact zgK h.2.2 b hb
theorem zdn {l:List Bk} (h:zdt l=true):l.length<=24/\∀ b ∈ l,GoodBk b:=by
 unfold zdt at h;simp only [Bool.and_eq_true,decide_eq_true_eq] at h;exact ⟨h.1,fun b hb=>zlA (zgK h.2 b hb)⟩
theorem zjA (s:Bs):0<=crc s/\crc s<=4294967295:=by
 unfold crc;have:=((zj0 0xFFFFFFFF s) ^^^ 0xFFFFFFFF).toNat_lt;omega
structure GoodMs (m:Ms):Prop where
 kd:1<=m.kd/\m.kd<=4
 pa:1<=m.pa/\m.pa<=8
 sq:1<=m.sq/\m.sq<=4611686018427387903
 st:1<=m.st/\m.st<=64
 ba:0<=m.ba/\m.ba<=4294967295
 ve:0<=m.ve/\m.ve<=4294967295
 da:m.da.length<=16384
theorem zd0 {m:Ms} (h:vMs m=true):GoodMs m:=by
 unfold vMs zbX at h;simp only [Bool.and_eq_true,zaq] at h;obtain ⟨h1,h2,h3,h4,h5,h6⟩:=h;have hk:(1<=m.kd/\m.kd<=4)/\m.da.length<=16384:=by
  split at h6
  ·simp only [decide_eq_true_eq] at h6;omega
  ·split at h6
   ·simp only [Bool.and_eq_true,decide_eq_true_eq,List.isEmpty_iff] at h6
    rw [h6.2.2];simp;omega
   ·split at h6
    ·simp only [Bool.and_eq_true,decide_eq_true_eq,List.isEmpty_iff] at h6
     rw [h6.2];simp;omega
    ·split at h6
     ·simp only [Bool.and_eq_true,decide_eq_true_eq,List.isEmpty_iff] at h6
      rw [h6.2];simp;omega
     ·cases h6
 exact ⟨hk.1,h1,h2,h3,h4,h5,hk.2⟩
theorem zhQ {s:Bs} (h:zbv s=true):s ≠ []/\s.length<=20/\∀ c ∈ s,zdV c=true:=by
 unfold zbv at h;simp only [Bool.and_eq_true,decide_eq_true_eq,List.all_eq_true] at h;refine ⟨?_,h.2.1,h.2.2⟩;rintro rfl;simp at h
theorem zme {s:Bs} (h:zcj s=true):s ≠ []/\s.length<=300/\∀ c ∈ s,zc0 c=true:=by
 unfold zcj zcp at h;simp only [Bool.and_eq_true,decide_eq_true_eq,List.all_eq_true] at h;refine ⟨?_,h.2.1,h.2.2⟩;rintro rfl;simp at h
theorem zhW:∀ {l:List Bs} {p:Bs},zmg p l=true -> ∀ x ∈ l,zbv x=true
 | [],_,_,x,h=>by simp at h
 | y::l,p,h,x,hx=>by
  simp only [zmg,Bool.and_eq_true] at h;rcases List.mem_cons.1 hx with rfl | hx
  ·exact h.1
  ·exact zhW h.2.2 x hx
theorem zhs {l:List Bs} (h:vTp l=true):l.length<=4/\∀ x ∈ l,zbv x=true:=by
 unfold vTp at h;simp only [Bool.and_eq_true,decide_eq_true_eq] at h;refine ⟨h.1,fun x hx=>?_⟩;cases l with
 | nil=>simp at hx
 | cons t r=>
  simp only [Bool.and_eq_true] at h;rcases List.mem_cons.1 hx with rfl | hx
  ·exact h.2.1
  ·exact zhW h.2.2 x hx
theorem zgt {l:List Int} {m:Nat} {t:Int} (h:zfU l m t=true):l.length<=m/\∀ x ∈ l,0<=x/\x<=t:=by
 unfold zfU at h;simp only [Bool.and_eq_true,decide_eq_true_eq,List.all_eq_true,zaq] at h;exact h
theorem zjP {s:Bs} {a b c:Nat} (h:zfR s a b c=true):a<=s.length/\s.length<=b/\∀ x ∈ s,c<=x.toNat/\x.toNat<=126:=by
 unfold zfR at h;simp only [Bool.and_eq_true,decide_eq_true_eq,List.all_eq_true] at h;exact h
def Pr (l:Bs):Prop:=∀ c ∈ l,32<=c.toNat/\c.toNat<=126
theorem Pr.app {a b:Bs} (h:Pr a) (k:Pr b):Pr (a++b):=fun c hc=>by
 rcases List.mem_append.1 hc with hc | hc
 ·exact h c hc
 ·exact k c hc
theorem Pr.join {k:UInt8} (hk:32<=k.toNat/\k.toNat<=126):∀ {l:List Bs},(∀ x ∈ l,Pr x) -> Pr (join k l)
 | [],_=>fun c hc=>by simp [Scr.join] at hc
 | [x],h=>by simp only [Scr.join];exact h x (by simp)
 | x::y::r,h=>by
  simp only [Scr.join];refine (h x (by simp)).app (fun c hc=>?_);rcases List.mem_cons.1 hc with rfl | hc
  ·exact hk
  ·exact Pr.join hk (l:=y::r) (fun z hz=>h z (by simp [hz])) c hc
theorem Pr.itoa (n:Int):Pr (itoa n):=fun c hc=>by
 have:=zlj n c hc
 unfold zoa zna at this
 omega
theorem Pr.nm {s:Bs} (h:zbv s=true):Pr s:=fun c hc=>by
 have:=(zhQ h).2.2 c hc
 unfold zdV at this
 simp only [Bool.or_eq_true,Bool.and_eq_true,decide_eq_true_eq] at this
 omega
theorem zlh {c:UInt8}:zc0 c=true ↔ 32<=c.toNat/\c.toNat<=126:=by unfold zc0;simp
theorem Pr.tx {s:Bs} (h:zcj s=true):Pr s:=fun c hc=>zlh.1 ((zme h).2.2 c hc)
theorem Pr.hexW (s:Bs):Pr (hexW s):=fun c hc=>by
 by_cases h:s=[]
 ·subst h
  have:c=42:=by simpa [Scr.hexW] using hc
  subst this;decide
 ·rw [(zj9 h).1] at hc
  have:=zlr s c hc
  unfold znO at this
  omega
theorem Pr.listW {l:List Bs} (h:∀ x ∈ l,Pr x):Pr (listW l):=by
 unfold Scr.listW;split
 ·intro c hc
  simp only [List.mem_singleton] at hc;subst hc;decide
 ·exact Pr.join (by decide) h
theorem Pr.nums (l:List Int):Pr (Scr.listW (l.map Scr.itoa)):=Pr.listW (fun x hx=>by
 obtain ⟨z,-,rfl⟩:=List.mem_map.1 hx
 exact Pr.itoa z)
theorem Pr.labelW (l:Lb):Pr (labelW l):=by
 unfold Scr.labelW;split
 ·intro c hc
  simp only [List.mem_singleton] at hc;subst hc;decide
 ·refine Pr.join (by decide) (fun x hx=>?_)
  simp only [List.mem_cons,List.not_mem_nil,or_false] at hx;rcases hx with rfl | rfl | rfl | rfl
  ·exact Pr.itoa _
  ·exact Pr.nums _
  ·exact Pr.itoa _
  ·exact Pr.itoa _
theorem Pr.ts {s:Bs} {a b c:Nat} (h:zfR s a b c=true) (hc:32<=c):Pr s:=fun x hx=>by
 have:=(zjP h).2.2 x hx
 omega
theorem zgT {t:Bs} {a:Ac} (h:zb0 t=some a):vAc a=true/\line a=t:=by
 unfold zb0 at h;simp only at h;split at h
 ·cases h
 ·split at h
  ·cases h
  ·rename_i hn
   injection h with h
   rw [h] at hn;simp at hn;exact hn.2.2
end Scr
namespace Cdk
open Go Go.RowKit
theorem hid {p:Prop} (h:p):Hid p:=h
structure Mod (S:Nat -> Prop) (w w':World):Prop where
 os:w'.os=w.os
 tape:w'.tape=w.tape
 output:w'.output=w.output
 size:w.heap.size<=w'.heap.size
 block:∀ k,k < w.heap.size -> ¬ S k -> w'.heap[k]?=w.heap[k]?
abbrev Ext (w w':World):Prop:=Mod (fun _=>False) w w'
variable {S T:Nat -> Prop} {w w' w'':World}
theorem Mod.refl (S:Nat -> Prop) (w:World):Mod S w w:=⟨rfl,rfl,rfl,Nat.le_refl _,fun _ _ _=>rfl⟩
theorem Mod.trans (h:Mod S w w') (k:Mod S w' w''):Mod S w w'':=
 ⟨k.os.trans h.os,k.tape.trans h.tape,k.output.trans h.output,Nat.le_trans h.size k.size,fun i hi hs=>(k.block i (Nat.lt_of_lt_of_le hi h.size) hs).trans (h.block i hi hs)⟩
theorem Mod.mono (h:Mod S w w') (hST:∀ k,S k -> T k):Mod T w w':=
 ⟨h.os,h.tape,h.output,h.size,fun k hk hs=>h.block k hk (fun hS=>hs (hST k hS))⟩
theorem Mod.mono' (h:Mod S w w') (hST:∀ k,k < w.heap.size -> S k -> T k):Mod T w w':=
 ⟨h.os,h.tape,h.output,h.size,fun k hk hs=>h.block k hk (fun hS=>hs (hST k hk hS))⟩
theorem Mod.then (h:Mod S w w') (k:Mod T w' w'') (hT:∀ k,k < w.heap.size -> T k -> S k):Mod S w w'':=
 ⟨k.os.trans h.os,k.tape.trans h.tape,k.output.trans h.output,Nat.le_trans h.size k.size,
  fun i hi hs=>(k.block i (Nat.lt_of_lt_of_le hi h.size) (fun t=>hs (hT i hi t))).trans (h.block i hi hs)⟩
theorem Mod.drew (h:Mod S w w'):Mod S w w'.drew:=⟨h.os,h.tape,h.output,h.size,h.block⟩
theorem Mod.drew0 (S:Nat -> Prop) (w:World):Mod S w w.drew:=(Mod.refl S w).drew
theorem Mod.ofDrewN (h:Mod S w w') (n:Nat):Mod S w (w'.drewN n):=⟨h.os,h.tape,h.output,h.size,h.block⟩
theorem Mod.alloc (h:Mod S w w') (o:Obj):Mod S w (w'.alloc o):=
 ⟨h.os,h.tape,h.output,Nat.le_trans h.size (by simp),fun k hk hs=>by
  rw [Below.heap_alloc w' o k (Nat.lt_of_lt_of_le hk h.size)];exact h.block k hk hs⟩
theorem Mod.setCell (h:Mod S w w') {a:Addr} (ha:a.block < w.heap.size -> S a.block) (u:Value):Mod S w (w'.setCell a u):=
 ⟨h.os,h.tape,h.output,by simpa [World.setCell] using h.size,fun k hk hs=>by
  rw [Below.heap_setCell w' a u k (fun e=>hs (e ▸ ha (e ▸ hk)))];exact h.block k hk hs⟩
theorem Mod.ofGrown {row:Option Nat} (hg:w.grownBy w' row) (hr:∀ k,row=some k -> S k):Mod S w w':=
 ⟨hg.os,hg.tape,hg.output,hg.size,fun k hk hs=>hg.block k hk (fun e=>hs (hr k e.symm))⟩
theorem Mod.ofBelow (h:Below w.heap.size w w'):Mod S w w':=⟨h.os,h.tape,h.output,h.size,fun k hk _=>h.block k hk⟩
theorem Mod.below (h:Mod S w w') {B:Nat} (hB:B<=w.heap.size) (hS:∀ k,S k -> B<=k):Below B w w':=
 ⟨h.os,h.tape,h.output,h.size,fun k hk=>h.block k (Nat.lt_of_lt_of_le hk hB) (fun hs=>by have:=hS k hs;omega)⟩
theorem Mod.at {o:Obj} (h:Mod S w w') {k:Nat} (hk:w.heap[k]?=some o) (hs:¬ S k):w'.heap[k]?=some o:=by
 rw [h.block k (Array.getElem?_eq_some_iff.1 hk).1 hs];exact hk
theorem Mod.cell (h:Mod S w w') {a:Addr} {v:Value} (hc:w.cell? a=some v) (hs:¬ S a.block):w'.cell? a=some v:=by
 rw [World.cell?_of_block (h.block a.block (World.block_lt_of_cell? w a hc) hs)];exact hc
theorem zat {o:Obj} {k:Nat} (hk:w.heap[k]?=some o):k < w.heap.size:=(Array.getElem?_eq_some_iff.1 hk).1
theorem zaA (w:World) (o:Obj) (k:Nat):(w.alloc o).heap[k]?=if k=w.heap.size then some o else w.heap[k]?:=by
 show (w.heap.push o)[k]?=_
 rw [Array.getElem?_push]
end Cdk
namespace Cdk
open Go Go.RowKit
theorem sA {α:Type _} (l:List α) (i:Nat) (a:α):l.toArray.setIfInBounds i a=(l.set i a).toArray:=List.setIfInBounds_toArray l i a
theorem sZ {α:Type _} {x:α} {xs:List α} {a:α}:(x::xs).set 0 a=a::xs:=rfl
theorem sS {α:Type _} {x:α} {xs:List α} {i:Nat} {a:α}:(x::xs).set (i+1) a=x::xs.set i a:=rfl
abbrev zA9:Array Value:=#[.int .i64 0,.int .i64 0,.int .i64 0,.int .i64 0,.int .i64 0,.string ⟨#[]⟩,.int .i64 0,.int .i64 0,.string ⟨#[]⟩,.string ⟨#[]⟩,.slice none 0 0,.slice none 0 0,.int .i64 0,.slice none 0 0,.int .i64 0,.int .i64 0,.int .i64 0,.int .i64 0,.int .i64 0,.string ⟨#[]⟩,.string ⟨#[]⟩,.int .i64 0,.int .i64 0,.int .i64 0,.int .i64 0,.int .i64 0,.string ⟨#[]⟩,.slice none 0 0,.slice none 0 0,.int .i64 0,.int .i64 0,.int .i64 0,.int .i64 0,.int .i64 0,.int .i64 0,.string ⟨#[]⟩]
abbrev zF9:Array Value:=#[.int .i64 0,.int .i64 0,.int .i64 0,.int .i64 0,.string ⟨#[]⟩,.int .i64 0,.int .i64 0,.string ⟨#[]⟩,.string ⟨#[]⟩,.slice none 0 0,.slice none 0 0,.int .i64 0,.slice none 0 0,.int .i64 0,.int .i64 0,.int .i64 0,.int .i64 0,.int .i64 0,.string ⟨#[]⟩,.string ⟨#[]⟩,.int .i64 0,.int .i64 0,.int .i64 0]
set_option linter.unusedSectionVars false
theorem zlX (a b:ByteArray):(a==b)=decide (a=b):=by
 cases a with | mk a=>cases b with | mk b=>
 show (a==b)=_
 simp only [ByteArray.mk.injEq]
 by_cases h:a=b
 ·subst h;simp
 ·have:(a==b)=false:=by simp [h]
  rw [this];simp [h]
instance:LawfulBEq ByteArray where
 eq_of_beq:=fun {a b} h=>by rw [zlX] at h;simpa using h
 rfl:=fun {a}=>by rw [zlX];simp
section
variable {K:Type} [DecidableEq K]
structure KeyOk (P:Program) (kt:TypeId) (mk:K -> Value):Prop where
 inj:∀ a b,mk a=mk b -> a=b
 und:∃ desc,P.underlying kt=some desc/\(∀ a b,Instr.sameNow desc (mk a) (mk b)=some (decide (a=b))) ∧
  (∀ (e:Bool) (n:Nat) (a:K) (w:World),(Instr.checkKey e (n+1) kt (mk a)).run P w=.ok () w)
 bits:∀ a,Instr.sameBits 10000 (mk a) (mk a)=true
theorem zc4 {P:Program} {kt:TypeId} {k:IntKind} (h:P.underlying kt=some (.int k)):KeyOk P kt (Value.int k) where
 inj:=fun a b e=>by injection e
 und:=⟨.int k,h,fun a b=>by
  simp only [Instr.sameNow,if_true]
  congr 1,fun e n a w=>by simp [Instr.checkKey,run_underlying h]⟩
 bits:=fun a=>by simp [Instr.sameBits]
def zbG (mk:K -> Value) (es:Array MapEntry) (clock:Nat) (d:List (K × Value)):Prop:=
 es.toList.map (fun e=>(e.key,e.val))=d.map (fun p=>(mk p.1,p.2))/\(d.map (·.1)).Nodup/\(es.toList.map (·.born)).Nodup/\∀ e ∈ es.toList,e.born < clock
def MapAt (w:World) (mk:K -> Value) (m:Nat) (d:List (K × Value)):Prop:=
 ∃ es clock,w.heap[m]?=some (.map es clock)/\zbG mk es clock d
def zcv (d:List (K × Value)) (k:K):Option Value:=(d.find? (fun p=>decide (p.1=k))).map (·.2)
def upd (d:List (K × Value)) (k:K) (v:Value):List (K × Value):=
 if (zcv d k).isSome then d.map (fun p=>if p.1=k then (p.1,v) else p) else d++[(k,v)]
variable {P:Program} {kt:TypeId} {mk:K -> Value} {w w':World} {m:Nat} {d:List (K × Value)}
theorem MapAt.mod {S:Nat -> Prop} (h:MapAt w mk m d) (hm:Mod S w w') (hs:¬ S m):MapAt w' mk m d:=by
 obtain ⟨es,c,hh,he⟩:=h;exact ⟨es,c,hm.at hh hs,he⟩
theorem MapAt.lt (h:MapAt w mk m d):m < w.heap.size:=by
 obtain ⟨es,c,hh,he⟩:=h;exact zat hh
theorem MapAt.made (w:World) (mk:K -> Value):MapAt (w.alloc (.map #[] 0)) mk w.heap.size ([]:List (K × Value)):=
 ⟨#[],0,heap_alloc_new w _,by simp,by simp,by simp,by simp⟩
theorem zdO {desc:TypeDesc} (hsame:∀ a b,Instr.sameNow desc (mk a) (mk b)=some (decide (a=b))) (k:K):
  ∀ (es:List MapEntry) (d:List (K × Value)) (i:Nat),es.map (fun e=>(e.key,e.val))=d.map (fun p=>(mk p.1,p.2)) →
   Instr.findNow desc (mk k) es i=some ((d.findIdx? (fun p=>decide (p.1=k))).map (fun j=>(i+j,((d[j]?).map (·.2)).getD undef)))
 | [],[],_,_=>by simp [Instr.findNow]
 | [],_::_,_,h=>by simp at h
 | _::_,[],_,h=>by simp at h
 | e::es,p::d,i,h=>by
  simp only [List.map_cons,List.cons.injEq,Prod.mk.injEq] at h;obtain ⟨⟨hk,hv⟩,ht⟩:=h;simp only [Instr.findNow,hk,hsame]
  by_cases hkp:k=p.1
  ·simp [hkp,List.findIdx?_cons,hv]
  ·have hpk:¬ p.1=k:=fun e=>hkp e.symm
   simp only [hkp,decide_false];rw [zdO hsame k es d (i+1) ht];simp only [List.findIdx?_cons,hpk,decide_false];cases hfi:d.findIdx? (fun p=>decide (p.1=k)) with
   | none=>simp
   | some j=>simp;omega
theorem zci (d:List (K × Value)) (k:K):
  zcv d k=(d.findIdx? (fun p=>decide (p.1=k))).map (fun j=>((d[j]?).map (·.2)).getD undef):=by
 induction d with
 | nil=>simp [zcv]
 | cons p d ih=>
  by_cases h:p.1=k
  ·simp [zcv,List.findIdx?_cons,h]
  ·simp only [zcv,List.find?_cons,h,decide_false,List.findIdx?_cons]
   simp only [zcv] at ih;rw [ih];cases hfi:d.findIdx? (fun p=>decide (p.1=k)) with
   | none=>simp
   | some j=>simp
theorem zep (ok:KeyOk P kt mk) (k:K) (es:Array MapEntry) (clock:Nat) (he:zbG mk es clock d) (w:World):
  (Instr.findKey kt (mk k) es.toList).run P w=.ok ((d.findIdx? (fun p=>decide (p.1=k))).map (fun j=>(j,((d[j]?).map (·.2)).getD undef))) w:=by
 obtain ⟨desc,hu,hs,_⟩:=ok.und;simp [Instr.findKey,run_underlying hu,zdO hs k es.toList d 0 he.1]
theorem run_checkKey (ok:KeyOk P kt mk) (e:Bool) (k:K) (w:World):(Instr.checkKey e 10000 kt (mk k)).run P w=.ok () w:=by
 obtain ⟨desc,hu,hs,hc⟩:=ok.und;exact hc e 9999 k w
theorem run_getObj_map {es:Array MapEntry} {clock:Nat} (h:w.heap[m]?=some (.map es clock)):(getObj m).run P w=.ok (.map es clock) w:=by
 simp [getObj,Sem.run,h]
theorem run_setObj_map {es es':Array MapEntry} {clock clock':Nat} (h:w.heap[m]?=some (.map es clock)):
  (setObj m (.map es' clock')).run P w=.ok () { w with heap:=w.heap.setIfInBounds m (.map es' clock') }:=by
 simp [setObj,Sem.run,h]
theorem Mod.setBlock {S:Nat -> Prop} (hs:m < w.heap.size -> S m) (o:Obj):Mod S w { w with heap:=w.heap.setIfInBounds m o }:=
 ⟨rfl,rfl,rfl,by simp,fun k hk hn=>by
  have:m ≠ k:=fun e=>hn (e ▸ hs (e ▸ hk))
  simp [this]⟩
theorem zev {t e:TypeId} (ok:KeyOk P kt mk) (ht:P.underlying t=some (.map kt e)) (h:MapAt w mk m d) (k:K) {z:Value} (hz:(zeroValue e).run P w=.ok z w) (c:Bool):
  (Instr.lookup t (.map (some m)) (mk k) c).run P w=.ok (if c then .tuple #[(zcv d k).getD z,.bool (zcv d k).isSome] else (zcv d k).getD z) w:=by
 obtain ⟨es,clock,hh,he⟩:=h;rw [zci];simp only [Instr.lookup,Sem.run_bind,run_underlying ht,Result.andThen_ok,run_getObj_map hh,Sem.run_pure,run_checkKey ok,zep ok k es clock he];cases hfi:d.findIdx? (fun p=>decide (p.1=k)) with
 | none=>cases c <;> simp [hz]
 | some j=>cases c <;> simp
theorem zhx (d:List (K × Value)) (k:K) (v:Value):(upd d k v).map (·.1)=if (zcv d k).isSome then d.map (·.1) else d.map (·.1)++[k]:=by
 unfold upd;split
 ·rw [List.map_map]
  apply List.map_congr_left;intro p _;simp only [Function.comp];split <;> rfl
 ·simp
theorem zeR (d:List (K × Value)) (k:K):zcv d k=none ↔ k ∉ d.map (·.1):=by
 simp only [zcv,Option.map_eq_none_iff,List.find?_eq_none,decide_eq_true_eq,List.mem_map,not_exists,not_and]
theorem zc8:∀ (d:List (K × Value)) (k:K) (v:Value) (j:Nat),(d.map (·.1)).Nodup -> d.findIdx? (fun p=>decide (p.1=k))=some j →
  d.map (fun p=>if p.1=k then (p.1,v) else p)=d.modify j (fun p=>(p.1,v))
 | [],_,_,_,_,h=>by simp at h
 | p::d,k,v,j,hn,h=>by
  simp only [List.findIdx?_cons] at h;simp only [List.map_cons,List.nodup_cons] at hn
  by_cases hp:p.1=k
  ·simp only [hp,decide_true,if_true,Option.some.injEq] at h
   subst h;simp only [List.map_cons,hp,if_true,List.modify_zero_cons];congr 1;conv=>rhs;rw [<- List.map_id d]
   apply List.map_congr_left;intro q hq;have:q.1 ≠ k:=fun e=>hn.1 (by rw [hp,<- e];exact List.mem_map_of_mem hq)
   simp [this]
  ·simp only [hp,decide_false,Bool.false_eq_true,if_false] at h
   cases hf:d.findIdx? (fun p=>decide (p.1=k)) with
   | none=>rw [hf] at h;simp at h
   | some i=>
    rw [hf] at h;simp at h;subst h;simp only [List.map_cons,hp,if_false,List.modify_succ_cons];rw [zc8 d k v i hn.2 hf]
theorem zbG.upd {es:Array MapEntry} {clock:Nat} (he:zbG mk es clock d) (k:K) (v:Value):
  match d.findIdx? (fun p=>decide (p.1=k)) with
  | some j=>zbG mk (es.modify j (fun e=>{ e with key:=mk k,val:=v })) clock (upd d k v)
  | none=>zbG mk (es.push { key:=mk k,val:=v,born:=clock }) (clock+1) (upd d k v):=by
 obtain ⟨h1,h2,h3,h4⟩:=he;cases hf:d.findIdx? (fun p=>decide (p.1=k)) with
 | none=>
  have ha:zcv d k=none:=by rw [zci,hf];rfl
  have hu:Cdk.upd d k v=d++[(k,v)]:=by simp [Cdk.upd,ha]
  simp only [hu];refine ⟨by simp [h1],?_,?_,?_⟩
  ·rw [List.map_append,List.nodup_append]
   refine ⟨h2,by simp,?_⟩;intro a ha' b hb;simp at hb;subst hb;intro e;subst e;exact (zeR d _).1 ha ha'
  ·simp only [Array.toList_push,List.map_append,List.map_cons,List.map_nil]
   rw [List.nodup_append];refine ⟨h3,by simp,?_⟩;intro a ha' b hb;simp at hb;subst hb;obtain ⟨e,he,rfl⟩:=List.mem_map.1 ha';exact Nat.ne_of_lt (h4 e he)
  ·intro e he
   simp only [Array.toList_push,List.mem_append,List.mem_singleton] at he;rcases he with he | rfl
   ·exact Nat.lt_succ_of_lt (h4 e he)
   ·exact Nat.lt_succ_self _
 | some j=>
  have ha:(zcv d k).isSome=true:=by rw [zci,hf];rfl
  have hu:Cdk.upd d k v=d.modify j (fun p=>(p.1,v)):=by
   simp only [Cdk.upd,ha,if_true];exact zc8 d k v j h2 hf
  have hkey:∀ p,d[j]?=some p -> p.1=k:=by
   intro p hp;have:=List.findIdx?_eq_some_iff_getElem.1 hf;obtain ⟨hlt,hpj,_⟩:=this;rw [List.getElem?_eq_getElem hlt] at hp;simp at hp hpj;rw [<- hp];exact hpj
  refine ⟨?_,?_,?_,?_⟩
  ·rw [hu,Array.toList_modify]
   apply List.ext_getElem?;intro i;have h1i:=congrArg (fun l=>l[i]?) h1;simp only [List.getElem?_map] at h1i;simp only [List.getElem?_map,List.getElem?_modify]
   by_cases hij:j=i
   ·subst hij
    cases he:es.toList[j]? with
    | none=>
     rw [he] at h1i;cases hd:d[j]? with
     | none=>simp
     | some p=>rw [hd] at h1i;simp at h1i
    | some e=>
     rw [he] at h1i;cases hd:d[j]? with
     | none=>rw [hd] at h1i;simp at h1i
     | some p=>simp [hkey p hd]
   ·simp only [hij,if_false]
    simpa using h1i
  ·rw [zhx,if_pos ha];exact h2
  ·have:(es.modify j (fun e=>{ e with key:=mk k,val:=v })).toList.map (·.born)=es.toList.map (·.born):=by
    rw [Array.toList_modify];apply List.ext_getElem?;intro i;simp only [List.getElem?_map,List.getElem?_modify]
    by_cases hij:j=i
    ·subst hij;cases es.toList[j]? <;> simp
    ·simp [hij]
   rw [this];exact h3
  ·intro e he
   rw [Array.toList_modify] at he;obtain ⟨i,hi,rfl⟩:=List.mem_iff_getElem.1 he;simp only [List.getElem_modify];have hi':i < es.toList.length:=by simpa using hi
   have h4':=h4 _ (List.getElem_mem hi');split
   ·exact h4'
   ·exact h4'
theorem zg3 {t e:TypeId} (ok:KeyOk P kt mk) (ht:P.underlying t=some (.map kt e)) (h:MapAt w mk m d) (k:K) (v:Value):
  ∃ w',(Instr.mapUpdate t (.map (some m)) (mk k) v).run P w=.ok () w'/\MapAt w' mk m (upd d k v)/\Mod (Eq m) w w'/\w'.heap.size=w.heap.size:=by
 obtain ⟨es,clock,hh,he⟩:=h;have hlt:=zat hh;have hupd:=he.upd k v;simp only [Instr.mapUpdate,Sem.run_bind,run_underlying ht,Result.andThen_ok,run_getObj_map hh,run_checkKey ok,zep ok k es clock he];cases hf:d.findIdx? (fun p=>decide (p.1=k)) with
 | none=>
  rw [hf] at hupd;simp only [Option.map_none];rw [run_setObj_map hh];exact ⟨_,rfl,⟨_,_,by simp [hlt],hupd⟩,Mod.setBlock (fun _=>rfl) _,by simp⟩
 | some j=>
  rw [hf] at hupd;simp only [Option.map_some];have hold:((es[j]?).map (·.key)).getD (mk k)=mk k:=by
   have h1j:=congrArg (fun l=>l[j]?) he.1;simp only [List.getElem?_map,Array.getElem?_toList] at h1j;obtain ⟨hlt',hpj,_⟩:=List.findIdx?_eq_some_iff_getElem.1 hf;rw [List.getElem?_eq_getElem hlt'] at h1j;simp at hpj;cases hes:es[j]? with
   | none=>rfl
   | some x=>rw [hes] at h1j;simp at h1j;simp [h1j.1,hpj]
  have hstay:(Instr.keyThatStays (((es[j]?).map (·.key)).getD (mk k)) (mk k)).run P w=.ok (mk k) w:=by
   rw [hold];simp [Instr.keyThatStays,ok.bits]
  simp only [Sem.run_bind,hstay,Result.andThen_ok];rw [run_setObj_map hh];exact ⟨_,rfl,⟨_,_,by simp [hlt],hupd⟩,Mod.setBlock (fun _=>rfl) _,by simp⟩
end
end Cdk
