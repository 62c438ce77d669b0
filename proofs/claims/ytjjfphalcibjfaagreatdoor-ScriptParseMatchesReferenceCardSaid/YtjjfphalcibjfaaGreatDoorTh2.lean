import Derived.Lib.AtoiAll
import Derived.Lib.ItoaNum
import Derived.Lib.AtoiAllCases
namespace Scr
abbrev Bs:=List UInt8
structure Lb where
 til:Int
 aft:List Int
 app:Int
 den:Int
deriving DecidableEq
structure Bk where
 id:Int
 kd:Int
 tx:Bs
 st:Int
 rf:Int
 lb:Lb
deriving DecidableEq
structure Fc where
 n:Int
 tm:Int
 kd:Int
 st:Int
 lg:Bs
 rv:Int
 bs:Int
 ti:Bs
 au:Bs
 tp:List Bs
 bl:List Bk
 lb:Lb
 ed:Int
 bk:Int
 se:Int
 tx:Bs
 nm:Bs
 pa:Int
 cl:Int
 un:Int
deriving DecidableEq
structure Ms where
 kd:Int
 pa:Int
 sq:Int
 st:Int
 ba:Int
 ve:Int
 da:Bs
deriving DecidableEq
structure Ac where
 kd:Int
 fc:Fc
 n:Int
 cl:Int
 tx:Bs
 fa:List Int
 ke:List Int
 ms:Ms
deriving DecidableEq
def Lb.zero:Lb:=⟨0,[],0,0⟩
def Fc.zero:Fc:=⟨0,0,0,0,[],0,0,[],[],[],[],Lb.zero,0,0,0,[],[],0,0,0⟩
def Ms.zero:Ms:=⟨0,0,0,0,0,0,[]⟩
def Ac.zero:Ac:=⟨0,Fc.zero,0,0,[],[],[],Ms.zero⟩
def rng (n a b:Int):Bool:=decide (a<=n) && decide (n<=b)
def asc:Int -> List Int -> Bool
 | _,[]=>true
 | p,x::r=>rng x (p+1) 64 && asc x r
def vLb (l:Lb):Bool:=rng l.til 0 1000000000 && (rng l.app 0 5 && (rng l.den 0 15 && asc 0 l.aft))
def zdK (c:UInt8):Bool:=decide (32<=c.toNat) && decide (c.toNat<=126)
def zd8 (c:UInt8):Bool:=(decide (97<=c.toNat) && decide (c.toNat<=122)) || (decide (48<=c.toNat) && decide (c.toNat<=57)) || decide (c.toNat=45)
def zhk (c:UInt8):Bool:=decide (c.toNat=10) || zdK c
def zcF (s:Bs):Bool:=decide (s.length<=300) && s.all zdK
def zbT (s:Bs):Bool:=decide (1<=s.length) && (decide (s.length<=20) && s.all zd8)
def zdL (s:Bs):Bool:=decide (1<=s.length) && zcF s
def zj6 (s:Bs):Bool:=decide (s.length<=1000) && s.all zhk
def vBk (b:Bk):Bool:=
 rng b.id 1 1000 && (vLb b.lb &&
  (if b.kd=1 \/ b.kd=2 \/ b.kd=4 then zdL b.tx && (decide (b.st=0) && decide (b.rf=0))
   else if b.kd=3 then zcF b.tx && (rng b.st 1 64 && rng b.rf 1 1000)
   else if b.kd=5 then zbT b.tx && (decide (b.st=0) && decide (b.rf=0))
   else false))
def zeR:List Bk -> List Bk -> Bool
 | _,[]=>true
 | pre,b::r=>vBk b && (pre.all (fun x=>!decide (x.id=b.id)) && zeR (pre++[b]) r)
def zec (l:List Bk):Bool:=decide (l.length<=24) && zeR [] l
def ltS:Bs -> Bs -> Bool
 | _,[]=>false
 | [],_::_=>true
 | x::a,y::b=>decide (x.toNat < y.toNat) || (decide (x.toNat=y.toNat) && ltS a b)
def zn3:Bs -> List Bs -> Bool
 | _,[]=>true
 | p,t::r=>zbT t && (ltS p t && zn3 t r)
def vTp (l:List Bs):Bool:=decide (l.length<=4) && (match l with | []=>true | t::r=>zbT t && zn3 t r)
def zaO (f:Fc):Fc × Bool:=
 let u:Fc:={ Fc.zero with n:=f.n,tm:=f.tm,kd:=f.kd,st:=f.st }
 let story:=rng f.st 1 64
 let partner:=rng f.pa 1 8 && rng f.un 0 1000000000
 if f.kd=1 then
  ({ u with lg:=f.lg,rv:=f.rv,bs:=f.bs,ti:=f.ti,au:=f.au,tp:=f.tp,bl:=f.bl,lb:=f.lb },
   story && (zbT f.lg && (rng f.rv 1 100 && (rng f.bs 0 (f.rv - 1) && (zdL f.ti && (zbT f.au && (vTp f.tp && (zec f.bl && vLb f.lb))))))))
 else if f.kd=2 then ({ u with ed:=f.ed },story && rng f.ed 1 5)
 else if f.kd=3 then ({ u with lb:=f.lb },story && vLb f.lb)
 else if f.kd=4 then ({ u with lg:=f.lg,bk:=f.bk,se:=f.se,tx:=f.tx },story && (zbT f.lg && (rng f.bk 1 1000 && (rng f.se 0 299 && zdL f.tx))))
 else if f.kd=5 then ({ u with tx:=f.tx },story && zdL f.tx)
 else if f.kd=6 \/ f.kd=10 then (u,story)
 else if f.kd=7 then ({ u with st:=0,nm:=f.nm,tx:=f.tx },zbT f.nm && zj6 f.tx)
 else if f.kd=8 then ({ u with st:=0,pa:=f.pa,cl:=f.cl,un:=f.un },partner && rng f.cl 0 3)
 else if f.kd=9 then ({ u with st:=0,pa:=f.pa,un:=f.un },partner)
 else (u,false)
def vFc (f:Fc):Bool:=rng f.n 0 500 && (rng f.tm 0 1000000000 && ((zaO f).2 && decide (f=(zaO f).1)))
def zcd (n:Int):Bool:=rng n 0 4294967295
def vMs (m:Ms):Bool:=
 rng m.pa 1 8 && (rng m.sq 1 4611686018427387903 && (rng m.st 1 64 && (zcd m.ba && (zcd m.ve &&
  (if m.kd=1 then decide (m.da.length<=16384)
   else if m.kd=2 then decide (m.ba=0) && (decide (m.ve=0) && m.da.isEmpty)
   else if m.kd=3 then decide (m.ba=0) && m.da.isEmpty
   else if m.kd=4 then decide (m.ve=0) && m.da.isEmpty
   else false)))))
def zg5 (l:List Int) (most:Nat) (top:Int):Bool:=decide (l.length<=most) && l.all (fun n=>rng n 0 top)
def zf7 (s:Bs) (least most first:Nat):Bool:=decide (least<=s.length) && (decide (s.length<=most) && s.all (fun c=>decide (first<=c.toNat) && decide (c.toNat<=126)))
def zfE (a:Ac):Ac:=
 let b:Ac:={ Ac.zero with kd:=a.kd }
 if a.kd=1 then { b with fc:=a.fc }
 else if a.kd=2 \/ a.kd=3 \/ a.kd=10 then { b with n:=a.n }
 else if a.kd=4 then { b with fa:=a.fa }
 else if a.kd=5 then { b with n:=a.n,ke:=a.ke }
 else if a.kd=6 then { b with cl:=a.cl,tx:=a.tx }
 else if a.kd=7 then { b with cl:=a.cl,n:=a.n,tx:=a.tx }
 else if a.kd=8 then { b with ms:=a.ms }
 else b
def zaS (a:Ac):Bool:=
 if a.kd=1 then decide (a.fc.n=0) && (decide (a.fc.tm=0) && (!decide (a.fc.kd=10) && vFc a.fc))
 else if a.kd=2 then rng a.n 1 500
 else if a.kd=3 then rng a.n 0 1000000000
 else if a.kd=4 then zg5 a.fa 64 24
 else if a.kd=5 then rng a.n (-1) 4194304 && zg5 a.ke 64 1000
 else if a.kd=6 then rng a.cl 0 3 && zf7 a.tx 1 100 33
 else if a.kd=7 then rng a.cl 0 3 && (rng a.n 0 64 && zf7 a.tx 0 300 32)
 else if a.kd=8 then vMs a.ms
 else if a.kd=9 then true
 else if a.kd=10 then rng a.n 0 10000
 else false
def vAc (a:Ac):Bool:=zaS a && decide (a=zfE a)
def dig (n:Nat):UInt8:=UInt8.ofNat (48+n)
def zcT:Nat -> Nat -> Bs
 | 0,_=>[]
 | f+1,n=>if n < 10 then [dig n] else zcT f (n / 10)++[dig (n % 10)]
def itoa (n:Int):Bs:=if n < 0 then 45::zcT 20 n.natAbs else zcT 20 n.toNat
def join (c:UInt8):List Bs -> Bs
 | []=>[]
 | [x]=>x
 | x::y::r=>x++c::join c (y::r)
def listW (l:List Bs):Bs:=if l.isEmpty then [42] else join 44 l
def labelW (l:Lb):Bs:=
 if l.til=0/\l.aft=[]/\l.app=0/\l.den=0 then [42]
 else join 47 [itoa l.til,listW (l.aft.map itoa),itoa l.app,itoa l.den]
def hexD (n:Nat):UInt8:=if n < 10 then UInt8.ofNat (48+n) else UInt8.ofNat (87+n)
def hexW (s:Bs):Bs:=if s.isEmpty then [42] else s.flatMap fun c=>[hexD (c.toNat / 16),hexD (c.toNat % 16)]
def zdJ:Nat -> Nat -> Bs
 | 0,_=>[]
 | f+1,z=>if z < 128 then [UInt8.ofNat z] else UInt8.ofNat (z % 128+128)::zdJ f (z / 128)
def zz (n:Int):Nat:=if n < 0 then 2*n.natAbs - 1 else 2*n.toNat
def zbc (n:Int):Bs:=if n < -4611686018427387903 \/ 4611686018427387903 < n then [] else zdJ 10 (zz n)
def zeQ (s:Bs):Bs:=if 65536 < s.length then [] else zbc s.length++s
def zcr:Nat -> Nat -> Nat -> Bs -> Option (Int × Bs)
 | 0,_,_,_=>none
 | _+1,_,_,[]=>none
 | f+1,i,acc,b::r=>
  if 128<=b.toNat then zcr f (i+1) (acc+b.toNat % 128*2 ^ (7*i)) r
  else
   let z:=acc+b.toNat*2 ^ (7*i)
   let n:Int:=if z % 2=1 then -((z / 2:Nat):Int) - 1 else ((z / 2:Nat):Int)
   if (b.toNat=0/\0 < i) \/ n < -4611686018427387903 then none else some (n,r)
def zdt (s:Bs):Option (Int × Bs):=zcr 9 0 0 s
def zhj (s:Bs):Option (Bs × Bs):=
 match zdt s with
 | none=>none
 | some (n,r)=>if n < 0 \/ 65536 < n \/ (r.length:Int) < n then none else some (r.take n.toNat,r.drop n.toNat)
def zek:List UInt32:=[0x00000000,0x105ec76f,0x20bd8ede,0x30e349b1,0x417b1dbc,0x5125dad3,0x61c69362,0x7198540d,0x82f63b78,0x92a8fc17,0xa24bb5a6,0xb21572c9,0xc38d26c4,0xd3d3e1ab,0xe330a81a,0xf36e6f75]
def nib (r:UInt32):UInt32:=(r >>> 4) ^^^ (zek.getD (r.toNat % 16) 0)
def zlH:UInt32 -> Bs -> UInt32
 | r,[]=>r
 | r,c::s=>zlH (nib (nib (r ^^^ c.toUInt32))) s
def crc (s:Bs):Int:=((zlH 0xFFFFFFFF s) ^^^ 0xFFFFFFFF).toNat
def zaB (l:List Int):Bs:=l.flatMap zbc
def zgR (b:Bk):Bs:=zaB [b.id,b.kd]++(zeQ b.tx++(zaB [b.st,b.rf,b.lb.til,b.lb.aft.length]++(zaB b.lb.aft++zaB [b.lb.app,b.lb.den])))
def zcl (l:List Bk):Bs:=if zec l then zbc l.length++l.flatMap zgR else []
abbrev Rb (α:Type):=Bs -> Except Int (α × Bs)
def rbI:Rb Int:=fun s=>match zdt s with | none=>.error 10 | some x=>.ok x
def rbS:Rb Bs:=fun s=>match zhj s with | none=>.error 10 | some x=>.ok x
def rbN {α:Type} (el:Rb α):Nat -> Rb (List α)
 | 0,s=>.ok ([],s)
 | k+1,s=>match el s with
  | .error e=>.error e
  | .ok (x,s)=>match rbN el k s with
   | .error e=>.error e
   | .ok (l,s)=>.ok (x::l,s)
def rbL {α:Type} (most:Int) (el:Rb α):Rb (List α):=fun s=>match rbI s with
 | .error e=>.error e
 | .ok (c,s)=>if c < 0 \/ most < c then .error 30 else rbN el c.toNat s
def rbB:Rb Bk:=fun s=>do
 let (id,s) <- rbI s
 let (kd,s) <- rbI s
 let (tx,s) <- rbS s
 let (st,s) <- rbI s
 let (rf,s) <- rbI s
 let (til,s) <- rbI s
 let (aft,s) <- rbL 64 rbI s
 let (app,s) <- rbI s
 let (den,s) <- rbI s
 .ok (⟨id,kd,tx,st,rf,⟨til,aft,app,den⟩⟩,s)
def zdm (s:Bs):Except Int (List Bk):=match rbL 24 rbB s with
 | .error e=>.error e
 | .ok (l,r)=>if !r.isEmpty then .error 10 else if zec l then .ok l else .error 30
def zbW (m:Ms):Bs:=zaB [m.kd,m.pa,m.sq,m.st,m.ba,m.ve]++zeQ m.da
def zf1 (m:Ms):Bs:=if vMs m then zbc (crc (zbW m))++zbW m else []
def zkl (s:Bs):Except Int Ms:=do
 let (sum,s) <- rbI s
 if sum ≠ crc s then .error 200
 let (a,s) <- rbI s
 let (b,s) <- rbI s
 let (c,s) <- rbI s
 let (d,s) <- rbI s
 let (e,s) <- rbI s
 let (f,s) <- rbI s
 let (da,s) <- rbS s
 if !s.isEmpty then .error 10
 let m:Ms:=⟨a,b,c,d,e,f,da⟩
 if vMs m then .ok m else .error 200
structure Fm where
 kd:Int
 fk:Int
 wd:Bs
def fRevise:Bs:=[114,101,118,105,115,101]
def fApprove:Bs:=[97,112,112,114,111,118,101]
def fPublish:Bs:=[112,117,98,108,105,115,104]
def fCorrect:Bs:=[99,111,114,114,101,99,116]
def fRetract:Bs:=[114,101,116,114,97,99,116]
def fTakedown:Bs:=[116,97,107,101,100,111,119,110]
def fTemplate:Bs:=[116,101,109,112,108,97,116,101]
def fPartner:Bs:=[112,97,114,116,110,101,114]
def fLease:Bs:=[108,101,97,115,101]
def fTick:Bs:=[116,105,99,107]
def fClock:Bs:=[99,108,111,99,107]
def fCut:Bs:=[99,117,116]
def fFates:Bs:=[102,97,116,101,115]
def fCrash:Bs:=[99,114,97,115,104]
def fCheck:Bs:=[99,104,101,99,107]
def fGet:Bs:=[103,101,116]
def fSearch:Bs:=[115,101,97,114,99,104]
def fForge:Bs:=[102,111,114,103,101]
def forms:List Fm:=
 [⟨1,1,fRevise⟩,⟨1,2,fApprove⟩,⟨1,3,fPublish⟩,⟨1,4,fCorrect⟩,⟨1,5,fRetract⟩,⟨1,6,fTakedown⟩,
  ⟨1,7,fTemplate⟩,⟨1,8,fPartner⟩,⟨1,9,fLease⟩,
  ⟨2,0,fTick⟩,⟨3,0,fClock⟩,⟨10,0,fCut⟩,⟨4,0,fFates⟩,⟨5,0,fCrash⟩,⟨9,0,fCheck⟩,
  ⟨6,0,fGet⟩,⟨7,0,fSearch⟩,⟨8,0,fForge⟩]
def zal:Nat -> Ac -> List Bs
 | 0,a=>[itoa a.fc.st,a.fc.lg,itoa a.fc.rv,itoa a.fc.bs,a.fc.au,listW a.fc.tp,labelW a.fc.lb,hexW (zcl a.fc.bl),a.fc.ti]
 | 1,a=>[itoa a.fc.st,itoa a.fc.ed]
 | 2,a=>[itoa a.fc.st,labelW a.fc.lb]
 | 3,a=>[itoa a.fc.st,a.fc.lg,itoa a.fc.bk,itoa a.fc.se,a.fc.tx]
 | 4,a=>[itoa a.fc.st,a.fc.tx]
 | 5,a=>[itoa a.fc.st]
 | 6,a=>[a.fc.nm,hexW a.fc.tx]
 | 7,a=>[itoa a.fc.pa,itoa a.fc.cl,itoa a.fc.un]
 | 8,a=>[itoa a.fc.pa,itoa a.fc.un]
 | 9,a=>[itoa a.n]
 | 10,a=>[itoa a.n]
 | 11,a=>[itoa a.n]
 | 12,a=>[listW (a.fa.map itoa)]
 | 13,a=>[itoa a.n,listW (a.ke.map itoa)]
 | 14,_=>[]
 | 15,a=>[itoa a.cl,a.tx]
 | 16,a=>[itoa a.cl,itoa a.n,a.tx]
 | 17,a=>[hexW (zf1 a.ms)]
 | _,_=>[]
def zcW (kd fk:Int):Nat -> List Fm -> Option (Nat × Fm)
 | _,[]=>none
 | j,f::r=>if f.kd=kd/\f.fk=fk then some (j,f) else zcW kd fk (j+1) r
def line (a:Ac):Bs:=match zcW a.kd a.fc.kd 0 forms with
 | none=>[]
 | some (j,f)=>join 32 (f.wd::zal j a)
structure Rd where
 rest:Bs
 more:Bool
 bad:Bool
deriving DecidableEq
def zby (c:UInt8):Bs -> Bs × Bs × Bool
 | []=>([],[],false)
 | x::r=>if x=c then ([],r,true) else (x::(zby c r).1,(zby c r).2)
def parts (c:UInt8):Bs -> List Bs
 | []=>[[]]
 | x::r=>if x=c then []::parts c r else match parts c r with
  | []=>[[x]]
  | p::q=>(x::p)::q
abbrev Rr (α:Type):=Rd -> α × Rd
def zaL:Rr Bs:=fun r=>if r.more then ((zby 32 r.rest).1,⟨(zby 32 r.rest).2.1,(zby 32 r.rest).2.2,r.bad⟩) else ([],{ r with bad:=true })
def zcu:Rr Bs:=fun r=>if r.more then (r.rest,{ r with more:=false }) else ([],{ r with bad:=true })
def zbn (s:Bs):Rr Int:=fun r=>match Go.Lib.atoiAll s with | .ok v=>(v,r) | _=>(0,{ r with bad:=true })
def zbB:Rr Int:=fun r=>zbn (zaL r).1 (zaL r).2
def zbh:List Bs -> Rr (List Int)
 | [],r=>([],r)
 | s::l,r=>((zbn s r).1::(zbh l (zbn s r).2).1,(zbh l (zbn s r).2).2)
def numsOf (w:Bs):Rr (List Int):=fun r=>if w=[42] then ([],r) else zbh (parts 44 w) r
def zfM:Rr (List Int):=fun r=>numsOf (zaL r).1 (zaL r).2
def textsOf (w:Bs):List Bs:=if w=[42] then [] else parts 44 w
def labelOf (w:Bs):Rr Lb:=fun r=>
 if w=[42] then (Lb.zero,r) else match parts 47 w with
 | [a,b,c,d]=>
  let x:=zbn a r
  let y:=numsOf b x.2
  let z:=zbn c y.2
  let t:=zbn d z.2
  (⟨x.1,y.1,z.1,t.1⟩,t.2)
 | _=>(Lb.zero,{ r with bad:=true })
def zbK:Rr Lb:=fun r=>labelOf (zaL r).1 (zaL r).2
def hexV (c:UInt8):Option Nat:=if 48<=c.toNat/\c.toNat<=57 then some (c.toNat - 48) else if 97<=c.toNat/\c.toNat<=102 then some (c.toNat - 87) else none
def unhex:Bs -> Option Bs
 | []=>some []
 | [_]=>none
 | a::b::r=>match hexV a,hexV b with
  | some x,some y=>(unhex r).map (fun l=>UInt8.ofNat (16*x+y)::l)
  | _,_=>none
def hexOf (w:Bs):Rr Bs:=fun r=>if w=[42] then ([],r) else match unhex w with | some s=>(s,r) | none=>([],{ r with bad:=true })
def zfp:Rr Bs:=fun r=>hexOf (zaL r).1 (zaL r).2
def bad (r:Rd):Rd:={ r with bad:=true }
def zbD (f:Fc):Ac:={ Ac.zero with fc:=f }
def za8:Nat -> Rr Ac
 | 0,r=>
  let st:=zbB r
  let lg:=zaL st.2
  let rv:=zbB lg.2
  let bs:=zbB rv.2
  let au:=zaL bs.2
  let tp:=zaL au.2
  let lb:=zbK tp.2
  let hx:=zfp lb.2
  let bl:List Bk × Rd:=match zdm hx.1 with | .ok l=>(l,hx.2) | .error _=>([],Scr.bad hx.2)
  let ti:=zcu bl.2
  (zbD { Fc.zero with st:=st.1,lg:=lg.1,rv:=rv.1,bs:=bs.1,au:=au.1,tp:=textsOf tp.1,lb:=lb.1,bl:=bl.1,ti:=ti.1 },ti.2)
 | 1,r=>let st:=zbB r;let ed:=zbB st.2;(zbD { Fc.zero with st:=st.1,ed:=ed.1 },ed.2)
 | 2,r=>let st:=zbB r;let lb:=zbK st.2;(zbD { Fc.zero with st:=st.1,lb:=lb.1 },lb.2)
 | 3,r=>
  let st:=zbB r
  let lg:=zaL st.2
  let bk:=zbB lg.2
  let se:=zbB bk.2
  let tx:=zcu se.2
  (zbD { Fc.zero with st:=st.1,lg:=lg.1,bk:=bk.1,se:=se.1,tx:=tx.1 },tx.2)
 | 4,r=>let st:=zbB r;let tx:=zcu st.2;(zbD { Fc.zero with st:=st.1,tx:=tx.1 },tx.2)
 | 5,r=>let st:=zbB r;(zbD { Fc.zero with st:=st.1 },st.2)
 | 6,r=>let nm:=zaL r;let tx:=zfp nm.2;(zbD { Fc.zero with nm:=nm.1,tx:=tx.1 },tx.2)
 | 7,r=>let pa:=zbB r;let cl:=zbB pa.2;let un:=zbB cl.2;(zbD { Fc.zero with pa:=pa.1,cl:=cl.1,un:=un.1 },un.2)
 | 8,r=>let pa:=zbB r;let un:=zbB pa.2;(zbD { Fc.zero with pa:=pa.1,un:=un.1 },un.2)
 | 9,r=>let n:=zbB r;({ Ac.zero with n:=n.1 },n.2)
 | 10,r=>let n:=zbB r;({ Ac.zero with n:=n.1 },n.2)
 | 11,r=>let n:=zbB r;({ Ac.zero with n:=n.1 },n.2)
 | 12,r=>let l:=zfM r;({ Ac.zero with fa:=l.1 },l.2)
 | 13,r=>let n:=zbB r;let l:=zfM n.2;({ Ac.zero with n:=n.1,ke:=l.1 },l.2)
 | 14,r=>(Ac.zero,r)
 | 15,r=>let cl:=zbB r;let tx:=zaL cl.2;({ Ac.zero with cl:=cl.1,tx:=tx.1 },tx.2)
 | 16,r=>let cl:=zbB r;let n:=zbB cl.2;let tx:=zcu n.2;({ Ac.zero with cl:=cl.1,n:=n.1,tx:=tx.1 },tx.2)
 | 17,r=>
  let hx:=zfp r
  match zkl hx.1 with
  | .ok m=>({ Ac.zero with ms:=m },hx.2)
  | .error _=>(Ac.zero,Scr.bad hx.2)
 | _,r=>(Ac.zero,r)
def zbt (w:Bs):Nat -> List Fm -> Option (Nat × Fm)
 | _,[]=>none
 | j,f::r=>if f.wd=w then some (j,f) else zbt w (j+1) r
def zbd (t:Bs):Option Ac:=
 let w:=zaL ⟨t,true,false⟩
 match zbt w.1 0 forms with
 | none=>none
 | some (j,f)=>
  let x:=za8 j w.2
  let a:Ac:={ x.1 with kd:=f.kd,fc:={ x.1.fc with kd:=f.fk } }
  if x.2.bad || (x.2.more || (!vAc a || !decide (line a=t))) then none else some a
def skip (t:Bs):Bool:=match t with | []=>true | c::_=>decide (c.toNat=35)
def lnF (a:Ac):Bs:=line a++[10]
def print (l:List Ac):Option Bs:=
 if decide (l.length<=100) && (l.all vAc && decide ((l.flatMap lnF).length<=65536)) then some (l.flatMap lnF) else none
def zbe:Nat -> List Ac -> List Bs -> Except Nat (List Ac)
 | _,acc,[]=>.ok acc
 | k,acc,t::r=>
  if skip t then zbe (k+1) acc r
  else if acc.length=100 then .error k
  else match zbd t with
   | none=>.error k
   | some a=>zbe (k+1) (acc++[a]) r
def parse (s:Bs):Except Nat (List Ac):=if 65536 < s.length then .error 0 else zbe 1 [] (parts 10 s)
theorem ze2:∀ (f n:Nat),n < 10 ^ f -> 0 < f -> zcT f n=Go.Lib.decDigits n
 | 0,n,_,h=>by omega
 | f+1,n,h,_=>by
  rw [Go.Lib.decDigits]
  by_cases h10:n < 10
  ·rw [dif_pos h10];simp only [zcT,if_pos h10];rfl
  ·rw [dif_neg h10]
   have hf:0 < f:=by
    cases f with
    | zero=>simp at h;omega
    | succ f=>omega
   simp only [zcT,if_neg h10];rw [ze2 f (n / 10) (by rw [Nat.pow_succ] at h;omega) hf];rfl
theorem zn4 {n:Int} (h1:-9223372036854775808<=n) (h2:n<=9223372036854775807):itoa n=Go.Lib.itoa n:=by
 unfold itoa Go.Lib.itoa
 by_cases h:n < 0
 ·rw [if_pos h,if_pos h,ze2 20 _ (by simp only [Nat.reducePow];omega) (by decide)]
 ·rw [if_neg h,if_neg h,ze2 20 _ (by simp only [Nat.reducePow];omega) (by decide)]
theorem zdA {n:Nat} (h:n < 10):(dig n).toNat=48+n:=by
 unfold dig;rw [UInt8.toNat_ofNat'];simp only [Nat.reducePow];omega
def zmf (c:UInt8):Prop:=48<=c.toNat/\c.toNat<=57
theorem zeo:∀ (f n:Nat),∀ c ∈ zcT f n,zmf c
 | 0,n,c,h=>by simp [zcT] at h
 | f+1,n,c,h=>by
  simp only [zcT] at h;split at h
  ·simp only [List.mem_singleton] at h
   subst h;rename_i h10;unfold zmf;rw [zdA h10];omega
  ·rw [List.mem_append] at h
   rcases h with h | h
   ·exact zeo f _ c h
   ·simp only [List.mem_singleton] at h
    subst h;unfold zmf;rw [zdA (by omega)];omega
theorem zgG:∀ (f n:Nat),0 < f -> zcT f n ≠ []
 | 0,n,h=>by omega
 | f+1,n,_=>by
  simp only [zcT];split
  ·simp
  ·simp
theorem zh0:∀ (l:Bs) (m acc:Nat),(∀ c ∈ l,zmf c) -> m < 10 -> Go.Lib.parseUint10 acc (l++[dig m])=(match Go.Lib.parseUint10 acc l with | .ok v=>Go.Lib.parseUint10 v [dig m] | e=>e)
 | [],m,acc,_,hm=>by simp [Go.Lib.parseUint10]
 | c::l,m,acc,h,hm=>by
  have hc:=h c (by simp);unfold zmf at hc;simp only [List.cons_append,Go.Lib.parseUint10,if_pos hc];split
  ·rfl
  ·split
   ·rfl
   ·exact zh0 l m _ (fun c hc=>h c (by simp [hc])) hm
theorem ze8:∀ (f n:Nat),n < 10 ^ f -> 0 < f -> n < 18446744073709551616 -> Go.Lib.parseUint10 0 (zcT f n)=.ok n
 | 0,n,_,h,_=>by omega
 | f+1,n,h,_,hb=>by
  by_cases h10:n < 10
  ·simp only [zcT,if_pos h10,Go.Lib.parseUint10]
   have:=zdA h10;rw [if_pos (by omega),if_neg (by omega),if_neg (by omega)];congr 1;omega
  ·have hf:0 < f:=by
    cases f with
    | zero=>simp at h;omega
    | succ f=>omega
   simp only [zcT,if_neg h10];rw [zh0 _ _ _ (zeo f _) (by omega),ze8 f (n / 10) (by rw [Nat.pow_succ] at h;omega) hf (by omega)];have:=zdA (n:=n % 10) (by omega);simp only [Go.Lib.parseUint10];rw [if_pos (by omega),if_neg (by omega),if_neg (by omega)];congr 1;omega
theorem zkY {n:Int} (h1:-9223372036854775808<=n) (h2:n<=9223372036854775807):Go.Lib.atoiAll (itoa n)=.ok n:=by
 unfold itoa
 by_cases h:n < 0
 ·rw [if_pos h,Go.Lib.atoiAll_minus]
  unfold Go.Lib.parseMag;rw [if_neg (zgG 20 _ (by decide)),ze8 20 _ (by simp only [Nat.reducePow];omega) (by decide) (by omega)];unfold Go.Lib.signed;simp only;rw [if_neg (by omega)];congr 1;omega
 ·rw [if_neg h]
  have hne:=zgG 20 n.toNat (by decide);have hd:=zeo 20 n.toNat;have hp:=ze8 20 n.toNat (by simp only [Nat.reducePow];omega) (by decide) (by omega);cases hl:zcT 20 n.toNat with
  | nil=>exact absurd hl hne
  | cons c r=>
   rw [hl] at hd hp;have hc:=hd c (by simp);unfold zmf at hc;rw [Go.Lib.atoiAll_plain c r (by omega) (by omega)];unfold Go.Lib.parseMag;rw [if_neg (by simp),hp];unfold Go.Lib.signless;simp only;rw [if_neg (by omega)];congr 1;omega
def zpf (c:UInt8):Prop:=zmf c \/ c.toNat=45
theorem zjG (n:Int):∀ c ∈ itoa n,zpf c:=by
 intro c h;unfold itoa at h;split at h
 ·rcases List.mem_cons.1 h with rfl | h
  ·exact .inr rfl
  ·exact .inl (zeo _ _ c h)
 ·exact .inl (zeo _ _ c h)
theorem zlv (n:Int):itoa n ≠ []:=by
 unfold itoa;split
 ·simp
 ·exact zgG 20 _ (by decide)
theorem zdM:∀ (f n:Nat),(zcT f n).length<=f
 | 0,n=>by simp [zcT]
 | f+1,n=>by
  simp only [zcT];split
  ·simp
  ·have:=zdM f (n / 10)
   simp;omega
theorem zaR (n:Int):(itoa n).length<=21:=by
 unfold itoa;split
 ·have:=zdM 20 n.natAbs;simp;omega
 ·have:=zdM 20 n.toNat;omega
theorem znE {c:UInt8} (h:zpf c) {k:UInt8} (hk:k.toNat < 45 \/ 57 < k.toNat \/ k.toNat=46 \/ k.toNat=47):c ≠ k:=by
 rintro rfl;unfold zpf zmf at h;omega
theorem za3 (n:Int) {k:UInt8} (hk:k.toNat < 45 \/ 57 < k.toNat \/ k.toNat=46 \/ k.toNat=47):k ∉ itoa n:=fun h=>znE (zjG n k h) hk rfl
theorem zdl {c:UInt8}:∀ {a:Bs} (b:Bs),c ∉ a -> zby c (a++c::b)=(a,b,true)
 | [],b,_=>by simp [zby]
 | x::a,b,h=>by
  have hx:x ≠ c:=fun e=>h (by simp [e])
  simp only [List.cons_append,zby,if_neg hx];rw [zdl b (fun hc=>h (by simp [hc]))]
theorem zen {c:UInt8}:∀ {a:Bs},c ∉ a -> zby c a=(a,[],false)
 | [],_=>rfl
 | x::a,h=>by
  have hx:x ≠ c:=fun e=>h (by simp [e])
  simp only [zby,if_neg hx];rw [zen (fun hc=>h (by simp [hc]))]
theorem zbU {c:UInt8}:∀ (s:Bs),(zby c s).2.2=true/\s=(zby c s).1++c::(zby c s).2.1/\c ∉ (zby c s).1 \/ (zby c s).2.2=false/\(zby c s).1=s/\(zby c s).2.1=[]/\c ∉ s
 | []=>.inr ⟨rfl,rfl,rfl,by simp⟩
 | x::r=>by
  by_cases hx:x=c
  ·subst hx
   exact .inl ⟨by simp [zby],by simp [zby],by simp [zby]⟩
  ·have hx':c ≠ x:=fun e=>hx e.symm
   simp only [zby,if_neg hx];rcases zbU (c:=c) r with ⟨h1,h2,h3⟩ | ⟨h1,h2,h3,h4⟩
   ·exact .inl ⟨h1,by rw [List.cons_append,<- h2],by simp [hx',h3]⟩
   ·exact .inr ⟨h1,by rw [h2],h3,by simp [hx',h4]⟩
theorem zjK (c:UInt8):∀ s:Bs,parts c s ≠ []
 | []=>by simp [parts]
 | x::r=>by
  simp only [parts];split
  ·simp
  ·split <;> simp
theorem zd7 {c:UInt8}:∀ {a:Bs},c ∉ a -> parts c a=[a]
 | [],_=>rfl
 | x::a,h=>by
  have hx:x ≠ c:=fun e=>h (by simp [e])
  simp only [parts,if_neg hx];rw [zd7 (fun hc=>h (by simp [hc]))]
theorem zdW {c:UInt8}:∀ {a:Bs} (b:Bs),c ∉ a -> parts c (a++c::b)=a::parts c b
 | [],b,_=>by simp [parts]
 | x::a,b,h=>by
  have hx:x ≠ c:=fun e=>h (by simp [e])
  simp only [List.cons_append,parts,if_neg hx];rw [zdW b (fun hc=>h (by simp [hc]))]
theorem zdg {c:UInt8}:∀ {l:List Bs},l ≠ [] -> (∀ x ∈ l,c ∉ x) -> parts c (join c l)=l
 | [],h,_=>absurd rfl h
 | [x],_,h=>by simp only [join];exact zd7 (h x (by simp))
 | x::y::r,_,h=>by
  simp only [join];rw [zdW _ (h x (by simp)),zdg (by simp) (fun z hz=>h z (by simp [hz]))]
theorem zcw (c:UInt8):∀ s:Bs,(parts c s).length<=s.length+1
 | []=>by simp [parts]
 | x::r=>by
  have ih:=zcw c r;simp only [parts];split
  ·simp;omega
  ·cases hp:parts c r with
   | nil=>exact absurd hp (zjK c r)
   | cons p q=>rw [hp] at ih;simp at ih ⊢;omega
theorem zgT {c k:UInt8}:∀ {l:List Bs},k ≠ c -> (∀ x ∈ l,k ∉ x) -> k ∉ join c l
 | [],_,_=>by simp [join]
 | [x],_,h=>by simp only [join];exact h x (by simp)
 | x::y::r,hk,h=>by
  simp only [join,List.mem_append,List.mem_cons];rintro (h1 | h1 | h1)
  ·exact h x (by simp) h1
  ·exact hk h1
  ·exact zgT hk (fun z hz=>h z (by simp [hz])) h1
theorem zgV {n:Nat} (h:n < 16):(hexD n).toNat=if n < 10 then 48+n else 87+n:=by
 unfold hexD;split
 ·rw [UInt8.toNat_ofNat'];simp only [Nat.reducePow];omega
 ·rw [UInt8.toNat_ofNat'];simp only [Nat.reducePow];omega
theorem zfi {n:Nat} (h:n < 16):hexV (hexD n)=some n:=by
 unfold hexV;rw [zgV h]
 by_cases h10:n < 10
 ·rw [if_pos h10,if_pos (by omega)];congr 1;omega
 ·rw [if_neg h10,if_neg (by omega),if_pos (by omega)];congr 1;omega
def zk6 (s:Bs):Bs:=s.flatMap fun c=>[hexD (c.toNat / 16),hexD (c.toNat % 16)]
theorem zf2:∀ s:Bs,unhex (zk6 s)=some s
 | []=>rfl
 | c::s=>by
  have hc:=c.toNat_lt;simp only [zk6,List.flatMap_cons,List.cons_append,List.nil_append];rw [unhex,zfi (by omega),zfi (by omega)];simp only;rw [show (s.flatMap fun c=>[hexD (c.toNat / 16),hexD (c.toNat % 16)])=zk6 s from rfl,zf2 s];simp only [Option.map_some];rw [show 16*(c.toNat / 16)+c.toNat % 16=c.toNat by omega];simp
theorem zd5 {s:Bs} (h:s ≠ []):hexW s=zk6 s/\hexW s ≠ [42]:=by
 have hi:s.isEmpty=false:=by cases s <;> simp_all
 unfold hexW;rw [hi];refine ⟨rfl,?_⟩;simp only [Bool.false_eq_true,if_false];intro e;have:=congrArg List.length e;cases s with
 | nil=>exact h rfl
 | cons c s=>simp at this
theorem zgp (s:Bs) (r:Rd):hexOf (hexW s) r=(s,r):=by
 by_cases h:s=[]
 ·subst h;rfl
 ·obtain ⟨h1,h2⟩:=zd5 h
  unfold hexOf;rw [if_neg h2,h1,zf2]
def zpg (c:UInt8):Prop:=(48<=c.toNat/\c.toNat<=57) \/ (97<=c.toNat/\c.toNat<=102)
theorem zjL (s:Bs):∀ c ∈ zk6 s,zpg c:=by
 intro c h;simp only [zk6,List.mem_flatMap] at h;obtain ⟨d,-,h⟩:=h;have hd:=d.toNat_lt;simp only [List.mem_cons,List.not_mem_nil,or_false] at h;unfold zpg;rcases h with rfl | rfl
 ·rw [zgV (by omega)];split <;> omega
 ·rw [zgV (by omega)];split <;> omega
theorem zmQ (s:Bs):(zk6 s).length=2*s.length:=by
 induction s with
 | nil=>rfl
 | cons c s ih=>simp only [zk6,List.flatMap_cons,List.length_append,List.length_cons,List.length_nil] at ih ⊢;omega
theorem zmF (s:Bs):(hexW s).length<=2*s.length+1:=by
 unfold hexW;split
 ·simp
 ·have:=zmQ s
  unfold zk6 at this;omega
theorem zgY (s:Bs) {k:UInt8} (hk:k.toNat < 42 \/ (42 < k.toNat/\k.toNat < 48)):k ∉ hexW s:=by
 by_cases h:s=[]
 ·subst h
  show k ∉ [42]
  simp only [List.mem_singleton];rintro rfl;simp at hk
 ·rw [(zd5 h).1]
  intro hm;have:=zjL s k hm;unfold zpg at this;omega
def zo4 (z:Nat):Int:=if z % 2=1 then -((z / 2:Nat):Int) - 1 else ((z / 2:Nat):Int)
theorem zic:∀ (f g i acc z:Nat) (r:Bs),z < 128 ^ f -> z < 128 ^ g -> 0 < f -> 0 < g -> (i=0 \/ 0 < z) →
  zcr g i acc (zdJ f z++r)=if zo4 (acc+z*2 ^ (7*i)) < -4611686018427387903 then none else some (zo4 (acc+z*2 ^ (7*i)),r)
 | 0,_,_,_,_,_,_,_,h,_,_=>by omega
 | _+1,0,_,_,_,_,_,_,_,h,_=>by omega
 | f+1,g+1,i,acc,z,r,h1,h2,_,_,h5=>by
  by_cases hz:z < 128
  ·have hb:(UInt8.ofNat z).toNat=z:=by rw [UInt8.toNat_ofNat'];simp only [Nat.reducePow];omega
   simp only [zdJ,if_pos hz,List.cons_append,List.nil_append,zcr,hb];rw [if_neg (by omega)];have hc:¬ (z=0/\0 < i):=by omega
   unfold zo4
   by_cases hv:(if (acc+z*2 ^ (7*i)) % 2=1 then -(((acc+z*2 ^ (7*i)) / 2:Nat):Int) - 1 else (((acc+z*2 ^ (7*i)) / 2:Nat):Int)) < -4611686018427387903
   ·rw [if_pos hv,if_pos (.inr hv)]
   ·rw [if_neg hv,if_neg (by rintro (h | h);exact hc h;exact hv h)]
  ·have hb:(UInt8.ofNat (z % 128+128)).toNat=z % 128+128:=by rw [UInt8.toNat_ofNat'];simp only [Nat.reducePow];omega
   simp only [zdJ,if_neg hz,List.cons_append,zcr,hb];rw [if_pos (by omega)];have hf:0 < f:=by
    cases f with
    | zero=>simp at h1;omega
    | succ f=>omega
   have hg:0 < g:=by
    cases g with
    | zero=>simp at h2;omega
    | succ g=>omega
   rw [Nat.pow_succ] at h1 h2;rw [zic f g (i+1) _ (z / 128) r (by omega) (by omega) hf hg (.inr (by omega))];have e:acc+(z % 128+128) % 128*2 ^ (7*i)+z / 128*2 ^ (7*(i+1))=acc+z*2 ^ (7*i):=by
    have h7:2 ^ (7*(i+1))=128*2 ^ (7*i):=by rw [Nat.mul_add,Nat.pow_add,Nat.mul_one,Nat.mul_comm]
    rw [h7,<- Nat.mul_assoc,Nat.add_assoc,<- Nat.add_mul];congr 2;omega
   rw [e]
theorem zho {n:Int} (h1:-4611686018427387903<=n) (h2:n<=4611686018427387903) (r:Bs):zdt (zbc n++r)=some (n,r):=by
 unfold zbc zdt;rw [if_neg (by omega)];have hz:zz n < 9223372036854775808:=by unfold zz;split <;> omega
 rw [zic 10 9 0 0 (zz n) r (by simp only [Nat.reducePow];omega) (by simp only [Nat.reducePow];omega) (by decide) (by decide) (.inl rfl)];have hv:zo4 (0+zz n*2 ^ (7*0))=n:=by
  simp only [Nat.mul_zero,Nat.pow_zero,Nat.mul_one,Nat.zero_add];unfold zo4 zz
  by_cases h:n < 0
  ·rw [if_pos h,if_pos (by omega)];omega
  ·rw [if_neg h,if_neg (by omega)];omega
 rw [hv,if_neg (by omega)]
theorem zlK {s:Bs} (h:s.length<=65536) (r:Bs):zhj (zeQ s++r)=some (s,r):=by
 unfold zeQ zhj;rw [if_neg (by omega),List.append_assoc,zho (by omega) (by omega)];simp only;rw [if_neg (by rw [List.length_append];omega)];simp
theorem za7 {n:Int} (h1:-4611686018427387903<=n) (h2:n<=4611686018427387903) (r:Bs):rbI (zbc n++r)=.ok (n,r):=by
 unfold rbI;rw [zho h1 h2]
theorem zjM {s:Bs} (h:s.length<=65536) (r:Bs):rbS (zeQ s++r)=.ok (s,r):=by
 unfold rbS;rw [zlK h]
theorem zam {n a b:Int}:rng n a b=true ↔ a<=n/\n<=b:=by unfold rng;simp
theorem zjE {α:Type} {el:Rb α} {put:α -> Bs}:∀ (l:List α) (r:Bs),(∀ x ∈ l,∀ r,el (put x++r)=.ok (x,r)) -> rbN el l.length (l.flatMap put++r)=.ok (l,r)
 | [],r,_=>rfl
 | x::l,r,h=>by
  simp only [List.length_cons,List.flatMap_cons,List.append_assoc,rbN];rw [h x (by simp)];simp only;rw [zjE l r (fun y hy=>h y (by simp [hy]))]
theorem zjN {α:Type} {el:Rb α} {put:α -> Bs} {most:Int} (l:List α) (r:Bs) (hm:(l.length:Int)<=most) (hb:most<=1000000) (h:∀ x ∈ l,∀ r,el (put x++r)=.ok (x,r)):
  rbL most el (zbc l.length++(l.flatMap put++r))=.ok (l,r):=by
 unfold rbL;rw [za7 (by omega) (by omega)];simp only;rw [if_neg (by omega),Int.toNat_natCast,zjE l r h]
theorem zg0:∀ {l:List Int} {p:Int},asc p l=true -> ∀ x ∈ l,p < x/\x<=64
 | [],_,_,x,h=>by simp at h
 | y::l,p,h,x,hx=>by
  simp only [asc,Bool.and_eq_true,zam] at h;rcases List.mem_cons.1 hx with rfl | hx
  ·omega
  ·have:=zg0 h.2 x hx;omega
theorem zhf:∀ {l:List Int} {p:Int},asc p l=true -> p<=64 -> (l.length:Int)<=64 - p
 | [],_,_,h=>by simp;omega
 | y::l,p,h,h6=>by
  simp only [asc,Bool.and_eq_true,zam] at h;have:=zhf h.2 (by omega);simp only [List.length_cons];omega
structure GoodLb (l:Lb):Prop where
 til:0<=l.til/\l.til<=1000000000
 app:0<=l.app/\l.app<=5
 den:0<=l.den/\l.den<=15
 len:l.aft.length<=64
 aft:∀ x ∈ l.aft,0 < x/\x<=64
theorem zcI {l:Lb} (h:vLb l=true):GoodLb l:=by
 unfold vLb at h;simp only [Bool.and_eq_true,zam] at h;exact ⟨h.1,h.2.1,h.2.2.1,by have:=zhf h.2.2.2 (by decide);omega,zg0 h.2.2.2⟩
structure GoodBk (b:Bk):Prop where
 id:1<=b.id/\b.id<=1000
 kd:1<=b.kd/\b.kd<=5
 tx:b.tx.length<=300
 st:0<=b.st/\b.st<=64
 rf:0<=b.rf/\b.rf<=1000
 lb:GoodLb b.lb
theorem zmp {b:Bk} (h:vBk b=true):GoodBk b:=by
 unfold vBk at h;simp only [Bool.and_eq_true,zam] at h;obtain ⟨h1,h2,h3⟩:=h;split at h3
 ·rename_i hk
  simp only [zdL,zcF,Bool.and_eq_true,decide_eq_true_eq] at h3;exact ⟨h1,by omega,h3.1.2.1,by omega,by omega,zcI h2⟩
 ·split at h3
  ·rename_i hk
   simp only [zcF,Bool.and_eq_true,decide_eq_true_eq,zam] at h3;exact ⟨h1,by omega,h3.1.1,by omega,by omega,zcI h2⟩
  ·split at h3
   ·rename_i hk
    simp only [zbT,Bool.and_eq_true,decide_eq_true_eq] at h3;exact ⟨h1,by omega,by omega,by omega,by omega,zcI h2⟩
   ·cases h3
theorem zib:∀ {l pre:List Bk},zeR pre l=true -> ∀ b ∈ l,vBk b=true
 | [],_,_,b,h=>by simp at h
 | x::l,pre,h,b,hb=>by
  simp only [zeR,Bool.and_eq_true] at h;rcases List.mem_cons.1 hb with rfl | hb
  ·exact h.1
  ·exact zib h.2.2 b hb
theorem zcp {l:List Bk} (h:zec l=true):l.length<=24/\∀ b ∈ l,GoodBk b:=by
 unfold zec at h;simp only [Bool.and_eq_true,decide_eq_true_eq] at h;exact ⟨h.1,fun b hb=>zmp (zib h.2 b hb)⟩
theorem zmR {b:Bk} (h:GoodBk b) (r:Bs):rbB (zgR b++r)=.ok (b,r):=by
 obtain ⟨h1,h2,h3,h4,h5,h6⟩:=h;obtain ⟨g1,g2,g3,g4,g5⟩:=h6;unfold zgR rbB zaB;simp only [List.flatMap_cons,List.flatMap_nil,List.append_nil,List.append_assoc,bind,Except.bind];rw [za7 (by omega) (by omega)];simp only;rw [za7 (by omega) (by omega)];simp only;rw [zjM (by omega)];simp only;rw [za7 (by omega) (by omega)];simp only;rw [za7 (by omega) (by omega)];simp only;rw [za7 (by omega) (by omega)];simp only;rw [zjN (put:=zbc) b.lb.aft _ (by omega) (by decide) (fun x hx r=>za7 (by have:=g5 x hx;omega) (by have:=g5 x hx;omega) r)];simp only;rw [za7 (by omega) (by omega)];simp only;rw [za7 (by omega) (by omega)]
theorem zfj {l:List Bk} (h:zec l=true):zdm (zcl l)=.ok l:=by
 obtain ⟨h1,h2⟩:=zcp h;unfold zcl zdm;rw [if_pos h];have:=zjN (put:=zgR) (el:=rbB) (most:=24) l [] (by omega) (by decide) (fun x hx r=>zmR (h2 x hx) r);rw [List.append_nil] at this;rw [this];simp [h]
theorem ziT (s:Bs):0<=crc s/\crc s<=4294967295:=by
 unfold crc;have:=((zlH 0xFFFFFFFF s) ^^^ 0xFFFFFFFF).toNat_lt;omega
structure GoodMs (m:Ms):Prop where
 kd:1<=m.kd/\m.kd<=4
 pa:1<=m.pa/\m.pa<=8
 sq:1<=m.sq/\m.sq<=4611686018427387903
 st:1<=m.st/\m.st<=64
 ba:0<=m.ba/\m.ba<=4294967295
 ve:0<=m.ve/\m.ve<=4294967295
 da:m.da.length<=16384
theorem zdh {m:Ms} (h:vMs m=true):GoodMs m:=by
 unfold vMs zcd at h;simp only [Bool.and_eq_true,zam] at h;obtain ⟨h1,h2,h3,h4,h5,h6⟩:=h;have hk:(1<=m.kd/\m.kd<=4)/\m.da.length<=16384:=by
  split at h6
  ·simp only [decide_eq_true_eq] at h6;omega
  ·split at h6
   ·simp only [Bool.and_eq_true,decide_eq_true_eq,List.isEmpty_iff] at h6
    rw [h6.2.2];simp;omega
   ·split at h6
    ·simp only [Bool.and_eq_true,decide_eq_true_eq,List.isEmpty_iff] at h6
     rw [h6.2];simp;omega
    ·split at h6
     ·simp only [Bool.and_eq_true,decide_eq_true_eq,List.isEmpty_iff] at h6
      rw [h6.2];simp;omega
     ·cases h6
 exact ⟨hk.1,h1,h2,h3,h4,h5,hk.2⟩
theorem zh1 {m:Ms} (h:vMs m=true):zkl (zf1 m)=.ok m:=by
 obtain ⟨h1,h2,h3,h4,h5,h6,h7⟩:=zdh h;have hc:=ziT (zbW m);unfold zf1 zkl;rw [if_pos h,za7 (by omega) (by omega)];simp only [bind,Except.bind,ne_eq,not_true_eq_false,if_false];unfold zbW zaB;simp only [List.flatMap_cons,List.flatMap_nil,List.append_nil,List.append_assoc];try simp only [pure,Except.pure]
 rw [za7 (by omega) (by omega)];simp only;rw [za7 (by omega) (by omega)];simp only;rw [za7 (by omega) (by omega)];simp only;rw [za7 (by omega) (by omega)];simp only;rw [za7 (by omega) (by omega)];simp only;rw [za7 (by omega) (by omega)];simp only;have:=zjM (s:=m.da) (by omega) [];rw [List.append_nil] at this;rw [this];simp [h]
end Scr
