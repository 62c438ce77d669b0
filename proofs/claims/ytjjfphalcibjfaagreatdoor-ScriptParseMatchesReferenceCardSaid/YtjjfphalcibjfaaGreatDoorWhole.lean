import Derived.Test.YtjjfphalcibjfaaGreatDoorAppend
import Derived.Test.YtjjfphalcibjfaaGreatDoorC0
import Derived.Test.YtjjfphalcibjfaaGreatDoorShelf
namespace Scr
def I64 (n:Int):Prop:=-9223372036854775808<=n/\n<=9223372036854775807
structure LbOk (l:Lb):Prop where
 til:I64 l.til
 app:I64 l.app
 den:I64 l.den
 aft:∀ x ∈ l.aft,I64 x
 len:l.aft.length<=1000
structure FcOk (f:Fc):Prop where
 st:I64 f.st
 ed:I64 f.ed
 bk:I64 f.bk
 se:I64 f.se
 rv:I64 f.rv
 bs:I64 f.bs
 pa:I64 f.pa
 cl:I64 f.cl
 un:I64 f.un
 lb:LbOk f.lb
 tp:f.tp.length<=1000
 tpj:(join 44 f.tp).length<=1000000
 bl:zec f.bl=true
 lg:f.lg.length<=1000
 ti:f.ti.length<=1000
 au:f.au.length<=1000
 tx:f.tx.length<=1000
 nm:f.nm.length<=1000
structure AcOk (a:Ac):Prop where
 fc:FcOk a.fc
 n:I64 a.n
 cl:I64 a.cl
 tx:a.tx.length<=1000
 fa:∀ x ∈ a.fa,I64 x
 fal:a.fa.length<=1000
 ke:∀ x ∈ a.ke,I64 x
 kel:a.ke.length<=1000
theorem LbOk.zero:LbOk Lb.zero:=⟨⟨by decide,by decide⟩,⟨by decide,by decide⟩,⟨by decide,by decide⟩,(by intro x hx;cases hx),by decide⟩
theorem GoodLb.ok {l:Lb} (h:GoodLb l):LbOk l:=by
 obtain ⟨h1,h2,h3,h4,h5⟩:=h;refine ⟨⟨by omega,by omega⟩,⟨by omega,by omega⟩,⟨by omega,by omega⟩,fun x hx=>?_,by omega⟩;have:=h5 x hx;exact ⟨by omega,by omega⟩
theorem zdd (c:UInt8) (k:Nat):∀ l:List Bs,(∀ x ∈ l,x.length<=k) -> (join c l).length<=l.length*(k+1)
 | [],_=>by simp [join]
 | [x],h=>by have:=h x (by simp);simp only [join,List.length_cons,List.length_nil];omega
 | x::y::r,h=>by
  have h1:=h x (by simp);have h2:=zdd c k (y::r) (fun z hz=>h z (by simp at hz ⊢;right;exact hz));simp only [join,List.length_append,List.length_cons] at h2 ⊢;rw [Nat.add_mul (r.length+1) 1];omega
theorem zoR {l:List Bs} (h:vTp l=true):l.length<=1000/\(join 44 l).length<=1000000:=by
 obtain ⟨h1,h2⟩:=zcm h;have:=zdd 44 20 l (fun x hx=>(zfG (h2 x hx)).2.1);omega
theorem zmo {s:Bs} (h:zbT s=true):s.length<=1000:=by have:=(zfG h).2.1;omega
theorem zob {s:Bs} (h:zdL s=true):s.length<=1000:=by have:=(znj h).2.1;omega
theorem zo6 {f:Fc} (h:vFc f=true):FcOk f:=by
 unfold vFc at h;simp only [Bool.and_eq_true,decide_eq_true_eq,zam] at h;obtain ⟨-,-,h2,e⟩:=h;have z:I64 0:=⟨by decide,by decide⟩;unfold zaO at h2 e;simp only at h2 e;split at h2
 ·rename_i hk
  rw [if_pos hk] at e;simp only [Bool.and_eq_true,zam] at h2 e;obtain ⟨g1,g2,g3,g4,g5,g6,g7,g8,g9⟩:=h2;exact ⟨⟨by omega,by omega⟩,by rw [e];exact z,by rw [e];exact z,by rw [e];exact z,⟨by omega,by omega⟩,⟨by omega,by omega⟩,by rw [e];exact z,by rw [e];exact z,by rw [e];exact z,(zcI g9).ok,(zoR g7).1,(zoR g7).2,g8,zmo g2,zob g5,zmo g6,by rw [e];first | exact Nat.zero_le _ | rfl,by rw [e];first | exact Nat.zero_le _ | rfl⟩
 rename_i hk;rw [if_neg hk] at e;split at h2
 ·rename_i hk2
  rw [if_pos hk2] at e;simp only [Bool.and_eq_true,zam] at h2 e;exact ⟨⟨by omega,by omega⟩,⟨by omega,by omega⟩,by rw [e];exact z,by rw [e];exact z,by rw [e];exact z,by rw [e];exact z,by rw [e];exact z,by rw [e];exact z,by rw [e];exact z,by rw [e];exact LbOk.zero,by rw [e];first | exact Nat.zero_le _ | rfl,by rw [e];first | exact Nat.zero_le _ | rfl,by rw [e];first | exact Nat.zero_le _ | rfl,by rw [e];first | exact Nat.zero_le _ | rfl,by rw [e];first | exact Nat.zero_le _ | rfl,by rw [e];first | exact Nat.zero_le _ | rfl,by rw [e];first | exact Nat.zero_le _ | rfl,by rw [e];first | exact Nat.zero_le _ | rfl⟩
 rename_i hk2;rw [if_neg hk2] at e;split at h2
 ·rename_i hk3
  rw [if_pos hk3] at e;simp only [Bool.and_eq_true,zam] at h2 e;exact ⟨⟨by omega,by omega⟩,by rw [e];exact z,by rw [e];exact z,by rw [e];exact z,by rw [e];exact z,by rw [e];exact z,by rw [e];exact z,by rw [e];exact z,by rw [e];exact z,(zcI h2.2).ok,by rw [e];first | exact Nat.zero_le _ | rfl,by rw [e];first | exact Nat.zero_le _ | rfl,by rw [e];first | exact Nat.zero_le _ | rfl,by rw [e];first | exact Nat.zero_le _ | rfl,by rw [e];first | exact Nat.zero_le _ | rfl,by rw [e];first | exact Nat.zero_le _ | rfl,by rw [e];first | exact Nat.zero_le _ | rfl,by rw [e];first | exact Nat.zero_le _ | rfl⟩
 rename_i hk3;rw [if_neg hk3] at e;split at h2
 ·rename_i hk4
  rw [if_pos hk4] at e;simp only [Bool.and_eq_true,zam] at h2 e;obtain ⟨g1,g2,g3,g4,g5⟩:=h2;exact ⟨⟨by omega,by omega⟩,by rw [e];exact z,⟨by omega,by omega⟩,⟨by omega,by omega⟩,by rw [e];exact z,by rw [e];exact z,by rw [e];exact z,by rw [e];exact z,by rw [e];exact z,by rw [e];exact LbOk.zero,by rw [e];first | exact Nat.zero_le _ | rfl,by rw [e];first | exact Nat.zero_le _ | rfl,by rw [e];first | exact Nat.zero_le _ | rfl,zmo g2,by rw [e];first | exact Nat.zero_le _ | rfl,by rw [e];first | exact Nat.zero_le _ | rfl,zob g5,by rw [e];first | exact Nat.zero_le _ | rfl⟩
 rename_i hk4;rw [if_neg hk4] at e;split at h2
 ·rename_i hk5
  rw [if_pos hk5] at e;simp only [Bool.and_eq_true,zam] at h2 e;exact ⟨⟨by omega,by omega⟩,by rw [e];exact z,by rw [e];exact z,by rw [e];exact z,by rw [e];exact z,by rw [e];exact z,by rw [e];exact z,by rw [e];exact z,by rw [e];exact z,by rw [e];exact LbOk.zero,by rw [e];first | exact Nat.zero_le _ | rfl,by rw [e];first | exact Nat.zero_le _ | rfl,by rw [e];first | exact Nat.zero_le _ | rfl,by rw [e];first | exact Nat.zero_le _ | rfl,by rw [e];first | exact Nat.zero_le _ | rfl,by rw [e];first | exact Nat.zero_le _ | rfl,zob h2.2,by rw [e];first | exact Nat.zero_le _ | rfl⟩
 rename_i hk5;rw [if_neg hk5] at e;split at h2
 ·rename_i hk6
  rw [if_pos hk6] at e;simp only [zam] at h2 e;exact ⟨⟨by omega,by omega⟩,by rw [e];exact z,by rw [e];exact z,by rw [e];exact z,by rw [e];exact z,by rw [e];exact z,by rw [e];exact z,by rw [e];exact z,by rw [e];exact z,by rw [e];exact LbOk.zero,by rw [e];first | exact Nat.zero_le _ | rfl,by rw [e];first | exact Nat.zero_le _ | rfl,by rw [e];first | exact Nat.zero_le _ | rfl,by rw [e];first | exact Nat.zero_le _ | rfl,by rw [e];first | exact Nat.zero_le _ | rfl,by rw [e];first | exact Nat.zero_le _ | rfl,by rw [e];first | exact Nat.zero_le _ | rfl,by rw [e];first | exact Nat.zero_le _ | rfl⟩
 rename_i hk6;rw [if_neg hk6] at e;split at h2
 ·rename_i hk7
  rw [if_pos hk7] at e;simp only [Bool.and_eq_true,zj6,decide_eq_true_eq] at h2 e;exact ⟨by rw [e];exact z,by rw [e];exact z,by rw [e];exact z,by rw [e];exact z,by rw [e];exact z,by rw [e];exact z,by rw [e];exact z,by rw [e];exact z,by rw [e];exact z,by rw [e];exact LbOk.zero,by rw [e];first | exact Nat.zero_le _ | rfl,by rw [e];first | exact Nat.zero_le _ | rfl,by rw [e];first | exact Nat.zero_le _ | rfl,by rw [e];first | exact Nat.zero_le _ | rfl,by rw [e];first | exact Nat.zero_le _ | rfl,by rw [e];first | exact Nat.zero_le _ | rfl,h2.2.1,zmo h2.1⟩
 rename_i hk7;rw [if_neg hk7] at e;split at h2
 ·rename_i hk8
  rw [if_pos hk8] at e;simp only [Bool.and_eq_true,zam] at h2 e;exact ⟨by rw [e];exact z,by rw [e];exact z,by rw [e];exact z,by rw [e];exact z,by rw [e];exact z,by rw [e];exact z,⟨by omega,by omega⟩,⟨by omega,by omega⟩,⟨by omega,by omega⟩,by rw [e];exact LbOk.zero,by rw [e];first | exact Nat.zero_le _ | rfl,by rw [e];first | exact Nat.zero_le _ | rfl,by rw [e];first | exact Nat.zero_le _ | rfl,by rw [e];first | exact Nat.zero_le _ | rfl,by rw [e];first | exact Nat.zero_le _ | rfl,by rw [e];first | exact Nat.zero_le _ | rfl,by rw [e];first | exact Nat.zero_le _ | rfl,by rw [e];first | exact Nat.zero_le _ | rfl⟩
 rename_i hk8;rw [if_neg hk8] at e;split at h2
 ·rename_i hk9
  rw [if_pos hk9] at e;simp only [Bool.and_eq_true,zam] at h2 e;exact ⟨by rw [e];exact z,by rw [e];exact z,by rw [e];exact z,by rw [e];exact z,by rw [e];exact z,by rw [e];exact z,⟨by omega,by omega⟩,by rw [e];exact z,⟨by omega,by omega⟩,by rw [e];exact LbOk.zero,by rw [e];first | exact Nat.zero_le _ | rfl,by rw [e];first | exact Nat.zero_le _ | rfl,by rw [e];first | exact Nat.zero_le _ | rfl,by rw [e];first | exact Nat.zero_le _ | rfl,by rw [e];first | exact Nat.zero_le _ | rfl,by rw [e];first | exact Nat.zero_le _ | rfl,by rw [e];first | exact Nat.zero_le _ | rfl,by rw [e];first | exact Nat.zero_le _ | rfl⟩
 cases h2
theorem FcOk.zero:FcOk Fc.zero:=by
 have z:I64 0:=⟨by decide,by decide⟩;exact ⟨z,z,z,z,z,z,z,z,z,LbOk.zero,by decide,by decide,by decide,by decide,by decide,by decide,by decide,by decide⟩
theorem zoY {l:List Int} {t:Int} (h:zg5 l 64 t=true) (ht:t<=1000):(∀ x ∈ l,I64 x)/\l.length<=1000:=by
 obtain ⟨h1,h2⟩:=zeF h;refine ⟨fun x hx=>?_,by omega⟩;have:=h2 x hx;exact ⟨by omega,by omega⟩
theorem zjk {a:Ac} (h:vAc a=true):AcOk a/\(a.kd=8 -> vMs a.ms=true):=by
 unfold vAc at h;simp only [Bool.and_eq_true,decide_eq_true_eq] at h;obtain ⟨h1,e⟩:=h;have z:I64 0:=⟨by decide,by decide⟩;have nil:∀ x ∈ ([]:List Int),I64 x:=by intro x hx;cases hx
 unfold zaS at h1;unfold zfE at e;simp only at e;split at h1
 ·rename_i hk
  rw [if_pos hk] at e;simp only [Bool.and_eq_true] at h1;exact ⟨⟨zo6 h1.2.2.2,by rw [e];exact z,by rw [e];exact z,by rw [e];first | exact Nat.zero_le _ | rfl,by rw [e];exact nil,by rw [e];first | exact Nat.zero_le _ | rfl,by rw [e];exact nil,by rw [e];first | exact Nat.zero_le _ | rfl⟩,fun h=>by omega⟩
 rename_i hk;rw [if_neg hk] at e;split at h1
 ·rename_i hk2
  rw [if_pos (.inl hk2)] at e;simp only [zam] at h1;exact ⟨⟨by rw [e];exact FcOk.zero,⟨by omega,by omega⟩,by rw [e];exact z,by rw [e];first | exact Nat.zero_le _ | rfl,by rw [e];exact nil,by rw [e];first | exact Nat.zero_le _ | rfl,by rw [e];exact nil,by rw [e];first | exact Nat.zero_le _ | rfl⟩,fun h=>by omega⟩
 rename_i hk2;split at h1
 ·rename_i hk3
  rw [if_pos (.inr (.inl hk3))] at e;simp only [zam] at h1;exact ⟨⟨by rw [e];exact FcOk.zero,⟨by omega,by omega⟩,by rw [e];exact z,by rw [e];first | exact Nat.zero_le _ | rfl,by rw [e];exact nil,by rw [e];first | exact Nat.zero_le _ | rfl,by rw [e];exact nil,by rw [e];first | exact Nat.zero_le _ | rfl⟩,fun h=>by omega⟩
 rename_i hk3;split at h1
 ·rename_i hk4
  rw [if_neg (by omega),if_pos hk4] at e;have:=zoY h1 (by decide);exact ⟨⟨by rw [e];exact FcOk.zero,by rw [e];exact z,by rw [e];exact z,by rw [e];first | exact Nat.zero_le _ | rfl,this.1,this.2,by rw [e];exact nil,by rw [e];first | exact Nat.zero_le _ | rfl⟩,fun h=>by omega⟩
 rename_i hk4;split at h1
 ·rename_i hk5
  rw [if_neg (by omega),if_neg hk4,if_pos hk5] at e;simp only [Bool.and_eq_true,zam] at h1;have:=zoY h1.2 (by decide);exact ⟨⟨by rw [e];exact FcOk.zero,⟨by omega,by omega⟩,by rw [e];exact z,by rw [e];first | exact Nat.zero_le _ | rfl,by rw [e];exact nil,by rw [e];first | exact Nat.zero_le _ | rfl,this.1,this.2⟩,fun h=>by omega⟩
 rename_i hk5;split at h1
 ·rename_i hk6
  rw [if_neg (by omega),if_neg hk4,if_neg hk5,if_pos hk6] at e;simp only [Bool.and_eq_true,zam] at h1;have:=(zjP h1.2).2.1;exact ⟨⟨by rw [e];exact FcOk.zero,by rw [e];exact z,⟨by omega,by omega⟩,by omega,by rw [e];exact nil,by rw [e];first | exact Nat.zero_le _ | rfl,by rw [e];exact nil,by rw [e];first | exact Nat.zero_le _ | rfl⟩,fun h=>by omega⟩
 rename_i hk6;split at h1
 ·rename_i hk7
  rw [if_neg (by omega),if_neg hk4,if_neg hk5,if_neg hk6,if_pos hk7] at e;simp only [Bool.and_eq_true,zam] at h1;have:=(zjP h1.2.2).2.1;exact ⟨⟨by rw [e];exact FcOk.zero,⟨by omega,by omega⟩,⟨by omega,by omega⟩,by omega,by rw [e];exact nil,by rw [e];first | exact Nat.zero_le _ | rfl,by rw [e];exact nil,by rw [e];first | exact Nat.zero_le _ | rfl⟩,fun h=>by omega⟩
 rename_i hk7;split at h1
 ·rename_i hk8
  rw [if_neg (by omega),if_neg hk4,if_neg hk5,if_neg hk6,if_neg hk7,if_pos hk8] at e;exact ⟨⟨by rw [e];exact FcOk.zero,by rw [e];exact z,by rw [e];exact z,by rw [e];first | exact Nat.zero_le _ | rfl,by rw [e];exact nil,by rw [e];first | exact Nat.zero_le _ | rfl,by rw [e];exact nil,by rw [e];first | exact Nat.zero_le _ | rfl⟩,fun _=>h1⟩
 rename_i hk8;split at h1
 ·rename_i hk9
  rw [if_neg (by omega),if_neg hk4,if_neg hk5,if_neg hk6,if_neg hk7,if_neg hk8] at e;exact ⟨⟨by rw [e];exact FcOk.zero,by rw [e];exact z,by rw [e];exact z,by rw [e];first | exact Nat.zero_le _ | rfl,by rw [e];exact nil,by rw [e];first | exact Nat.zero_le _ | rfl,by rw [e];exact nil,by rw [e];first | exact Nat.zero_le _ | rfl⟩,fun h=>by omega⟩
 rename_i hk9;split at h1
 ·rename_i hk10
  rw [if_pos (.inr (.inr hk10))] at e;simp only [zam] at h1;exact ⟨⟨by rw [e];exact FcOk.zero,⟨by omega,by omega⟩,by rw [e];exact z,by rw [e];first | exact Nat.zero_le _ | rfl,by rw [e];exact nil,by rw [e];first | exact Nat.zero_le _ | rfl,by rw [e];exact nil,by rw [e];first | exact Nat.zero_le _ | rfl⟩,fun h=>by omega⟩
 cases h1
end Scr
namespace Go.Proofs.YtjjfphalcibjfaaGreatDoor
open Go.RowKit Cdk Scr
def zjg:List Int:=zek.map fun x=>(x.toNat:Int)
structure Gl (w:World):Prop where
 tab : Lib.TabIs Tryz.prog w "internal/strconv.uint64pow10" .u64 Lib.pow10Tab
 sh : Lib.TabIs Tryz.prog w "copydesk/wire.shifts" .u32 zjg
 mx:∃ m:Int,w.cell? ⟨2,0,none⟩=some (.int .i64 m)
 es : ∃ (tp : TypeId) (p : Value), w.var? Tryz.prog "strconv.ErrSyntax" = some #[.iface tp p]
 er : ∃ (tp : TypeId) (p : Value), w.var? Tryz.prog "strconv.ErrRange" = some #[.iface tp p]
 et:w.cell? ⟨1,0,none⟩=some (.iface 221 (.agg #[.pointer (some ⟨10,67,none⟩)]))
 size:10<=w.heap.size
theorem zlu : Tryz.prog.globalNamed "internal/strconv.uint64pow10" = some 3 := by kernel_rfl
theorem zeP : Tryz.prog.globalNamed "copydesk/wire.shifts" = some 0 := by kernel_rfl
theorem zlf : Tryz.prog.globalNamed "strconv.ErrSyntax" = some 4 := by kernel_rfl
theorem ziF : Tryz.prog.globalNamed "strconv.ErrRange" = some 5 := by kernel_rfl
theorem zgC {S:Nat -> Prop} {w w':World} (hm:Mod S w w') (hS:∀ k,S k -> 10<=k) (hz:10<=w.heap.size) {name:String} {g:Nat} (hg:Tryz.prog.globalNamed name=some g) (h10:g < 10):w'.var? Tryz.prog name=w.var? Tryz.prog name:=by
 unfold World.var?;rw [hg];simp only [Option.bind_some];rw [hm.block g (by omega) (fun e=>by have:=hS _ e;omega)]
theorem Gl.mod {S:Nat -> Prop} {w w':World} (h:Gl w) (hm:Mod S w w') (hS:∀ k,S k -> 10<=k):Gl w' where
 tab:=by unfold Lib.TabIs;rw [zgC hm hS h.size zlu (by decide)];exact h.tab
 sh:=by unfold Lib.TabIs;rw [zgC hm hS h.size zeP (by decide)];exact h.sh
 mx:=by obtain ⟨m,hc⟩:=h.mx;exact ⟨m,hm.cell hc (fun e=>by have:=hS _ e;simp only at this;omega)⟩
 es:=by rw [zgC hm hS h.size zlf (by decide)];exact h.es
 er:=by rw [zgC hm hS h.size ziF (by decide)];exact h.er
 et:=hm.cell h.et (fun e=>by have:=hS _ e;simp only at this;omega)
 size:=by have:=hm.size;have:=h.size;omega
theorem Gl.ext {w w':World} (h:Gl w) (hm:Ext w w'):Gl w':=h.mod hm (fun _ h=>h.elim)
theorem zmk (w:World) (k:Nat) (os:Array Obj):Ext w (Go.Sort.grow (w.drewN k) os):=
 ⟨rfl,rfl,rfl,by simp [Go.Sort.grow],fun j hj _=>Go.Sort.heap_grow_old (w.drewN k) os hj⟩
theorem zaw (n:Int) (hn:I64 n) (w:World) (h:Gl w):Calls Tryz.prog 107 #[.int .i64 n] w fun e w'=>e=.returned (.string ⟨(itoa n).toArray⟩)/\Ext w w':=by
 rw [zn4 hn.1 hn.2];refine (Tryz.strconv_Itoa n hn.1 hn.2 w h.tab).mono ?_;rintro e w' ⟨rfl,k,os,rfl⟩;exact ⟨rfl,zmk _ _ _⟩
theorem zg8 (c:UInt8):∀ l:List Bs,Lib.join l [c]=join c l
 | []=>by simp [Lib.join,join]
 | [x]=>by simp [Lib.join,join]
 | x::y::r=>by
  have:=zg8 c (y::r);unfold Lib.join at this ⊢;rw [join,<- this];simp [List.intercalate,List.intersperse]
theorem zci {F:Nat -> Prop} (v:Value) (l:List Bs) (c:UInt8) (w:World) (h:zbC F w v l) (hlen:(join c l).length<=140737488355328):
  Calls Tryz.prog 72 #[v,.string ⟨#[c]⟩] w fun e w'=>e=.returned (.string ⟨(join c l).toArray⟩)/\Ext w w':=by
 cases l with
 | nil=>
  obtain ⟨ao,cap,rfl⟩:=h.slice;refine (Tryz.strings_Join_none ao cap ⟨#[c]⟩ w).mono ?_;rintro e w' ⟨rfl,rfl⟩;exact ⟨rfl,Mod.refl _ _⟩
 | cons x r=>
  have hl:=h.len;obtain ⟨b,off,cap,rfl,-,-⟩:=h.get 1 zaC (by decide) (j:=0) (by simp);obtain ⟨ao,cap',e,hr,-,hcap,-⟩:=h;injection e with e1 e2 e3
  subst e1 e3;have hm:((x::r).map fun s=>(⟨s.toArray⟩:ByteArray)).map (·.data.toList)=x::r:=by rw [List.map_map];simp [Function.comp_def]
  have hJ:=Tryz.strings_Join b off cap ((x::r).map fun s=>⟨s.toArray⟩) ⟨#[c]⟩ w (fun j y hy=>by
   rw [List.getElem?_map] at hy;obtain ⟨s,hs,rfl⟩:=Option.map_eq_some_iff.1 hy
   obtain ⟨b',off',e,hc⟩:=hr j (zb0 s) (by
    have:(x::r).flatMap zdz=(x::r).map zb0:=by rw [List.flatMap_def];induction (x::r) with | nil=>rfl | cons a t ih=>simp [zdz,ih]
    rw [this,List.getElem?_map,hs];rfl)
   injection e with e;injection e with e1 e2 e3
   subst e1 e2
   exact hc) (by
   obtain ⟨b',off',e,hc⟩:=hr 0 (zb0 x) (by simp [zdz]);injection e with e;injection e with e1 e2 e3
   subst e1
   exact World.block_lt_of_cell? _ _ hc) (by simpa using hl) (by simpa using hcap) (by rw [hm,zg8];exact hlen)
  rw [hm,zg8,List.length_map] at hJ;refine hJ.mono ?_;rintro e w' ⟨rfl,hb⟩;exact ⟨rfl,Mod.ofBelow hb⟩
theorem zmY (B b:Nat) (tx:Bs) (w:World) (h:Bld B b tx w):Calls Tryz.prog 46 #[.pointer (some ⟨b,0,none⟩)] w fun e w'=>e=.returned (.int .i64 tx.length)/\w'=w:=by
 have:=Tryz.Builder_Len B b (Lib.byteCells tx) w h;rw [Lib.byteCells_length] at this;exact this
theorem zgL (B b:Nat) (tx:Bs) (w:World) (h:Bld B b tx w):Calls Tryz.prog 47 #[.pointer (some ⟨b,0,none⟩)] w fun e w'=>e=.returned (.string ⟨tx.toArray⟩)/\Mod (fun k=>B<=k) w w':=by
 refine (Tryz.Builder_String_any B b tx w h (by have:=h.lt;omega)).mono ?_;rintro e w' ⟨rfl,hb⟩;exact ⟨rfl,hb.os,hb.tape,hb.output,hb.size,fun k _ hk=>hb.block k (by omega)⟩
end Go.Proofs.YtjjfphalcibjfaaGreatDoor
namespace Cdk
open Go Go.RowKit
theorem zai {w:World} {b:Nat} {cs:Array Value} {t:TypeId} {fr:Nat × Nat} (h:w.heap[b]?=some (.cells cs t fr)) (j:Nat) (v:Value):(w.setCell ⟨b,j,none⟩ v).heap[b]?=some (.cells (cs.setIfInBounds j v) t fr):=by
 simp only [World.setCell,Array.getElem?_modify,if_true];rw [h];simp
theorem za1 {b b':Nat} (w:World) (j:Nat) (v:Value) (h:b' ≠ b):(w.setCell ⟨b',j,none⟩ v).heap[b]?=w.heap[b]?:=Below.heap_setCell w ⟨b',j,none⟩ v b (fun e=>h e.symm)
theorem zi4 (w:World) (c1 c2 c3:Array Value) (t1 t2 t3:TypeId):Ext w (((w.alloc (.cells c1 t1)).alloc (.cells c2 t2)).alloc (.cells c3 t3))/\(((w.alloc (.cells c1 t1)).alloc (.cells c2 t2)).alloc (.cells c3 t3)).heap[w.heap.size]?=some (.cells c1 t1 (0,0)) ∧
  (((w.alloc (.cells c1 t1)).alloc (.cells c2 t2)).alloc (.cells c3 t3)).heap[w.heap.size+1]?=some (.cells c2 t2 (0,0))/\(((w.alloc (.cells c1 t1)).alloc (.cells c2 t2)).alloc (.cells c3 t3)).heap[w.heap.size+1+1]?=some (.cells c3 t3 (0,0)):=by
 refine ⟨((((Mod.refl (fun _=>False) w).alloc _).alloc _).alloc _),?_,?_,?_⟩
 ·rw [zaG,zaG,World.size_alloc,World.size_alloc,if_neg (by omega),if_neg (by omega)];exact heap_alloc_new _ _
 ·rw [zaG,zaG,World.size_alloc,World.size_alloc,if_neg (by omega),if_pos rfl]
 ·rw [zaG,World.size_alloc,World.size_alloc,if_pos rfl]
theorem zbQ {w:World} {b:Nat} {pre cs post:List Value} {t:TypeId} {fr:Nat × Nat} (h:w.heap[b]?=some (.cells (pre++(cs++post)).toArray t fr)):w.rangeAt b pre.length cs:=fun j v hv=>by
 have hj:=(List.getElem?_eq_some_iff.1 hv).1
 have:w.cell? ⟨b,pre.length+j,none⟩=(pre++(cs++post))[pre.length+j]?:=by simp [World.cell?,h]
 rw [this,List.getElem?_append_right (by omega),show pre.length+j - pre.length=j by omega,List.getElem?_append_left hj,hv]
theorem zjs {w:World} {b:Nat} {pre cs post:List Value} {t:TypeId} (h:w.heap[b]?=some (.cells (pre++(cs++post)).toArray t (0,0))):w.there b pre.length cs.length:=fun j hj=>by
 have h1:=zbQ h j cs[j] (List.getElem?_eq_getElem hj)
 refine ⟨by rw [h1];rfl,?_⟩
 unfold World.frozen?;simp [h]
theorem setCells_at {b:Nat} {t:TypeId} {fr:Nat × Nat}:∀ (vs pre cs post:List Value) (w:World),w.heap[b]?=some (.cells (pre++(cs++post)).toArray t fr) -> vs.length=cs.length -> (w.setCells b pre.length vs).heap[b]?=some (.cells (pre++(vs++post)).toArray t fr)
 | [],pre,cs,post,w,h,hl=>by
  have:cs=[]:=List.eq_nil_of_length_eq_zero (by simpa using hl.symm);subst this;exact h
 | v::vs,pre,[],post,w,h,hl=>by simp at hl
 | v::vs,pre,c::cs,post,w,h,hl=>by
  have h1:=zai h pre.length v;have e:(pre++(c::cs++post)).toArray.setIfInBounds pre.length v=((pre++[v])++(cs++post)).toArray:=by simp
  rw [e] at h1;have h2:=setCells_at vs (pre++[v]) cs post _ h1 (by simpa using hl);rw [List.length_append,List.append_assoc] at h2;exact h2
theorem zc1 (b:Nat):∀ (vs:List Value) (w:World) (k:Nat),Mod (Eq b) w (w.setCells b k vs)
 | [],w,_=>Mod.refl _ w
 | v::vs,w,k=>((Mod.refl (Eq b) w).setCell (a:=⟨b,k,none⟩) (fun _=>rfl) v).trans (zc1 b vs _ (k+1))
section
variable {P:Program} {ops:Array Oper} {rest:List Oper} {o:Oper} {a:Act} {w:World} {K:Act -> World -> Prop} {Q:Exit -> Act -> World -> Prop} {C:World -> Prop}
theorem zik (ty:TypeId) (x y:Operand) (ho:o.op=.store ty x y) (b n:Nat) (pre old post vs:List Value) (t:TypeId) (hn:n=pre.length) (hx:a.eval x=.pointer (some ⟨b,n,none⟩)) (hy:a.eval y=.agg vs.toArray)
  (hold:w.heap[b]?=some (.cells (pre++(old++post)).toArray t (0,0))) (hl:vs.length=old.length) (hi:(P.info? ty).map (·.size)=some vs.length) (h1:vs.all (·.oneCell')=true)
  (h:∀ w',Hid (w'.heap[b]?=some (.cells (pre++(vs++post)).toArray t (0,0))/\Mod (Eq b) w w') -> K (a.put o.dst undef) w'):o.wp P a w K Q:=by
 subst hn;refine wp_store_mid ty x y ho b pre.length vs.toArray hx hy (by have:=zjs hold;simpa [hl] using this) (by simpa using hi) (all_oneCell_toArray (fun v hv=>List.all_eq_true.1 h1 v hv)) ?_;exact h _ ⟨setCells_at vs pre old post w hold hl,zc1 b vs w _⟩
theorem zbH (hg:o.guard=none) (ty:TypeId) (x y:Operand) (ho:o.op=.store ty x y) (b n:Nat) (pre old post vs:List Value) (t:TypeId) (hn:n=pre.length) (hx:a.eval x=.pointer (some ⟨b,n,none⟩)) (hy:a.eval y=.agg vs.toArray)
  (hold:w.heap[b]?=some (.cells (pre++(old++post)).toArray t (0,0))) (hl:vs.length=old.length) (hi:(P.info? ty).map (·.size)=some vs.length) (h1:vs.all (·.oneCell')=true)
  (h:∀ w',Hid (w'.heap[b]?=some (.cells (pre++(vs++post)).toArray t (0,0))/\Mod (Eq b) w w') -> wpList P ops Q rest (a.put o.dst undef) w'):wpList P ops Q (o::rest) a w:=
 wpList_plain hg fun _ hK=>zik ty x y ho b n pre old post vs t hn hx hy hold hl hi h1 (fun w' H=>hK _ _ (h w' H))
theorem zhD (hg:o.guard=none) (ty:TypeId) (x:Operand) (ho:o.op=.load ty x) (b n:Nat) (pre cs post:List Value) (t:TypeId) (fr:Nat × Nat) (d:TypeDesc) (hn:n=pre.length) (hx:a.eval x=.pointer (some ⟨b,n,none⟩))
  (hold:w.heap[b]?=some (.cells (pre++(cs++post)).toArray t fr)) (hu:P.underlying ty=some d) (hd:d.isRow=true) (hi:(P.info? ty).map (·.size)=some cs.length)
  (h:wpList P ops Q rest (a.put o.dst (.agg cs.toArray)) w):wpList P ops Q (o::rest) a w:=by
 subst hn;exact wpList_load_mid hg ty x ho b pre.length hx cs d (zbQ hold) hu hd hi h
theorem zaW (hw:Region.wanted o (yielded ops a.tmps)=true) (ty:TypeId) (x:Operand) (ho:o.op=.load ty x) (b n:Nat) (pre cs post:List Value) (t:TypeId) (fr:Nat × Nat) (d:TypeDesc) (hn:n=pre.length) (hx:a.eval x=.pointer (some ⟨b,n,none⟩))
  (hold:w.heap[b]?=some (.cells (pre++(cs++post)).toArray t fr)) (hu:P.underlying ty=some d) (hd:d.isRow=true) (hi:(P.info? ty).map (·.size)=some cs.length)
  (h:wpList P ops Q rest (a.put o.dst (.agg cs.toArray)) w):wpList P ops Q (o::rest) a w:=by
 subst hn;simp only [wpList];rw [if_pos hw];exact .inl (wp_load_mid ty x ho b pre.length hx cs d (zbQ hold) hu hd hi h)
theorem zbf (ty:TypeId) (x y:Operand) (ho:o.op=.store ty x y) (b:Nat) (old vs:Array Value) (t:TypeId) (hx:a.eval x=.pointer (some ⟨b,0,none⟩)) (hy:a.eval y=.agg vs)
  (hold:w.heap[b]?=some (.cells old t (0,0))) (hl:vs.size=old.size) (hi:(P.info? ty).map (·.size)=some vs.size) (h1:vs.toList.all (·.oneCell')=true)
  (h:∀ w',Hid (w'.heap[b]?=some (.cells vs t (0,0))/\Mod (Eq b) w w') -> K (a.put o.dst undef) w'):o.wp P a w K Q:=by
 obtain ⟨old⟩:=old;obtain ⟨vs⟩:=vs;refine zik ty x y ho b 0 [] old [] vs t rfl hx hy (by simpa using hold) (by simpa using hl) (by simpa using hi) (by simpa using h1) (fun w' H=>h w' ?_);have:=H.o;simp only [List.append_nil,List.nil_append] at this;exact this
theorem zab (hg:o.guard=none) (ty:TypeId) (x y:Operand) (ho:o.op=.store ty x y) (b:Nat) (old vs:Array Value) (t:TypeId) (hx:a.eval x=.pointer (some ⟨b,0,none⟩)) (hy:a.eval y=.agg vs)
  (hold:w.heap[b]?=some (.cells old t (0,0))) (hl:vs.size=old.size) (hi:(P.info? ty).map (·.size)=some vs.size) (h1:vs.toList.all (·.oneCell')=true)
  (h:∀ w',Hid (w'.heap[b]?=some (.cells vs t (0,0))/\Mod (Eq b) w w') -> wpList P ops Q rest (a.put o.dst undef) w'):wpList P ops Q (o::rest) a w:=
 wpList_plain hg fun _ hK=>zbf ty x y ho b old vs t hx hy hold hl hi h1 (fun w' H=>hK _ _ (h w' H))
theorem zae (hw:Region.wanted o (yielded ops a.tmps)=true) (ty:TypeId) (x:Operand) (ho:o.op=.load ty x) (b:Nat) (cs:Array Value) (t:TypeId) (fr:Nat × Nat) (d:TypeDesc) (hx:a.eval x=.pointer (some ⟨b,0,none⟩))
  (hold:w.heap[b]?=some (.cells cs t fr)) (hu:P.underlying ty=some d) (hd:d.isRow=true) (hi:(P.info? ty).map (·.size)=some cs.size)
  (h:wpList P ops Q rest (a.put o.dst (.agg cs)) w):wpList P ops Q (o::rest) a w:=by
 obtain ⟨cs⟩:=cs;exact zaW hw ty x ho b 0 [] cs [] t fr d rfl hx (by simpa using hold) hu hd (by simpa using hi) h
theorem zfc {r:List (Oper × Bool)} (hw:Region.wanted o (yielded ops a.tmps)=true) (ty:TypeId) (x:Operand) (ho:o.op=.load ty x) (b:Nat) (cs:Array Value) (t:TypeId) (fr:Nat × Nat) (d:TypeDesc) (hx:a.eval x=.pointer (some ⟨b,0,none⟩))
  (hS:∀ w,C w -> w.heap[b]?=some (.cells cs t fr)) (hu:P.underlying ty=some d) (hd:d.isRow=true) (hi:(P.info? ty).map (·.size)=some cs.size)
  (h:wpS P ops C Q r (a.put o.dst (.agg cs)) w):wpS P ops C Q ((o,true)::r) a w:=by
 obtain ⟨cs⟩:=cs;exact ⟨_,yieldsIf_load_mid hw ty x ho b 0 hx cs d (fun w' h'=>zbQ (pre:=[]) (post:=[]) (by simpa using hS w' h')) hu hd (by simpa using hi),h⟩
end
end Cdk
