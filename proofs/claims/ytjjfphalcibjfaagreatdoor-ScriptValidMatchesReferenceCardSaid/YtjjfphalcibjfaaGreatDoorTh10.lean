import Derived.Test.YtjjfphalcibjfaaGreatDoorA9
import Derived.Test.YtjjfphalcibjfaaGreatDoorA3
import Derived.Test.YtjjfphalcibjfaaGreatDoorMaps
import Derived.Lib.Split
set_option maxRecDepth 100000
set_option maxHeartbeats 16000000
namespace Go.Proofs.YtjjfphalcibjfaaGreatDoor
open Go.RowKit Cdk Scr
theorem zf0 (n:Int) (w:World):Calls Tryz.prog 57 #[.int .i64 n] w fun e w'=>e=.returned (.bool (zbX n))/\w=w':=by
 obtain ⟨r,hr⟩:∃ r,r=zbX n:=⟨_,rfl⟩;rw [<- hr];unfold zbX rng at hr
 by_cases h1:0<=n <;> by_cases h2:n<=4294967295
 all_goals
  replace hr:=hid hr;go_enter Tryz.func57,Tryz.ntmps57;go_wp2;go_ret;exact ⟨by rw [hr.out];simp [*],rfl⟩
theorem zcH (m:Ms) (w:World):Calls Tryz.prog 33 #[.agg (msC m).toArray] w fun e w'=>e=.returned (.bool (vMs m))/\Ext w w':=by
 obtain ⟨r,hr⟩:∃ r,r=vMs m:=⟨_,rfl⟩;rw [<- hr];obtain ⟨kd,pa,sq,st,ba,ve,da⟩:=m;unfold vMs at hr;simp only at hr;have k1:=hid (fun W=>zf0 ba W);have k2:=hid (fun W=>zf0 ve W);generalize zbX ba=sb at k1 hr;generalize zbX ve=sv at k2 hr;have hx:=hid (Mod.alloc (Mod.refl (fun _=>False) w) (.cells #[.int .i64 kd,.int .i64 pa,.int .i64 sq,.int .i64 st,.int .i64 ba,.int .i64 ve,.string ⟨da.toArray⟩] 30));have c1:=zam ba 0;have c2:=zam ve 0;have c3:(da.isEmpty)=da.isEmpty:=rfl;clear c3;generalize decide (ba=0)=d1 at c1 hr;generalize decide (ve=0)=d2 at c2 hr;generalize hda:decide (da.length<=16384)=d4 at hr;replace hda:Hid (decide ((da.length:Int)<=16384)=d4):=hid (by rw [<- hda,Bool.eq_iff_iff];simp;omega);have hde:Hid ((da.isEmpty)=da.isEmpty):=hid rfl;clear hde;unfold msC zbR;simp only
 by_cases g1:pa < 1
 ·have hf:Hid (r=false):=hid (by rw [hr];simp [rng];omega)
  clear hr;go_enter Tryz.func33,Tryz.ntmps33;go_wp2_with fail
  go_ret;exact ⟨by rw [hf.out];rfl,hx.out⟩
 by_cases g2:8 < pa
 ·have hf:Hid (r=false):=hid (by rw [hr];simp [rng];omega)
  clear hr;go_enter Tryz.func33,Tryz.ntmps33;go_wp2_with fail
  go_ret;exact ⟨by rw [hf.out];rfl,hx.out⟩
 by_cases g3:sq < 1
 ·have hf:Hid (r=false):=hid (by rw [hr];simp [rng];omega)
  clear hr;go_enter Tryz.func33,Tryz.ntmps33;go_wp2_with fail
  go_ret;exact ⟨by rw [hf.out];rfl,hx.out⟩
 by_cases g4:4611686018427387903 < sq
 ·have hf:Hid (r=false):=hid (by rw [hr];simp [rng];omega)
  clear hr;go_enter Tryz.func33,Tryz.ntmps33;go_wp2_with fail
  go_ret;exact ⟨by rw [hf.out];rfl,hx.out⟩
 by_cases g5:st < 1
 ·have hf:Hid (r=false):=hid (by rw [hr];simp [rng];omega)
  clear hr;go_enter Tryz.func33,Tryz.ntmps33;go_wp2_with fail
  go_ret;exact ⟨by rw [hf.out];rfl,hx.out⟩
 by_cases g6:64 < st
 ·have hf:Hid (r=false):=hid (by rw [hr];simp [rng];omega)
  clear hr;go_enter Tryz.func33,Tryz.ntmps33;go_wp2_with fail
  go_ret;exact ⟨by rw [hf.out];rfl,hx.out⟩
 rw [zaq.2 (show 1<=pa/\pa<=8 by omega),zaq.2 (show 1<=sq/\sq<=4611686018427387903 by omega),zaq.2 (show 1<=st/\st<=64 by omega),Bool.true_and,Bool.true_and,Bool.true_and] at hr;cases sb with
 | false=>
  replace hr:=hid hr;go_enter Tryz.func33,Tryz.ntmps33;go_wp2_with fail
  refine (k1.out _).mono ?_;rintro e w' ⟨rfl,rfl⟩;go_wp2_with fail
  go_ret;exact ⟨by rw [hr.out];rfl,hx.out⟩
 | true=>
  cases sv with
  | false=>
   replace hr:=hid hr;go_enter Tryz.func33,Tryz.ntmps33;go_wp2_with fail
   refine (k1.out _).mono ?_;rintro e w' ⟨rfl,rfl⟩;go_wp2_with fail
   refine (k2.out _).mono ?_;rintro e w' ⟨rfl,rfl⟩;go_wp2_with fail
   go_ret;exact ⟨by rw [hr.out];rfl,hx.out⟩
  | true=>
   rw [Bool.true_and,Bool.true_and] at hr
   by_cases n1:kd=1
   ·rw [if_pos n1] at hr
    subst n1;replace hr:=hid (hr.trans hda.out.symm);go_enter Tryz.func33,Tryz.ntmps33;go_wp2_with fail
    refine (k1.out _).mono ?_;rintro e w' ⟨rfl,rfl⟩;go_wp2_with fail
    refine (k2.out _).mono ?_;rintro e w' ⟨rfl,rfl⟩;go_wp2_with fail
    go_ret;exact ⟨by rw [hr.out];rfl,hx.out⟩
   rw [if_neg n1] at hr
   by_cases n2:kd=2
   ·rw [if_pos n2] at hr
    subst n2;replace hr:=hid hr;go_enter Tryz.func33,Tryz.ntmps33;go_wp2_with fail
    refine (k1.out _).mono ?_;rintro e w' ⟨rfl,rfl⟩;go_wp2_with fail
    refine (k2.out _).mono ?_;rintro e w' ⟨rfl,rfl⟩;go_wp2_with fail
    all_goals
     go_ret;exact ⟨by rw [hr.out];simp [*],hx.out⟩
   rw [if_neg n2] at hr
   by_cases n3:kd=3
   ·rw [if_pos n3] at hr
    subst n3;replace hr:=hid hr;go_enter Tryz.func33,Tryz.ntmps33;go_wp2_with fail
    refine (k1.out _).mono ?_;rintro e w' ⟨rfl,rfl⟩;go_wp2_with fail
    refine (k2.out _).mono ?_;rintro e w' ⟨rfl,rfl⟩;go_wp2_with fail
    all_goals
     go_ret;exact ⟨by rw [hr.out];simp [*],hx.out⟩
   rw [if_neg n3] at hr
   by_cases n4:kd=4
   ·rw [if_pos n4] at hr
    subst n4;replace hr:=hid hr;go_enter Tryz.func33,Tryz.ntmps33;go_wp2_with fail
    refine (k1.out _).mono ?_;rintro e w' ⟨rfl,rfl⟩;go_wp2_with fail
    refine (k2.out _).mono ?_;rintro e w' ⟨rfl,rfl⟩;go_wp2_with fail
    all_goals
     go_ret;exact ⟨by rw [hr.out];simp [*],hx.out⟩
   ·rw [if_neg n4] at hr
    have e1:(kd==1)=false:=by rw [beq_eq_false_iff_ne];exact n1
    have e2:(kd==2)=false:=by rw [beq_eq_false_iff_ne];exact n2
    have e3:(kd==3)=false:=by rw [beq_eq_false_iff_ne];exact n3
    have e4:(kd==4)=false:=by rw [beq_eq_false_iff_ne];exact n4
    replace hr:=hid hr;go_enter Tryz.func33,Tryz.ntmps33;go_wp2_with fail
    refine (k1.out _).mono ?_;rintro e w' ⟨rfl,rfl⟩;go_wp2_with fail
    refine (k2.out _).mono ?_;rintro e w' ⟨rfl,rfl⟩;go_wp2_with fail
    go_ret;exact ⟨by rw [hr.out];rfl,hx.out⟩
theorem zfg (n:Int) (w:World):Calls Tryz.prog 31 #[.int .i64 n] w fun e w'=>e=.returned (.bool (rng n 0 3))/\w=w':=by
 have h:=hid (zbl n 0 3 w);generalize rng n 0 3=r at h ⊢;go_enter Tryz.func31,Tryz.ntmps31;go_wp2_with fail
 refine h.out.mono ?_;rintro e w' ⟨rfl,rfl⟩;go_wp2_with fail
 go_ret;exact ⟨rfl,rfl⟩
theorem zie (n top:Int) (B:Nat) (w:World) (hB:w.cell? ⟨B,0,none⟩=some (.int .i64 top)):Calls Tryz.prog 56 #[.int .i64 n,.pointer (some ⟨B,0,none⟩)] w fun e w'=>e=.returned (.bool (!rng n 0 top))/\w=w':=by
 have h:=hid (zbl n 0 top w);generalize rng n 0 top=r at h ⊢;go_enter Tryz.func56,Tryz.ntmps56;go_wp2_with fail
 refine h.out.mono ?_;rintro e w' ⟨rfl,rfl⟩;go_wp2_with fail
 go_ret;exact ⟨rfl,rfl⟩
def zob (l:List Int) (top:Int) (w:World) (e:Ending) (w':World):Prop:=∃ k:Int,e=.returned (.int .i64 k)/\decide (0<=k)=!(l.all fun n=>rng n 0 top)/\w=w'
theorem zbA {F:Nat -> Prop} {w:World} {ao:Option Addr} {n cap:Nat} {l:List Int} (h:zaF F w (.slice ao n cap) l) {j:Nat} (hj:j < l.length):∃ b off,ao=some ⟨b,off,none⟩/\w.cell? ⟨b,off+j,none⟩=some (.int .i64 l[j]):=by
 obtain ⟨b,off,c,e,-,hc⟩:=h.get 1 zbb (by decide) hj;injection e with e1 _ _
 have:=hc 0 _ (by decide) rfl;rw [Nat.mul_one,Nat.add_zero] at this;exact ⟨b,off,e1,this⟩
theorem zih {F:Nat -> Prop} (v:Value) (l:List Int) (top:Int) (B:Nat) (w:World) (hB:w.cell? ⟨B,0,none⟩=some (.int .i64 top)) (h:zaF F w v l):
  Calls Tryz.prog 94 #[v,.func (.func 56) #[] #[.pointer (some ⟨B,0,none⟩)]] w (zob l top w):=by
 obtain ⟨post,hpost⟩:∃ post,post=zob l top w:=⟨_,rfl⟩;rw [<- hpost];have hn0:=h.len;obtain ⟨ao,cap,rfl⟩:=h.slice;obtain ⟨n,hn⟩:∃ n,n=l.length:=⟨_,rfl⟩;rw [<- hn] at h hn0 ⊢;replace hn:=hid hn;replace h:=hid h;replace hpost:=hid hpost;replace hB:=hid hB;go_enter Tryz.func94,Tryz.ntmps94;go_wp2_with fail
 go_loopg [8] n (fun g i wr=>∃ j:Nat,j+g=n/\i=.int .i64 j/\wr=w/\(l.all fun n=>rng n 0 top)=((l.drop j).all fun n=>rng n 0 top))
 case atStart=>exact ⟨0,by omega,rfl,rfl,rfl⟩
 case round=>
  obtain ⟨j,hj,rfl,rfl,hrj⟩:=hrel;replace hj:=hid hj
  by_cases hlt:j < n
  ·have hdi:(j:Int) < (n:Int):=by omega
   have hd:decide ((j:Int) < (n:Int))=true:=decide_eq_true hdi;have hjl:j < l.length:=by have:=hn.out;omega
   obtain ⟨b,off,rfl,c0⟩:=zbA h.out hjl;rw [List.drop_eq_getElem_cons hjl,List.all_cons] at hrj;have hC:=zie l[j] top B wr hB.out;generalize l[j]=x at c0 hrj hC;generalize rng x 0 top=bx at hrj hC;replace hC:=hid hC;replace hrj:=hid hrj;cases bx with
   | false=>
    go_wp2_with fail
    refine hC.out.mono ?_;rintro e w' ⟨rfl,rfl⟩;go_wp2_with fail
    rw [hpost.out];exact ⟨j,rfl,by rw [hrj.out];simp,rfl⟩
   | true=>
    go_wp2_with fail
    refine hC.out.mono ?_;rintro e w' ⟨rfl,rfl⟩;go_wp2_with fail
    go_roundg (gk - 1)
    case measure=>have:=hj.out;omega
    case rel=>exact ⟨j+1,by have:=hj.out;omega,by go_num,rfl,by rw [hrj.out];rfl⟩
  ·have hdi:¬ (j:Int) < (n:Int):=by omega
   have hd:decide ((j:Int) < (n:Int))=false:=decide_eq_false hdi;rw [List.drop_eq_nil_of_le (by have:=hn.out;omega)] at hrj;replace hrj:=hid hrj;go_wp2_with fail
   rw [hpost.out];exact ⟨-1,rfl,by rw [hrj.out];rfl,rfl⟩
theorem zfx {F:Nat -> Prop} (v:Value) (l:List Int) (top:Int) (B:Nat) (w:World) (hB:w.cell? ⟨B,0,none⟩=some (.int .i64 top)) (h:zaF F w v l):
  Calls Tryz.prog 55 #[v,.func (.func 56) #[] #[.pointer (some ⟨B,0,none⟩)]] w fun e w'=>e=.returned (.bool (!(l.all fun n=>rng n 0 top)))/\w=w':=by
 have hI:=hid (zih v l top B w hB h);obtain ⟨r,hr⟩:∃ r,r=!(l.all fun n=>rng n 0 top):=⟨_,rfl⟩;rw [<- hr];replace hr:=hid hr;clear h hB;go_enter Tryz.func55,Tryz.ntmps55;go_wp2_with fail
 refine hI.out.mono ?_;rintro e w' ⟨k,rfl,hk,rfl⟩;rw [<- hr.out] at hk;go_wp2_with fail
 go_ret;exact ⟨by rw [<- hk];rfl,rfl⟩
theorem zgu {F:Nat -> Prop} (v:Value) (l:List Int) (most:Nat) (top:Int) (w:World) (h:zaF F w v l):
  Calls Tryz.prog 30 #[v,.int .i64 most,.int .i64 top] w fun e w'=>e=.returned (.bool (zfU l most top))/\Ext w w':=by
 obtain ⟨r,hr⟩:∃ r,r=zfU l most top:=⟨_,rfl⟩;rw [<- hr];unfold zfU at hr;have hx:=Mod.alloc (Mod.refl (fun _=>False) w) (.cells #[.int .i64 top] 3);have hC:=zfx v l top w.heap.size _ (zaa (heap_alloc_new w (.cells #[.int .i64 top] 3)) 0) (h.ext hx);obtain ⟨ao,cap,rfl⟩:=h.slice;obtain ⟨n,hn⟩:∃ n,n=l.length:=⟨_,rfl⟩;rw [<- hn] at hr hC ⊢;generalize (l.all fun n=>rng n 0 top)=q at hr hC;replace hn:=hid hn;replace hC:=hid hC;replace hx:=hid hx;clear h;have hmf:∀ (fn:Fn) (first cap:Array Value) (w:World),(Instr.makeFunc fn first cap).run Tryz.prog w=.ok (.func fn first cap) w:=fun _ _ _ _=>rfl
 by_cases hl:n<=most
 ·have hq:¬ (most:Int) < (n:Int):=by omega
  rw [decide_eq_true hl,Bool.true_and] at hr;replace hr:=hid hr;go_enter Tryz.func30,Tryz.ntmps30;go_wp2_with fail
  refine hC.out.mono ?_;rintro e w' ⟨rfl,rfl⟩;go_wp2_with fail
  go_ret;exact ⟨by rw [hr.out];simp,hx.out⟩
 ·have hq:(most:Int) < (n:Int):=by omega
  rw [decide_eq_false hl,Bool.false_and] at hr;replace hr:=hid hr;go_enter Tryz.func30,Tryz.ntmps30;go_wp2_with fail
  go_ret;exact ⟨by rw [hr.out];rfl,hx.out⟩
theorem zf8 (s:ByteArray) (a b f:Nat) (hb:b<=100000) (w:World):
  Calls Tryz.prog 32 #[.string s,.int .i64 a,.int .i64 b,.int .u8 f] w fun e w'=>e=.returned (.bool (zfR s.data.toList a b f))/\w=w':=by
 obtain ⟨r,hr⟩:∃ r,r=zfR s.data.toList a b f:=⟨_,rfl⟩;rw [<- hr];unfold zfR at hr;rw [<- zaO] at hr;have hw:=hid (zbl s.size a b w);have hrg:rng s.size a b=(decide (a<=s.size) && decide (s.size<=b)):=by unfold rng;rw [Bool.eq_iff_iff];simp
 rw [<- Bool.and_assoc,<- hrg] at hr;clear hrg;cases hrg:rng (s.size:Int) a b with
 | false=>
  rw [hrg] at hw hr;replace hr:=hid hr;clear hrg;go_enter Tryz.func32,Tryz.ntmps32;go_wp2_with fail
  refine hw.out.mono ?_;rintro e w' ⟨rfl,rfl⟩;go_wp2_with fail
  go_ret;exact ⟨by rw [hr.out];rfl,rfl⟩
 | true=>
  have hsz:=(zaq.1 hrg).2;rw [hrg] at hw hr;rw [Bool.true_and] at hr;replace hr:=hid hr;have hss:s.size<=100000:=by omega
  clear hrg hsz;go_enter Tryz.func32,Tryz.ntmps32;go_wp2_with fail
  refine hw.out.mono ?_;rintro e w' ⟨rfl,rfl⟩;clear hw;go_wp2_with fail
  go_loopg [18] s.size (fun g i wr=>∃ j:Nat,j+g=s.size/\i=.int .i64 j/\wr=w/\r=(s.data.toList.drop j).all (fun c=>decide (f<=c.toNat) && decide (c.toNat<=126)))
  case atStart=>exact ⟨0,by omega,rfl,rfl,hr.out⟩
  case round=>
   obtain ⟨j,hj,rfl,rfl,hrj⟩:=hrel;replace hj:=hid hj
   by_cases hlt:j < s.size
   ·have hdd:decide ((j:Int) < (s.size:Int))=true:=decide_eq_true (by omega)
    rw [zcq s _ hlt] at hrj;generalize hrest:(s.data.toList.drop (j+1)).all (fun c=>decide (f<=c.toNat) && decide (c.toNat<=126))=rest at hrj;replace hrj:=hid hrj;replace hrest:=hid hrest
    by_cases h1:((s[j].toNat:Nat):Int) < (f:Int)
    ·have hp:Hid (r=false):=hid (by rw [hrj.out];simp;omega)
     go_wp2_with fail
     go_ret;exact ⟨by rw [hp.out];rfl,rfl⟩
    ·by_cases h2:(126:Int) < ((s[j].toNat:Nat):Int)
     ·have hp:Hid (r=false):=hid (by rw [hrj.out];simp;omega)
      go_wp2_with fail
      go_ret;exact ⟨by rw [hp.out];rfl,rfl⟩
     ·have hp:Hid (r=rest):=hid (by rw [hrj.out,decide_eq_true (show f<=s[j].toNat by omega),decide_eq_true (show s[j].toNat<=126 by omega)];rfl)
      go_wp2_with fail
      go_roundg (gk - 1)
      case measure=>have:=hj.out;omega
      case rel=>exact ⟨j+1,by have:=hj.out;omega,by go_num,rfl,by rw [hp.out];exact hrest.out.symm⟩
   ·obtain rfl:j=s.size:=by have:=hj.out;omega
    have hdd:decide ((s.size:Int) < (s.size:Int))=false:=decide_eq_false (by omega);rw [List.drop_eq_nil_of_le (by rw [<- zaO];exact Nat.le_refl _)] at hrj;replace hrj:=hid hrj;go_wp2_with fail
    go_ret;exact ⟨by rw [hrj.out];rfl,rfl⟩
open Go.Shelf Go.RowKit Cdk Scr
theorem zau (n:Int):(zbs n).length<=10:=by
 unfold zbs;split
 ·simp
 ·exact zjE 10 _
theorem zbS (s:Bs):(zeL s).length<=10+s.length:=by
 unfold zeL;split
 ·simp
 ·have:=zau s.length;simp;omega
theorem zba (a b:Bs):(⟨a.toArray⟩:ByteArray)++⟨b.toArray⟩=⟨(a++b).toArray⟩:=by
 apply ByteArray.ext;simp [ByteArray.data_append]
theorem zaS (a:Bs):(⟨a.toArray⟩:ByteArray).size=a.length:=rfl
theorem zdl (s:Bs) (hs:s.length<=65536) (w:World):
  Calls Tryz.prog 188 #[.string ⟨s.toArray⟩] w fun e w'=>e=.returned (.tuple #[.string ⟨(zeL s).toArray⟩,.int .i64 0])/\Ext w w':=by
 obtain ⟨S,hS⟩:∃ S:ByteArray,S=⟨s.toArray⟩:=⟨_,rfl⟩;have hSs:S.size=s.length:=by rw [hS];rfl
 rw [<- hS];have hp:=hid (zbn (S.size:Int) (by omega) (by omega));have hput:Hid (zeL s=zbs S.size++s):=hid (by unfold zeL;rw [if_neg (by omega),hSs]);have h1:¬ (65536:Int) < (S.size:Int):=by omega
 have h2:=zau (S.size:Int);obtain ⟨T,hT⟩:∃ T,T=zbs (S.size:Int):=⟨_,rfl⟩;rw [<- hT] at h2;have hsum:(⟨T.toArray⟩:ByteArray).size+S.size<=1000000:=by rw [zaS];omega
 replace hT:=hid hT;replace h2:=hid h2;replace hSs:=hid hSs;replace hS:=hid hS;go_enter Tryz.func188,Tryz.ntmps188;go_wp2_with fail
 refine (hp.out _).mono ?_;rintro e w' ⟨rfl,hx⟩;rw [<- hT.out];replace hx:=hid hx;go_wp2_with fail
 go_ret2
 refine ⟨?_,hx.out⟩;rw [hput.out,<- hT.out,<- zba,<- hS.out]
 rfl
theorem wraps_u32 (n:Int) (h₀:0<=n) (h₁:n < 2 ^ 32):IntKind.u32.wrap n=n:=by rw [IntKind.wrap_u32];omega
theorem zir (x y:UInt32):bits .xor .u32 (x.toNat:Int) (y.toNat:Int)=((x ^^^ y).toNat:Int):=by
 have hx:=x.toNat_lt;have hy:=y.toNat_lt;have ha:x.toNat % 2 ^ IntKind.u32.bits=x.toNat:=Nat.mod_eq_of_lt hx;have hb:y.toNat % 2 ^ IntKind.u32.bits=y.toNat:=Nat.mod_eq_of_lt hy;rw [UInt32.toNat_xor];simp only [bits,BitVec.ofInt_natCast,BitVec.toNat_xor,BitVec.toNat_ofNat,ha,hb];have:=Nat.xor_lt_two_pow hx hy;exact wraps_u32 _ (Int.natCast_nonneg _) (by exact_mod_cast this)
theorem zk2 {w:World} (h:Gl w) (r:UInt32):w.cell? ⟨0,r.toNat % 16,none⟩=some (.int .u32 ((zdv.getD (r.toNat % 16) 0).toNat:Int)):=by
 have hk:r.toNat % 16 < 16:=Nat.mod_lt _ (by decide);have hc:=h.sh.cell zdK (r.toNat % 16) hk;rw [hc];generalize r.toNat % 16=k at hk;congr 2;have:∀ k:Fin 16,zgU.getD k.val 0=((zdv.getD k.val 0).toNat:Int):=by decide+kernel
 exact this ⟨k,hk⟩
theorem zhH {w:World} (h:Gl w) (r:UInt32):∃ v:UInt32,w.cell? ⟨0,r.toNat % 16,none⟩=some (.int .u32 v.toNat)/\bits .xor .u32 ((r.toNat:Int) / 16) v.toNat=((nib r).toNat:Int):=by
 refine ⟨_,zk2 h r,?_⟩;have h2:=zir (r >>> 4) (zdv.getD (r.toNat % 16) 0);have h3:(r >>> 4).toNat=r.toNat / 16:=by
  rw [UInt32.toNat_shiftRight];simp [Nat.shiftRight_eq_div_pow]
 rw [h3] at h2;exact h2
theorem sum_any (t:Bs) (w:World) (h:Gl w) (hsz:t.length<=1000000):
  Calls Tryz.prog 189 #[.string ⟨t.toArray⟩] w fun e w'=>e=.returned (.int .i64 (crc t))/\w=w':=by
 obtain ⟨C,hC⟩:∃ C,C=zj0 0xFFFFFFFF t:=⟨_,rfl⟩;have hcr:Hid (crc t=((C ^^^ 0xFFFFFFFF).toNat:Int)):=hid (by rw [hC];rfl);obtain ⟨s,hs⟩:∃ s:ByteArray,s=⟨t.toArray⟩:=⟨_,rfl⟩;have hst:s.data.toList=t:=by rw [hs]
 have hsl:s.size<=1000000:=by rw [hs];exact hsz
 rw [<- hs];rw [<- hst] at hC;replace hst:=hid hst;replace hs:=hid hs;replace h:=hid h;go_enter Tryz.func189,Tryz.ntmps189;go_wp2_with fail
 go_loopg [3,4] s.size (fun g rv i wr=>∃ (j:Nat) (r:UInt32),j+g=s.size/\i=.int .i64 j/\rv=.int .u32 r.toNat/\wr=w/\C=zj0 r (s.data.toList.drop j))
 case atStart=>exact ⟨0,0xFFFFFFFF,by omega,rfl,rfl,rfl,by rw [hC];rfl⟩
 case round=>
  clear hC;obtain ⟨j,r,hj,rfl,rfl,rfl,hCj⟩:=hrel;replace hj:=hid hj
  by_cases hlt:j < s.size
  ·have hd:decide ((j:Int) < (s.size:Int))=true:=decide_eq_true (by omega)
   have hdi:(j:Int) < (s.size:Int):=by omega
   rw [drop_at s hlt] at hCj;obtain ⟨r1,hr1⟩:∃ r1,r1=r ^^^ s[j].toUInt32:=⟨_,rfl⟩;have e1:(s[j].toNat:Int) % 4294967296=s[j].toNat:=by have:=s[j].toNat_lt;omega
   have e2:bits .xor .u32 (r.toNat:Int) (s[j].toNat:Int)=(r1.toNat:Int):=by
    rw [hr1,<- zir];simp
   simp only [zj0] at hCj;rw [<- hr1] at hCj;have e3:(r1.toNat:Int).tmod 16=((r1.toNat % 16:Nat):Int):=by rw [Int.tmod_eq_emod_of_nonneg (by omega)];omega
   have e5:r1.toNat % 16 < 16:=by omega
   obtain ⟨v1,c1,e6⟩:=zhH h.out r1;generalize nib r1=r2 at*;have f3:(r2.toNat:Int).tmod 16=((r2.toNat % 16:Nat):Int):=by rw [Int.tmod_eq_emod_of_nonneg (by omega)];omega
   have f5:r2.toNat % 16 < 16:=by omega
   obtain ⟨v2,c2,f6⟩:=zhH h.out r2;generalize nib r2=r3 at*;replace hCj:=hid hCj;replace hr1:=hid hr1;go_wp2_with fail
   go_roundg (gk - 1)
   case measure=>have:=hj.out;omega
   case rel=>exact ⟨j+1,r3,by have:=hj.out;omega,by go_num,rfl,rfl,hCj.out⟩
  ·obtain rfl:j=s.size:=by have:=hj.out;omega
   have hdi:¬ (s.size:Int) < (s.size:Int):=by omega
   have hd:decide ((s.size:Int) < (s.size:Int))=false:=decide_eq_false hdi;rw [List.drop_eq_nil_of_le (Nat.le_of_eq (zaO s).symm)] at hCj;simp only [zj0] at hCj;have e9:bits .xor .u32 IntKind.u32.max (r.toNat:Int)=((C ^^^ 0xFFFFFFFF).toNat:Int):=by
    rw [hCj,UInt32.xor_comm];exact zir 0xFFFFFFFF r
   have e10:wrap64 ((C ^^^ 0xFFFFFFFF).toNat:Int)=((C ^^^ 0xFFFFFFFF).toNat:Int):=by
    have:=(C ^^^ 0xFFFFFFFF).toNat_lt;exact IntWalk.wrap64_in _ (by omega)
   generalize (C ^^^ 0xFFFFFFFF).toNat=Z at e9 e10 hcr;replace hCj:=hid hCj;go_wp2_with fail
   go_ret;exact ⟨by rw [hcr.out];rfl,rfl⟩
theorem zeH (B b:Nat) (tx:Bs) (v:Value) (l:List Int) (hl:∀ x ∈ l,-4611686018427387903<=x/\x<=4611686018427387903) (w:World) (h:Bld B b tx w) (hI:∀ W,za4 B b w W -> zaF (fun _=>True) W v l) (hlen:tx.length+10*l.length<=1000000000):
  Calls Tryz.prog 206 #[.pointer (some ⟨b,0,none⟩),v] w fun e w'=>e=.returned (.tuple #[])/\Bld B b (tx++zaE l) w'/\za4 B b w w':=by
 have hn0:=(hI w (za4.refl _ _ _)).len;obtain ⟨ao,cap,rfl⟩:=(hI w (za4.refl _ _ _)).slice;obtain ⟨n,hn⟩:∃ n,n=l.length:=⟨_,rfl⟩;obtain ⟨tz,htz⟩:∃ tz,tz=tx++zaE l:=⟨_,rfl⟩;rw [<- htz];rw [<- hn] at hlen hI hn0 ⊢;replace hI:=hid hI;replace hn:=hid hn;go_enter Tryz.func206,Tryz.ntmps206;go_wp2_with fail
 go_loopg [10] n (fun g i wr=>∃ (j:Nat) (ty:Bs),j+g=n/\i=.int .i64 j/\Bld B b ty wr/\za4 B b w wr/\tz=ty++zaE (l.drop j)/\ty.length+10*(n - j)<=1000000000)
 case atStart=>exact ⟨0,tx,by omega,rfl,h,za4.refl _ _ _,by rw [htz];rfl,hlen⟩
 case round=>
  clear h hlen htz;obtain ⟨j,ty,hj,rfl,hB,hK,ht,hlen⟩:=hrel;replace hj:=hid hj;replace hlen:=hid hlen
  by_cases hlt:j < n
  ·have hdi:(j:Int) < (n:Int):=by omega
   have hd:decide ((j:Int) < (n:Int))=true:=decide_eq_true hdi;have hjl:j < l.length:=by have:=hn.out;omega
   obtain ⟨b',off,rfl,c0⟩:=zbA (hI.out wr hK) hjl;have hxr:=hl l[j] (List.getElem_mem _);rw [List.drop_eq_getElem_cons hjl] at ht;generalize l[j]=x at c0 hxr ht;have hp:=hid (zbn x hxr.1 hxr.2);have h10:=zau x;have ht2:tz=(ty++zbs x)++zaE (l.drop (j+1)):=by rw [ht];simp [zaE]
   generalize hT:zbs x=T at hp h10 ht2;replace ht2:=hid ht2;replace h10:=hid h10;replace hB:=hid hB;replace hK:=hid hK;clear ht hT hxr;go_wp2_with fail
   refine (hp.out _).mono ?_;rintro e w' ⟨rfl,hx⟩;go_wp2_with fail
   refine (zdy B b ty ⟨T.toArray⟩ w' (hB.out.ext hx) (by have:=hlen.out;have:=h10.out;rw [zaS];omega)).mono ?_;rintro e w2 ⟨rfl,hB2,hK2⟩;replace hB2:=hid hB2;replace hK2:=hid ((hK.out.ext hx).trans hK2);go_wp2_with fail
   go_roundg (gk - 1)
   case measure=>have:=hj.out;omega
   case rel=>exact ⟨j+1,ty++T,by have:=hj.out;omega,by go_num,hB2.out,hK2.out,ht2.out,by have:=hlen.out;have:=h10.out;have:=hj.out;simp;omega⟩
  ·obtain rfl:j=n:=by have:=hj.out;omega
   have hdi:¬ (j:Int) < (j:Int):=by omega
   have hd:decide ((j:Int) < (j:Int))=false:=decide_eq_false hdi;rw [List.drop_eq_nil_of_le (by have:=hn.out;omega)] at ht;replace hB:=hid hB;replace hK:=hid hK;replace ht:=hid ht;go_wp2_with fail
   go_end0
   exact ⟨rfl,by rw [ht.out];simpa [zaE] using hB.out,hK.out⟩
end Go.Proofs.YtjjfphalcibjfaaGreatDoor
namespace Scr
open Go
theorem zmG (c:UInt8):Lib.indexByte [] c=-1:=rfl
theorem zms (c:UInt8) (r:Bs):Lib.indexByte (c::r) c=0:=by simp [Lib.indexByte]
theorem zlS {c x:UInt8} (h:x ≠ c) (r:Bs):Lib.indexByte (x::r) c=if Lib.indexByte r c=-1 then -1 else Lib.indexByte r c+1:=by
 have:(x==c)=false:=by rw [beq_eq_false_iff_ne];exact h
 simp [Lib.indexByte,this]
theorem zd7 (c:UInt8):∀ s:Bs,Lib.cut s [c]=zbY c s
 | []=>by simp [Lib.cut,Lib.index_one,zmG,zbY]
 | x::r=>by
  have ih:=zd7 c r;unfold Lib.cut at ih ⊢;rw [Lib.index_one] at ih ⊢;have hge:=Lib.indexByte_ge r c
  by_cases h:x=c
  ·subst h
   rw [zms,zbY,if_pos rfl];simp
  ·rw [zlS h,zbY,if_neg h,<- ih]
   by_cases h1:Lib.indexByte r c=-1
   ·rw [if_pos h1,h1]
    simp
   ·rw [if_neg h1,if_pos (by omega),if_pos (by omega)]
    have:(Lib.indexByte r c+1).toNat=(Lib.indexByte r c).toNat+1:=by omega
    rw [this];simp only [List.length_cons,List.length_nil,List.take_succ_cons];rw [show (Lib.indexByte r c).toNat+1+(0+1)=((Lib.indexByte r c).toNat+(0+1))+1 by omega,List.drop_succ_cons]
theorem zb8 (c:UInt8):∀ s:Bs,parts c s=if (zbY c s).2.2 then (zbY c s).1::parts c (zbY c s).2.1 else [s]
 | []=>by simp [parts,zbY]
 | x::r=>by
  by_cases h:x=c
  ·simp [parts,zbY,h]
  ·simp only [parts,zbY,if_neg h]
   rw [zb8 c r]
   by_cases h2:(zbY c r).2.2=true
   ·simp [h2]
   ·have h2':(zbY c r).2.2=false:=by simpa using h2
    simp [h2']
theorem zdI (c:UInt8):∀ (k:Nat) (s:Bs),s.count c<=k -> Lib.splitK [c] 0 k s=parts c s
 | 0,s,h=>by
  have hc:c ∉ s:=by
   intro hm;have:=List.count_pos_iff.2 hm;omega
  rw [zhF hc];rfl
 | k+1,s,h=>by
  have hcut:=zd7 c s;unfold Lib.cut at hcut;have hge:-1<=Lib.index s [c]:=Lib.index_ge _ _
  by_cases h1:Lib.index s [c]=-1
  ·rw [if_neg (by omega)] at hcut
   rw [Lib.splitK,h1,zb8,<- hcut]
   rfl
  ·have h2:(Lib.index s [c]==-1)=false:=by rw [beq_eq_false_iff_ne];exact h1
   rw [if_pos (by omega)] at hcut;rw [Lib.splitK,h2,zb8,<- hcut];simp only [Bool.false_eq_true,if_false,if_true,Nat.add_zero,List.cons.injEq,true_and];refine zdI c k _ ?_;rcases zdk (c:=c) s with ⟨e1,e2,e3⟩ | ⟨e1,-⟩
   ·rw [<- hcut] at e2
    simp only at e2;have e4:=congrArg (List.count c) e2;rw [List.count_append,List.count_cons_self] at e4;omega
   ·rw [<- hcut] at e1
    cases e1
theorem zjl {c:UInt8} {x:Nat} (h:hexV c=some x):x < 16:=by
 unfold hexV at h;split at h
 ·injection h with h;omega
 ·split at h
  ·injection h with h;omega
  ·cases h
def zoc:List UInt8:=[48,49,50,51,52,53,54,55,56,57,97,98,99,100,101,102]
def zlZ (c:UInt8):Int:=match hexV c with | some x=>x | none=>-1
theorem zmj (c:UInt8):Lib.indexByte zoc c=zlZ c:=by
 have h:∀ n:Fin 256,Lib.indexByte zoc (UInt8.ofNat n.val)=zlZ (UInt8.ofNat n.val):=by decide+kernel
 have:=h ⟨c.toNat,c.toNat_lt⟩;simpa using this
theorem zgD:∀ s:Bs,s.length % 2=1 -> unhex s=none
 | [],h=>by simp at h
 | [_],_=>rfl
 | a::b::r,h=>by
  have ih:=zgD r (by simp only [List.length_cons] at h;omega);unfold unhex;rw [ih];cases hexV a <;> cases hexV b <;> rfl
theorem ziT {s:Bs} {j:Nat} (h:j+1 < s.length):unhex (s.drop j)=match hexV s[j],hexV s[j+1] with
  | some x,some y=>(unhex (s.drop (j+2))).map (fun l=>UInt8.ofNat (16*x+y)::l)
  | _,_=>none:=by
 rw [List.drop_eq_getElem_cons (by omega),List.drop_eq_getElem_cons h]
 rfl
theorem znB {acc x j:Nat} (h:acc < 2 ^ j):acc ||| (x*2 ^ j)=acc+x*2 ^ j:=by
 have:=Nat.two_pow_add_eq_or_of_lt h x;rw [Nat.mul_comm x,Nat.or_comm,<- this,Nat.add_comm]
theorem zdf {acc x j:Nat} (h:acc < 2 ^ (7*j)) (hx:x < 128):acc+x*2 ^ (7*j) < 2 ^ (7*(j+1)):=by
 have e:2 ^ (7*(j+1))=128*2 ^ (7*j):=by rw [Nat.mul_add,Nat.pow_add];omega
 have h2:x*2 ^ (7*j)+2 ^ (7*j)<=128*2 ^ (7*j):=by
  have:=Nat.mul_le_mul_right (2 ^ (7*j)) (show x+1<=128 by omega);rw [Nat.add_mul] at this;omega
 omega
theorem zlg {g j acc:Nat}:zdW (g+1) j acc []=none:=rfl
theorem zed {g j acc:Nat} {b:UInt8} {r:Bs} (h:128<=b.toNat):zdW (g+1) j acc (b::r)=zdW g (j+1) (acc+b.toNat % 128*2 ^ (7*j)) r:=by
 rw [zdW,if_pos h]
def zl8 (z:Nat):Int:=if z % 2=1 then -((z / 2:Nat):Int) - 1 else ((z / 2:Nat):Int)
theorem zeb {g j acc:Nat} {b:UInt8} {r:Bs} (h:¬ 128<=b.toNat):zdW (g+1) j acc (b::r)=
  if (b.toNat=0/\0 < j) \/ zl8 (acc+b.toNat*2 ^ (7*j)) < -4611686018427387903 then none else some (zl8 (acc+b.toNat*2 ^ (7*j)),r):=by
 rw [zdW,if_neg h];rfl
theorem zfj (s:Bs):∀ (g j acc a:Nat) (n:Int) (r:Bs),zdW g j acc (s.drop a)=some (n,r) -> ∃ b,a < b/\b<=s.length/\r=s.drop b
 | 0,_,_,_,_,_,h=>by cases h
 | g+1,j,acc,a,n,r,h=>by
  by_cases ha:a < s.length
  ·rw [List.drop_eq_getElem_cons ha] at h
   by_cases h1:128<=s[a].toNat
   ·rw [zed h1] at h
    obtain ⟨b,h2,h3,h4⟩:=zfj s g _ _ (a+1) n r h;exact ⟨b,by omega,h3,h4⟩
   ·rw [zeb h1] at h
    split at h
    ·cases h
    ·injection h with h
     injection h with _ h
     exact ⟨a+1,by omega,by omega,h.symm⟩
  ·rw [List.drop_eq_nil_of_le (by omega)] at h
   cases h
theorem zei:∀ (g j acc:Nat) (s:Bs) (n:Int) (r:Bs),j+g=9 -> acc < 2 ^ (7*j) -> zdW g j acc s=some (n,r) -> -4611686018427387903<=n/\n<=4611686018427387903
 | 0,_,_,_,_,_,_,_,h=>by cases h
 | g+1,j,acc,[],n,r,_,_,h=>by cases h
 | g+1,j,acc,b::s,n,r,hg,ha,h=>by
  by_cases h1:128<=b.toNat
  ·rw [zed h1] at h
   exact zei g (j+1) _ s n r (by omega) (zdf ha (Nat.mod_lt _ (by decide))) h
  ·rw [zeb h1] at h
   have hz:=zdf (x:=b.toNat) ha (by omega);have h63:2 ^ (7*(j+1))<=2 ^ 63:=Nat.pow_le_pow_right (by decide) (by omega);generalize acc+b.toNat*2 ^ (7*j)=z at h hz;split at h
   ·cases h
   ·rename_i hn
    injection h with h
    injection h with h _
    subst h;simp only [not_or,Int.not_lt] at hn;refine ⟨hn.2,?_⟩;unfold zl8;split <;> omega
theorem zi2 {s:Bs} {n:Int} {r:Bs} (h:zex s=some (n,r)):-4611686018427387903<=n/\n<=4611686018427387903:=zei 9 0 0 s n r rfl (by decide) h
theorem zi5 {s:Bs} {a:Nat} {n:Int} {r:Bs} (h:zex (s.drop a)=some (n,r)):∃ b,a < b/\b<=s.length/\r=s.drop b:=zfj s 9 0 0 a n r h
abbrev St:=Except Int Bs
def mR {α:Type} (z:α) (f:Rb α):St -> α × St
 | .error e=>(z,.error e)
 | .ok r=>match f r with
  | .ok x=>(x.1,.ok x.2)
  | .error e=>(z,.error e)
def mI:St -> Int × St:=mR 0 rbI
def mS:St -> Bs × St:=mR [] rbS
def mN {α:Type} (el:St -> α × St):Nat -> St -> List α × St
 | 0,st=>([],st)
 | _+1,.error e=>([],.error e)
 | k+1,.ok r=>((el (.ok r)).1::(mN el k (el (.ok r)).2).1,(mN el k (el (.ok r)).2).2)
def mL {α:Type} (most:Int) (el:St -> α × St):St -> List α × St:=fun st=>
 match (mI st).2 with
 | .error e=>([],.error e)
 | .ok r=>if (mI st).1 < 0 \/ most < (mI st).1 then ([],.error 30) else mN el (mI st).1.toNat (.ok r)
def mB:St -> Bk × St:=fun st=>
 let id:=mI st
 let kd:=mI id.2
 let tx:=mS kd.2
 let st:=mI tx.2
 let rf:=mI st.2
 let til:=mI rf.2
 let aft:=mL 64 mI til.2
 let app:=mI aft.2
 let den:=mI app.2
 (⟨id.1,kd.1,tx.1,st.1,rf.1,⟨til.1,aft.1,app.1,den.1⟩⟩,den.2)
structure Agree {α:Type} (el:St -> α × St) (f:Rb α):Prop where
 bad:∀ e,(el (.error e)).2=.error e
 good:∀ r x r',f r=.ok (x,r') -> el (.ok r)=(x,.ok r')
 fail:∀ r e,f r=.error e -> (el (.ok r)).2=.error e
theorem zj1 {α:Type} (z:α) (f:Rb α):Agree (mR z f) f:=by
 refine ⟨fun e=>rfl,fun r x r' h=>?_,fun r e h=>?_⟩
 ·simp [mR,h]
 ·simp [mR,h]
theorem zeI:Agree mI rbI:=zj1 _ _
theorem zmz:Agree mS rbS:=zj1 _ _
theorem zjq {α:Type} (el:St -> α × St) (k:Nat) (e:Int):mN el k (.error e)=([],.error e):=by cases k <;> rfl
theorem zhp {α:Type} {el:St -> α × St} {f:Rb α} (h:Agree el f):∀ (k:Nat),Agree (mN el k) (rbN f k)
 | 0=>⟨fun e=>rfl,fun r x r' hx=>by cases hx;rfl,fun r e hx=>by cases hx⟩
 | k+1=>by
  have ih:=zhp h k;refine ⟨fun e=>rfl,fun r x r' hx=>?_,fun r e hx=>?_⟩
  ·rw [rbN] at hx
   cases h1:f r with
   | error e=>rw [h1] at hx;cases hx
   | ok p=>
    obtain ⟨y,s⟩:=p;rw [h1] at hx;simp only at hx;cases h2:rbN f k s with
    | error e=>rw [h2] at hx;cases hx
    | ok q=>
     obtain ⟨l,t⟩:=q;rw [h2] at hx;cases hx
     rw [mN,h.good _ _ _ h1,ih.good _ _ _ h2]
  ·rw [rbN] at hx
   cases h1:f r with
   | error e'=>
    rw [h1] at hx;cases hx
    rw [mN,h.fail _ _ h1,zjq]
   | ok p=>
    obtain ⟨y,s⟩:=p;rw [h1] at hx;simp only at hx;cases h2:rbN f k s with
    | error e'=>
     rw [h2] at hx;cases hx
     rw [mN,h.good _ _ _ h1,ih.fail _ _ h2]
    | ok q=>rw [h2] at hx;cases hx
theorem zi6 {α:Type} {el:St -> α × St} {f:Rb α} (h:Agree el f) (most:Int):Agree (mL most el) (rbL most f):=by
 refine ⟨fun e=>rfl,fun r x r' hx=>?_,fun r e hx=>?_⟩
 ·unfold rbL at hx
  cases h1:rbI r with
  | error e=>rw [h1] at hx;cases hx
  | ok p=>
   obtain ⟨c,s⟩:=p;rw [h1] at hx;simp only at hx;unfold mL;rw [zeI.good _ _ _ h1];split at hx
   ·cases hx
   ·rename_i hc
    simp only [if_neg hc];exact (zhp h _).good _ _ _ hx
 ·unfold rbL at hx
  cases h1:rbI r with
  | error e'=>
   rw [h1] at hx;cases hx
   unfold mL;rw [zeI.fail _ _ h1]
  | ok p=>
   obtain ⟨c,s⟩:=p;rw [h1] at hx;simp only at hx;unfold mL;rw [zeI.good _ _ _ h1];split at hx
   ·rename_i hc
    cases hx
    simp only [if_pos hc]
   ·rename_i hc
    simp only [if_neg hc];exact (zhp h _).fail _ _ hx
theorem bind_ok {α β:Type} {f:Rb α} {g:α × Bs -> Except Int β} {r:Bs} {y:β} (h:(f r >>=g)=.ok y):∃ x s,f r=.ok (x,s)/\g (x,s)=.ok y:=by
 cases h1:f r with
 | error e=>rw [h1] at h;cases h
 | ok p=>rw [h1] at h;exact ⟨p.1,p.2,rfl,h⟩
theorem zcl {α β:Type} {f:Rb α} {g:α × Bs -> Except Int β} {r:Bs} {e:Int} (h:(f r >>=g)=.error e):f r=.error e \/ ∃ x s,f r=.ok (x,s)/\g (x,s)=.error e:=by
 cases h1:f r with
 | error e'=>rw [h1] at h;cases h;exact .inl rfl
 | ok p=>rw [h1] at h;exact .inr ⟨p.1,p.2,rfl,h⟩
theorem zmN:Agree mB rbB:=by
 have hI:=zeI;have hS:=zmz;have hL:=zi6 zeI 64;refine ⟨fun e=>rfl,fun r x r' hx=>?_,fun r e hx=>?_⟩
 ·unfold rbB at hx
  obtain ⟨y1,s1,e1,hx⟩:=bind_ok hx;obtain ⟨y2,s2,e2,hx⟩:=bind_ok hx;obtain ⟨y3,s3,e3,hx⟩:=bind_ok hx;obtain ⟨y4,s4,e4,hx⟩:=bind_ok hx;obtain ⟨y5,s5,e5,hx⟩:=bind_ok hx;obtain ⟨y6,s6,e6,hx⟩:=bind_ok hx;obtain ⟨y7,s7,e7,hx⟩:=bind_ok hx;obtain ⟨y8,s8,e8,hx⟩:=bind_ok hx;obtain ⟨y9,s9,e9,hx⟩:=bind_ok hx;cases hx
  unfold mB;simp only [hI.good _ _ _ e1,hI.good _ _ _ e2,hS.good _ _ _ e3,hI.good _ _ _ e4,hI.good _ _ _ e5,hI.good _ _ _ e6,hL.good _ _ _ e7,hI.good _ _ _ e8,hI.good _ _ _ e9]
 ·unfold rbB at hx
  unfold mB;rcases zcl hx with e1 | ⟨y1,s1,e1,hx⟩
  ·simp only [hI.fail _ _ e1,hI.bad,hS.bad,hL.bad]
  rcases zcl hx with e2 | ⟨y2,s2,e2,hx⟩
  ·simp only [hI.good _ _ _ e1,hI.fail _ _ e2,hI.bad,hS.bad,hL.bad]
  rcases zcl hx with e3 | ⟨y3,s3,e3,hx⟩
  ·simp only [hI.good _ _ _ e1,hI.good _ _ _ e2,hS.fail _ _ e3,hI.bad,hL.bad]
  rcases zcl hx with e4 | ⟨y4,s4,e4,hx⟩
  ·simp only [hI.good _ _ _ e1,hI.good _ _ _ e2,hS.good _ _ _ e3,hI.fail _ _ e4,hI.bad,hL.bad]
  rcases zcl hx with e5 | ⟨y5,s5,e5,hx⟩
  ·simp only [hI.good _ _ _ e1,hI.good _ _ _ e2,hS.good _ _ _ e3,hI.good _ _ _ e4,hI.fail _ _ e5,hI.bad,hL.bad]
  rcases zcl hx with e6 | ⟨y6,s6,e6,hx⟩
  ·simp only [hI.good _ _ _ e1,hI.good _ _ _ e2,hS.good _ _ _ e3,hI.good _ _ _ e4,hI.good _ _ _ e5,hI.fail _ _ e6,hI.bad,hL.bad]
  rcases zcl hx with e7 | ⟨y7,s7,e7,hx⟩
  ·simp only [hI.good _ _ _ e1,hI.good _ _ _ e2,hS.good _ _ _ e3,hI.good _ _ _ e4,hI.good _ _ _ e5,hI.good _ _ _ e6,hL.fail _ _ e7,hI.bad]
  rcases zcl hx with e8 | ⟨y8,s8,e8,hx⟩
  ·simp only [hI.good _ _ _ e1,hI.good _ _ _ e2,hS.good _ _ _ e3,hI.good _ _ _ e4,hI.good _ _ _ e5,hI.good _ _ _ e6,hL.good _ _ _ e7,hI.fail _ _ e8,hI.bad]
  rcases zcl hx with e9 | ⟨y9,s9,e9,hx⟩
  ·simp only [hI.good _ _ _ e1,hI.good _ _ _ e2,hS.good _ _ _ e3,hI.good _ _ _ e4,hI.good _ _ _ e5,hI.good _ _ _ e6,hL.good _ _ _ e7,hI.good _ _ _ e8,hI.fail _ _ e9]
  ·cases hx
theorem zmw (s:Bs):(∃ l,mL 24 mB (.ok s)=(l,.ok [])/\zdt l=true/\zgm s=.ok l) ∨
  (((∃ e,(mL 24 mB (.ok s)).2=.error e) \/ (∃ b r,(mL 24 mB (.ok s)).2=.ok (b::r)) \/ ((mL 24 mB (.ok s)).2=.ok []/\zdt (mL 24 mB (.ok s)).1=false))/\∃ e,zgm s=.error e):=by
 have hL:=zi6 zmN 24;unfold zgm;cases h:rbL 24 rbB s with
 | error e=>exact .inr ⟨.inl ⟨e,hL.fail _ _ h⟩,e,rfl⟩
 | ok p=>
  obtain ⟨l,r⟩:=p;have h1:=hL.good _ _ _ h;rw [h1];cases r with
  | cons b r=>exact .inr ⟨.inr (.inl ⟨b,r,rfl⟩),10,rfl⟩
  | nil=>
   simp only [List.isEmpty_nil,Bool.not_true,Bool.false_eq_true,if_false];cases hv:zdt l with
   | true=>exact .inl ⟨l,rfl,hv,rfl⟩
   | false=>exact .inr ⟨.inr (.inr ⟨trivial,by first | exact hv | exact trivial | rfl⟩),30,by first | rfl | trivial⟩
end Scr
