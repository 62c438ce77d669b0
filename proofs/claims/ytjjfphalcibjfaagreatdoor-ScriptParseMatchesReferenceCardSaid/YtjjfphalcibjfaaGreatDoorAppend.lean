import Derived.Test.YtjjfphalcibjfaaGreatDoorTh2
import Derived.WalkSpells
import Derived.WalkLawsBesides
import Derived.Deep.DeepCutAuto
import Derived.BigQuiet
import Derived.Deep.RegionHeld3
import Derived.StillTailTactics
import Derived.Laws.AppendOwnNone
set_option maxRecDepth 100000
set_option maxHeartbeats 16000000
namespace Scr
theorem zcb {x:Bs} (s:Bs) (b:Bool) (h:(32:UInt8) ∉ x):zaL ⟨x++32::s,true,b⟩=(x,⟨s,true,b⟩):=by
 simp only [zaL,if_true,zdl s h]
theorem zbP {x:Bs} (b:Bool) (h:(32:UInt8) ∉ x):zaL ⟨x,true,b⟩=(x,⟨[],false,b⟩):=by
 simp only [zaL,if_true,zen h]
theorem zj7 (x:Bs) (b:Bool):zcu ⟨x,true,b⟩=(x,⟨x,false,b⟩):=rfl
theorem zb5 {n:Int} (h1:-4611686018427387903<=n) (h2:n<=4611686018427387903) (r:Rd):zbn (itoa n) r=(n,r):=by
 unfold zbn;rw [zkY (by omega) (by omega)]
theorem zmB {n:Int} (h1:-4611686018427387903<=n) (h2:n<=4611686018427387903) (s:Bs) (b:Bool):zbB ⟨itoa n++32::s,true,b⟩=(n,⟨s,true,b⟩):=by
 unfold zbB;rw [zcb s b (za3 n (by decide)),zb5 h1 h2]
theorem zlj {n:Int} (h1:-4611686018427387903<=n) (h2:n<=4611686018427387903) (b:Bool):zbB ⟨itoa n,true,b⟩=(n,⟨[],false,b⟩):=by
 unfold zbB;rw [zbP b (za3 n (by decide)),zb5 h1 h2]
theorem zgv:∀ (l:List Int) (r:Rd),(∀ x ∈ l,-4611686018427387903<=x/\x<=4611686018427387903) -> zbh (l.map itoa) r=(l,r)
 | [],r,_=>rfl
 | x::l,r,h=>by
  simp only [List.map_cons,zbh];rw [zb5 (h x (by simp)).1 (h x (by simp)).2];simp only;rw [zgv l r (fun y hy=>h y (by simp [hy]))]
theorem ze0 {c:UInt8} {l:List Bs} (h:l ≠ []) (hl:∀ x ∈ l,(42:UInt8) ∉ x/\x ≠ []):join c l ≠ [42]:=by
 intro e
 match l,h,hl with
 | [x],_,hl=>
  simp only [join] at e;exact (hl x (by simp)).1 (by rw [e];simp)
 | x::y::r,_,hl=>
  simp only [join] at e;have hx:=hl x (by simp);cases x with
  | nil=>exact hx.2 rfl
  | cons d x=>
   have:=congrArg List.length e;simp at this
theorem zf6 (l:List Int) (r:Rd) (h:∀ x ∈ l,-4611686018427387903<=x/\x<=4611686018427387903):numsOf (listW (l.map itoa)) r=(l,r):=by
 cases l with
 | nil=>rfl
 | cons x l=>
  have hne:(x::l).map itoa ≠ []:=by simp
  have hi:((x::l).map itoa).isEmpty=false:=rfl;have hm:∀ y ∈ (x::l).map itoa,(42:UInt8) ∉ y/\y ≠ []:=fun y hy=>by
   obtain ⟨z,-,rfl⟩:=List.mem_map.1 hy;exact ⟨za3 z (by decide),zlv z⟩
  unfold listW numsOf;rw [hi];simp only [Bool.false_eq_true,if_false]
  rw [if_neg (ze0 hne hm),zdg hne (fun y hy=>by
   obtain ⟨z,-,rfl⟩:=List.mem_map.1 hy
   exact za3 z (by decide)),zgv _ _ h]
theorem zhQ {l:List Bs} {k:UInt8} (h1:k ≠ 42) (h2:k ≠ 44) (h:∀ x ∈ l,k ∉ x):k ∉ listW l:=by
 unfold listW;split
 ·simpa using h1
 ·exact zgT h2 h
theorem zd1 (l:List Int) {k:UInt8} (hk:k.toNat < 42 \/ k.toNat=47):k ∉ listW (l.map itoa):=
 zhQ (by rintro rfl;simp at hk) (by rintro rfl;simp at hk) (fun x hx=>by
  obtain ⟨z,-,rfl⟩:=List.mem_map.1 hx
  exact za3 z (by omega))
theorem zfG {s:Bs} (h:zbT s=true):s ≠ []/\s.length<=20/\∀ c ∈ s,zd8 c=true:=by
 unfold zbT at h;simp only [Bool.and_eq_true,decide_eq_true_eq,List.all_eq_true] at h;refine ⟨?_,h.2.1,h.2.2⟩;rintro rfl;simp at h
theorem zfu {s:Bs} (h:zbT s=true) {k:UInt8} (hk:zd8 k=false):k ∉ s:=fun hm=>by
 rw [(zfG h).2.2 k hm] at hk;cases hk
theorem znj {s:Bs} (h:zdL s=true):s ≠ []/\s.length<=300/\∀ c ∈ s,zdK c=true:=by
 unfold zdL zcF at h;simp only [Bool.and_eq_true,decide_eq_true_eq,List.all_eq_true] at h;refine ⟨?_,h.2.1,h.2.2⟩;rintro rfl;simp at h
theorem zjF:∀ {l:List Bs} {p:Bs},zn3 p l=true -> ∀ x ∈ l,zbT x=true
 | [],_,_,x,h=>by simp at h
 | y::l,p,h,x,hx=>by
  simp only [zn3,Bool.and_eq_true] at h;rcases List.mem_cons.1 hx with rfl | hx
  ·exact h.1
  ·exact zjF h.2.2 x hx
theorem zcm {l:List Bs} (h:vTp l=true):l.length<=4/\∀ x ∈ l,zbT x=true:=by
 unfold vTp at h;simp only [Bool.and_eq_true,decide_eq_true_eq] at h;refine ⟨h.1,fun x hx=>?_⟩;cases l with
 | nil=>simp at hx
 | cons t r=>
  simp only [Bool.and_eq_true] at h;rcases List.mem_cons.1 hx with rfl | hx
  ·exact h.2.1
  ·exact zjF h.2.2 x hx
theorem zgX {l:List Bs} (h:vTp l=true):textsOf (listW l)=l:=by
 have hm:=(zcm h).2;cases hl:l with
 | nil=>rfl
 | cons x l'=>
  have hne:l ≠ []:=by rw [hl];simp
  rw [<- hl];have hi:l.isEmpty=false:=by rw [hl];rfl
  unfold listW textsOf;rw [hi];simp only [Bool.false_eq_true,if_false];rw [if_neg (ze0 hne (fun y hy=>⟨zfu (hm y hy) (by decide),(zfG (hm y hy)).1⟩)),zdg hne (fun y hy=>zfu (hm y hy) (by decide))]
theorem zge {l:List Bs} (h:vTp l=true) {k:UInt8} (h1:k ≠ 42) (h2:k ≠ 44) (hk:zd8 k=false):k ∉ listW l:=zhQ h1 h2 (fun x hx=>zfu ((zcm h).2 x hx) hk)
theorem zdr {l:Lb} (h:GoodLb l) (r:Rd):labelOf (labelW l) r=(l,r):=by
 obtain ⟨h1,h2,h3,h4,h5⟩:=h;obtain ⟨til,aft,app,den⟩:=l;unfold labelW;simp only at h1 h2 h3 h4 h5 ⊢;split
 ·rename_i h
  obtain ⟨rfl,rfl,rfl,rfl⟩:=h
  rfl
 ·unfold labelOf
  have hne:join 47 [itoa til,listW (aft.map itoa),itoa app,itoa den] ≠ [42]:=by
   simp only [join];intro e;have:=congrArg List.length e;simp only [List.length_append,List.length_cons,List.length_nil] at this;omega
  rw [if_neg hne,zdg (by simp) (fun x hx=>by
   simp only [List.mem_cons,List.not_mem_nil,or_false] at hx;rcases hx with rfl | rfl | rfl | rfl
   ·exact za3 _ (by decide)
   ·exact zd1 _ (by decide)
   ·exact za3 _ (by decide)
   ·exact za3 _ (by decide))]
  simp only;rw [zb5 (by omega) (by omega)];simp only;rw [zf6 _ _ (fun x hx=>by have:=h5 x hx;omega)];simp only;rw [zb5 (by omega) (by omega)];simp only;rw [zb5 (by omega) (by omega)]
theorem zet (l:Lb) {k:UInt8} (hk:k.toNat < 42):k ∉ labelW l:=by
 unfold labelW;split
 ·simp only [List.mem_singleton]
  rintro rfl;simp at hk
 ·refine zgT (by rintro rfl;simp at hk) (fun x hx=>?_)
  simp only [List.mem_cons,List.not_mem_nil,or_false] at hx;rcases hx with rfl | rfl | rfl | rfl
  ·exact za3 _ (by omega)
  ·exact zd1 _ (by omega)
  ·exact za3 _ (by omega)
  ·exact za3 _ (by omega)
theorem zki {l:Lb} (h:GoodLb l) (s:Bs) (b:Bool):zbK ⟨labelW l++32::s,true,b⟩=(l,⟨s,true,b⟩):=by
 unfold zbK;rw [zcb s b (zet l (by decide)),zdr h]
theorem ziL {l:Lb} (h:GoodLb l) (b:Bool):zbK ⟨labelW l,true,b⟩=(l,⟨[],false,b⟩):=by
 unfold zbK;rw [zbP b (zet l (by decide)),zdr h]
theorem zmw (x s:Bs) (b:Bool):zfp ⟨hexW x++32::s,true,b⟩=(x,⟨s,true,b⟩):=by
 unfold zfp;rw [zcb s b (zgY x (by decide)),zgp]
theorem zk8 (x:Bs) (b:Bool):zfp ⟨hexW x,true,b⟩=(x,⟨[],false,b⟩):=by
 unfold zfp;rw [zbP b (zgY x (by decide)),zgp]
theorem zkI {l:List Int} (h:∀ x ∈ l,-4611686018427387903<=x/\x<=4611686018427387903) (b:Bool):zfM ⟨listW (l.map itoa),true,b⟩=(l,⟨[],false,b⟩):=by
 unfold zfM;rw [zbP b (zd1 l (by decide)),zf6 l _ h]
theorem zeF {l:List Int} {m:Nat} {t:Int} (h:zg5 l m t=true):l.length<=m/\∀ x ∈ l,0<=x/\x<=t:=by
 unfold zg5 at h;simp only [Bool.and_eq_true,decide_eq_true_eq,List.all_eq_true,zam] at h;exact h
theorem zjP {s:Bs} {a b c:Nat} (h:zf7 s a b c=true):a<=s.length/\s.length<=b/\∀ x ∈ s,c<=x.toNat/\x.toNat<=126:=by
 unfold zf7 at h;simp only [Bool.and_eq_true,decide_eq_true_eq,List.all_eq_true] at h;exact h
def Pr (l:Bs):Prop:=∀ c ∈ l,32<=c.toNat/\c.toNat<=126
theorem Pr.app {a b:Bs} (h:Pr a) (k:Pr b):Pr (a++b):=fun c hc=>by
 rcases List.mem_append.1 hc with hc | hc
 ·exact h c hc
 ·exact k c hc
theorem Pr.join {k:UInt8} (hk:32<=k.toNat/\k.toNat<=126):∀ {l:List Bs},(∀ x ∈ l,Pr x) -> Pr (join k l)
 | [],_=>fun c hc=>by simp [Scr.join] at hc
 | [x],h=>by simp only [Scr.join];exact h x (by simp)
 | x::y::r,h=>by
  simp only [Scr.join];refine (h x (by simp)).app (fun c hc=>?_);rcases List.mem_cons.1 hc with rfl | hc
  ·exact hk
  ·exact Pr.join hk (l:=y::r) (fun z hz=>h z (by simp [hz])) c hc
theorem Pr.itoa (n:Int):Pr (itoa n):=fun c hc=>by
 have:=zjG n c hc
 unfold zpf zmf at this
 omega
theorem Pr.nm {s:Bs} (h:zbT s=true):Pr s:=fun c hc=>by
 have:=(zfG h).2.2 c hc
 unfold zd8 at this
 simp only [Bool.or_eq_true,Bool.and_eq_true,decide_eq_true_eq] at this
 omega
theorem zm1 {c:UInt8}:zdK c=true ↔ 32<=c.toNat/\c.toNat<=126:=by unfold zdK;simp
theorem Pr.tx {s:Bs} (h:zdL s=true):Pr s:=fun c hc=>zm1.1 ((znj h).2.2 c hc)
theorem Pr.hexW (s:Bs):Pr (hexW s):=fun c hc=>by
 by_cases h:s=[]
 ·subst h
  have:c=42:=by simpa [Scr.hexW] using hc
  subst this;decide
 ·rw [(zd5 h).1] at hc
  have:=zjL s c hc
  unfold zpg at this
  omega
theorem Pr.listW {l:List Bs} (h:∀ x ∈ l,Pr x):Pr (listW l):=by
 unfold Scr.listW;split
 ·intro c hc
  simp only [List.mem_singleton] at hc;subst hc;decide
 ·exact Pr.join (by decide) h
theorem Pr.nums (l:List Int):Pr (Scr.listW (l.map Scr.itoa)):=Pr.listW (fun x hx=>by
 obtain ⟨z,-,rfl⟩:=List.mem_map.1 hx
 exact Pr.itoa z)
theorem Pr.labelW (l:Lb):Pr (labelW l):=by
 unfold Scr.labelW;split
 ·intro c hc
  simp only [List.mem_singleton] at hc;subst hc;decide
 ·refine Pr.join (by decide) (fun x hx=>?_)
  simp only [List.mem_cons,List.not_mem_nil,or_false] at hx;rcases hx with rfl | rfl | rfl | rfl
  ·exact Pr.itoa _
  ·exact Pr.nums _
  ·exact Pr.itoa _
  ·exact Pr.itoa _
theorem Pr.ts {s:Bs} {a b c:Nat} (h:zf7 s a b c=true) (hc:32<=c):Pr s:=fun x hx=>by
 have:=(zjP h).2.2 x hx
 omega
def znf (a:Ac):Prop:=∃ j f,zcW a.kd a.fc.kd 0 forms=some (j,f)/\zbt f.wd 0 forms=some (j,f)/\(32:UInt8) ∉ f.wd/\f.kd=a.kd/\f.fk=a.fc.kd/\f.wd ≠ []/\(∀ c ∈ f.wd,zd8 c=true)/\(∀ y ∈ zal j a,Pr y) ∧
 ∃ x r,za8 j (zaL ⟨line a,true,false⟩).2=(x,r)/\r.bad=false/\r.more=false/\({ x with kd:=a.kd,fc:={ x.fc with kd:=a.fc.kd } }:Ac)=a
theorem zoG:∀ y ∈ ([]:List Bs),Pr y:=fun y h=>by cases h
theorem zn1 {x:Bs} {l:List Bs} (h:Pr x) (hl:∀ y ∈ l,Pr y):∀ y ∈ x::l,Pr y:=fun y hy=>by
 rcases List.mem_cons.1 hy with rfl | hy
 ·exact h
 ·exact hl y hy
theorem zpn {s:Bs} (h:zf7 s 1 100 33=true):(32:UInt8) ∉ s:=fun k=>by have:=(zjP h).2.2 _ k;simp at this
theorem zpk {l:List Int} {m:Nat} {t:Int} (h:zg5 l m t=true) (ht:t<=1000):∀ x ∈ l,-4611686018427387903<=x/\x<=4611686018427387903:=fun x hx=>by have:=(zeF h).2 x hx;omega
theorem zaZ {a:Ac} {j:Nat} {f:Fm} (hf:zcW a.kd a.fc.kd 0 forms=some (j,f)) (hp:∀ y ∈ zal j a,Pr y)
  (hr:∃ x r,za8 j (zaL ⟨join 32 (f.wd::zal j a),true,false⟩).2=(x,r)/\r.bad=false/\r.more=false/\({ x with kd:=a.kd,fc:={ x.fc with kd:=a.fc.kd } }:Ac)=a)
  (h1:zbt f.wd 0 forms=some (j,f):=by rfl) (h2:(32:UInt8) ∉ f.wd:=by decide) (h3:f.kd=a.kd:=by rfl) (h4:f.fk=a.fc.kd:=by rfl) (h5:f.wd ≠ []:=by decide) (h6:∀ c ∈ f.wd,zd8 c=true:=by decide):znf a:=by
 have e:line a=join 32 (f.wd::zal j a):=by unfold line;simp only [hf]
 exact ⟨j,f,hf,h1,h2,h3,h4,h5,h6,hp,by rw [e];exact hr⟩
theorem znN {a:Ac} (h:vAc a=true):znf a:=by
 obtain ⟨kd,fc,n,cl,tx,fa,ke,ms⟩:=a;unfold vAc at h;simp only [Bool.and_eq_true,decide_eq_true_eq] at h;obtain ⟨h,he⟩:=h;unfold zaS at h;unfold zfE at he;simp only at h he;repeat' split at h
 all_goals rename_i hk
 rotate_right
 ·cases h
 all_goals (subst hk;simp (config:={ decide:=true }) only [if_true,if_false,Ac.mk.injEq,Ac.zero,true_and,and_true] at he)
 all_goals (try simp only [Bool.and_eq_true,zam,decide_eq_true_eq,Bool.not_eq_true',decide_eq_false_iff_not] at h)
 case' isTrue=>
  obtain ⟨rfl,rfl,rfl,rfl,rfl,rfl⟩:=he;obtain ⟨h1,h2,h3,h4⟩:=h;obtain ⟨n,tm,kd,st,lg,rv,bs,ti,au,tp,bl,lb,ed,bk,se,tx,nm,pa,cl,un⟩:=fc;simp only at h1 h2 h3;subst h1 h2;unfold vFc zaO at h4;simp only [Bool.and_eq_true,zam,decide_eq_true_eq] at h4;obtain ⟨-,-,hv,hz⟩:=h4;repeat' split at hv
  all_goals rename_i hq
  rotate_right
  ·cases hv
  all_goals (first | replace hq:=hq.resolve_right h3 | skip)
  all_goals subst hq
  all_goals (simp (config:={ decide:=true }) only [Bool.and_eq_true,zam,if_true,if_false,Fc.mk.injEq,Fc.zero,true_and,and_true] at hv hz)
  obtain ⟨hst,hlg,hrv,hbs,hti,hau,htp,hbl,hlb⟩:=hv;obtain ⟨rfl,rfl,rfl,rfl,rfl,rfl,rfl,rfl⟩:=hz;refine zaZ (j:=0) (f:=⟨1,1,fRevise⟩) rfl ?_ ?_
  rotate_left 2
  obtain ⟨hst,hed⟩:=hv;obtain ⟨rfl,rfl,rfl,rfl,rfl,rfl,rfl,rfl,rfl,rfl,rfl,rfl,rfl,rfl,rfl⟩:=hz;refine zaZ (j:=1) (f:=⟨1,2,fApprove⟩) rfl ?_ ?_
  rotate_left 2
  obtain ⟨hst,hlb⟩:=hv;obtain ⟨rfl,rfl,rfl,rfl,rfl,rfl,rfl,rfl,rfl,rfl,rfl,rfl,rfl,rfl,rfl⟩:=hz;refine zaZ (j:=2) (f:=⟨1,3,fPublish⟩) rfl ?_ ?_
  rotate_left 2
  obtain ⟨hst,hlg,hbk,hse,htx⟩:=hv;obtain ⟨rfl,rfl,rfl,rfl,rfl,rfl,rfl,rfl,rfl,rfl,rfl,rfl⟩:=hz;refine zaZ (j:=3) (f:=⟨1,4,fCorrect⟩) rfl ?_ ?_
  rotate_left 2
  obtain ⟨hst,htx⟩:=hv;obtain ⟨rfl,rfl,rfl,rfl,rfl,rfl,rfl,rfl,rfl,rfl,rfl,rfl,rfl,rfl,rfl⟩:=hz;refine zaZ (j:=4) (f:=⟨1,5,fRetract⟩) rfl ?_ ?_
  rotate_left 2
  obtain ⟨rfl,rfl,rfl,rfl,rfl,rfl,rfl,rfl,rfl,rfl,rfl,rfl,rfl,rfl,rfl,rfl⟩:=hz;refine zaZ (j:=5) (f:=⟨1,6,fTakedown⟩) rfl ?_ ?_
  rotate_left 2
  obtain ⟨hnm,hso⟩:=hv;obtain ⟨rfl,rfl,rfl,rfl,rfl,rfl,rfl,rfl,rfl,rfl,rfl,rfl,rfl,rfl,rfl⟩:=hz;refine zaZ (j:=6) (f:=⟨1,7,fTemplate⟩) rfl ?_ ?_
  rotate_left 2
  obtain ⟨⟨hpa,hun⟩,hcl⟩:=hv;obtain ⟨rfl,rfl,rfl,rfl,rfl,rfl,rfl,rfl,rfl,rfl,rfl,rfl,rfl,rfl⟩:=hz;refine zaZ (j:=7) (f:=⟨1,8,fPartner⟩) rfl ?_ ?_
  rotate_left 2
  obtain ⟨hpa,hun⟩:=hv;obtain ⟨rfl,rfl,rfl,rfl,rfl,rfl,rfl,rfl,rfl,rfl,rfl,rfl,rfl,rfl,rfl⟩:=hz;refine zaZ (j:=8) (f:=⟨1,9,fLease⟩) rfl ?_ ?_
  rotate_left 2
 rotate_left 18
 obtain ⟨rfl,rfl,rfl,rfl,rfl,rfl⟩:=he;refine zaZ (j:=9) (f:=⟨2,0,fTick⟩) rfl ?_ ?_
 rotate_left 2
 obtain ⟨rfl,rfl,rfl,rfl,rfl,rfl⟩:=he;refine zaZ (j:=10) (f:=⟨3,0,fClock⟩) rfl ?_ ?_
 rotate_left 2
 obtain ⟨rfl,rfl,rfl,rfl,rfl,rfl⟩:=he;refine zaZ (j:=12) (f:=⟨4,0,fFates⟩) rfl ?_ ?_
 rotate_left 2
 obtain ⟨rfl,rfl,rfl,rfl,rfl⟩:=he;obtain ⟨h1,h2⟩:=h;refine zaZ (j:=13) (f:=⟨5,0,fCrash⟩) rfl ?_ ?_
 rotate_left 2
 obtain ⟨rfl,rfl,rfl,rfl,rfl⟩:=he;obtain ⟨h1,h2⟩:=h;refine zaZ (j:=15) (f:=⟨6,0,fGet⟩) rfl ?_ ?_
 rotate_left 2
 obtain ⟨rfl,rfl,rfl,rfl⟩:=he;obtain ⟨h1,h2,h3⟩:=h;refine zaZ (j:=16) (f:=⟨7,0,fSearch⟩) rfl ?_ ?_
 rotate_left 2
 obtain ⟨rfl,rfl,rfl,rfl,rfl,rfl⟩:=he;refine zaZ (j:=17) (f:=⟨8,0,fForge⟩) rfl ?_ ?_
 rotate_left 2
 obtain ⟨rfl,rfl,rfl,rfl,rfl,rfl,rfl⟩:=he;refine zaZ (j:=14) (f:=⟨9,0,fCheck⟩) rfl ?_ ?_
 rotate_left 2
 obtain ⟨rfl,rfl,rfl,rfl,rfl,rfl⟩:=he;refine zaZ (j:=11) (f:=⟨10,0,fCut⟩) rfl ?_ ?_
 rotate_left 2
 all_goals simp only [zal,join,Fc.zero]
 all_goals first
  | ((repeat (first | exact zoG | refine zn1 (by first | exact Pr.itoa _ | exact Pr.nm (by assumption) | exact Pr.tx (by assumption) | exact Pr.labelW _ | exact Pr.hexW _ | exact Pr.nums _ | exact Pr.ts (by assumption) (by decide) | exact Pr.listW (fun x hx=>Pr.nm ((zcm (by assumption)).2 x hx))) ?_));done)
  | ((first | rw [zcb _ _ (by decide)] | rw [zbP _ (by decide)]);simp only [za8];(repeat (first | rw [zmB (by omega) (by omega)] | rw [zlj (by omega) (by omega)] | rw [zcb _ _ (zfu (by assumption) (by decide))] | rw [zcb _ _ (zge (by assumption) (by decide) (by decide) (by decide))] | rw [zki (zcI (by assumption))] | rw [ziL (zcI (by assumption))] | rw [zmw] | rw [zk8] | rw [zfj (by assumption)] | rw [zh1 (by assumption)] | rw [zj7] | rw [zgX (by assumption)] | rw [zkI (zpk (by assumption) (by decide))] | rw [zbP _ (zpn (by assumption))] | simp only));exact ⟨_,_,rfl,rfl,rfl,rfl⟩)
theorem ziC {a:Ac} (h:vAc a=true):zbd (line a)=some a:=by
 obtain ⟨j,f,h1,h2,h3,h4,h5,h6,h7,-,x,r,h8,h9,h10,h11⟩:=znN h;have hw:(zaL ⟨line a,true,false⟩).1=f.wd:=by
  unfold line;rw [h1];simp only;cases hl:zal j a with
  | nil=>simp only [join];rw [zbP _ h3]
  | cons y l=>simp only [join];rw [zcb _ _ h3]
 unfold zbd;simp only [hw,h2,h8,h9,h10,h4,h5,h11,h];simp
theorem zcG {t:Bs} {a:Ac} (h:zbd t=some a):vAc a=true/\line a=t:=by
 unfold zbd at h;simp only at h;split at h
 ·cases h
 ·split at h
  ·cases h
  ·rename_i hn
   injection h with h
   rw [h] at hn;simp at hn;exact hn.2.2
theorem ziA {t:Bs}:zbd t=none ↔ ∀ a,vAc a=true -> line a ≠ t:=by
 constructor
 ·intro h a ha e
  have:=ziC ha;rw [e,h] at this;cases this
 ·intro h
  cases ho:zbd t with
  | none=>rfl
  | some a=>exact absurd (zcG ho).2 (h a (zcG ho).1)
end Scr
namespace Go.RowKit
theorem Hid.o {p:Prop} (h:Hid p):p:=h
end Go.RowKit
namespace Cdk
open Go Go.RowKit
theorem Y {p:Prop} (h:p):Hid p:=h
structure Mod (S:Nat -> Prop) (w w':World):Prop where
 os:w'.os=w.os
 tape:w'.tape=w.tape
 output:w'.output=w.output
 size:w.heap.size<=w'.heap.size
 block:∀ k,k < w.heap.size -> ¬ S k -> w'.heap[k]?=w.heap[k]?
abbrev Ext (w w':World):Prop:=Mod (fun _=>False) w w'
variable {S T:Nat -> Prop} {w w' w'':World}
theorem Mod.refl (S:Nat -> Prop) (w:World):Mod S w w:=⟨rfl,rfl,rfl,Nat.le_refl _,fun _ _ _=>rfl⟩
theorem Mod.trans (h:Mod S w w') (k:Mod S w' w''):Mod S w w'':=
 ⟨k.os.trans h.os,k.tape.trans h.tape,k.output.trans h.output,Nat.le_trans h.size k.size,fun i hi hs=>(k.block i (Nat.lt_of_lt_of_le hi h.size) hs).trans (h.block i hi hs)⟩
theorem Mod.mono (h:Mod S w w') (hST:∀ k,S k -> T k):Mod T w w':=
 ⟨h.os,h.tape,h.output,h.size,fun k hk hs=>h.block k hk (fun hS=>hs (hST k hS))⟩
theorem Mod.mono' (h:Mod S w w') (hST:∀ k,k < w.heap.size -> S k -> T k):Mod T w w':=
 ⟨h.os,h.tape,h.output,h.size,fun k hk hs=>h.block k hk (fun hS=>hs (hST k hk hS))⟩
theorem Mod.then (h:Mod S w w') (k:Mod T w' w'') (hT:∀ k,k < w.heap.size -> T k -> S k):Mod S w w'':=
 ⟨k.os.trans h.os,k.tape.trans h.tape,k.output.trans h.output,Nat.le_trans h.size k.size,
  fun i hi hs=>(k.block i (Nat.lt_of_lt_of_le hi h.size) (fun t=>hs (hT i hi t))).trans (h.block i hi hs)⟩
theorem Mod.drew (h:Mod S w w'):Mod S w w'.drew:=⟨h.os,h.tape,h.output,h.size,h.block⟩
theorem Mod.drew0 (S:Nat -> Prop) (w:World):Mod S w w.drew:=(Mod.refl S w).drew
theorem Mod.ofDrewN (h:Mod S w w') (n:Nat):Mod S w (w'.drewN n):=⟨h.os,h.tape,h.output,h.size,h.block⟩
theorem Mod.alloc (h:Mod S w w') (o:Obj):Mod S w (w'.alloc o):=
 ⟨h.os,h.tape,h.output,Nat.le_trans h.size (by simp),fun k hk hs=>by
  rw [Below.heap_alloc w' o k (Nat.lt_of_lt_of_le hk h.size)];exact h.block k hk hs⟩
theorem Mod.setCell (h:Mod S w w') {a:Addr} (ha:a.block < w.heap.size -> S a.block) (u:Value):Mod S w (w'.setCell a u):=
 ⟨h.os,h.tape,h.output,by simpa [World.setCell] using h.size,fun k hk hs=>by
  rw [Below.heap_setCell w' a u k (fun e=>hs (e ▸ ha (e ▸ hk)))];exact h.block k hk hs⟩
theorem Mod.ofGrown {row:Option Nat} (hg:w.grownBy w' row) (hr:∀ k,row=some k -> S k):Mod S w w':=
 ⟨hg.os,hg.tape,hg.output,hg.size,fun k hk hs=>hg.block k hk (fun e=>hs (hr k e.symm))⟩
theorem Mod.ofBelow (h:Below w.heap.size w w'):Mod S w w':=⟨h.os,h.tape,h.output,h.size,fun k hk _=>h.block k hk⟩
theorem Mod.below (h:Mod S w w') {B:Nat} (hB:B<=w.heap.size) (hS:∀ k,S k -> B<=k):Below B w w':=
 ⟨h.os,h.tape,h.output,h.size,fun k hk=>h.block k (Nat.lt_of_lt_of_le hk hB) (fun hs=>by have:=hS k hs;omega)⟩
theorem Mod.at {o:Obj} (h:Mod S w w') {k:Nat} (hk:w.heap[k]?=some o) (hs:¬ S k):w'.heap[k]?=some o:=by
 rw [h.block k (Array.getElem?_eq_some_iff.1 hk).1 hs];exact hk
theorem Mod.cell (h:Mod S w w') {a:Addr} {v:Value} (hc:w.cell? a=some v) (hs:¬ S a.block):w'.cell? a=some v:=by
 rw [World.cell?_of_block (h.block a.block (World.block_lt_of_cell? w a hc) hs)];exact hc
theorem zas {o:Obj} {k:Nat} (hk:w.heap[k]?=some o):k < w.heap.size:=(Array.getElem?_eq_some_iff.1 hk).1
theorem zaG (w:World) (o:Obj) (k:Nat):(w.alloc o).heap[k]?=if k=w.heap.size then some o else w.heap[k]?:=by
 show (w.heap.push o)[k]?=_
 rw [Array.getElem?_push]
end Cdk
namespace Cdk
open Go Go.RowKit
theorem sA {α:Type _} (l:List α) (i:Nat) (a:α):l.toArray.setIfInBounds i a=(l.set i a).toArray:=List.setIfInBounds_toArray l i a
theorem sZ {α:Type _} {x:α} {xs:List α} {a:α}:(x::xs).set 0 a=a::xs:=rfl
theorem sS {α:Type _} {x:α} {xs:List α} {i:Nat} {a:α}:(x::xs).set (i+1) a=x::xs.set i a:=rfl
abbrev zA9:Array Value:=#[.int .i64 0,.int .i64 0,.int .i64 0,.int .i64 0,.int .i64 0,.string ⟨#[]⟩,.int .i64 0,.int .i64 0,.string ⟨#[]⟩,.string ⟨#[]⟩,.slice none 0 0,.slice none 0 0,.int .i64 0,.slice none 0 0,.int .i64 0,.int .i64 0,.int .i64 0,.int .i64 0,.int .i64 0,.string ⟨#[]⟩,.string ⟨#[]⟩,.int .i64 0,.int .i64 0,.int .i64 0,.int .i64 0,.int .i64 0,.string ⟨#[]⟩,.slice none 0 0,.slice none 0 0,.int .i64 0,.int .i64 0,.int .i64 0,.int .i64 0,.int .i64 0,.int .i64 0,.string ⟨#[]⟩]
abbrev zF9:Array Value:=#[.int .i64 0,.int .i64 0,.int .i64 0,.int .i64 0,.string ⟨#[]⟩,.int .i64 0,.int .i64 0,.string ⟨#[]⟩,.string ⟨#[]⟩,.slice none 0 0,.slice none 0 0,.int .i64 0,.slice none 0 0,.int .i64 0,.int .i64 0,.int .i64 0,.int .i64 0,.int .i64 0,.string ⟨#[]⟩,.string ⟨#[]⟩,.int .i64 0,.int .i64 0,.int .i64 0]
set_option linter.unusedSectionVars false
theorem znc (a b:ByteArray):(a==b)=decide (a=b):=by
 cases a with | mk a=>cases b with | mk b=>
 show (a==b)=_
 simp only [ByteArray.mk.injEq]
 by_cases h:a=b
 ·subst h;simp
 ·have:(a==b)=false:=by simp [h]
  rw [this];simp [h]
instance:LawfulBEq ByteArray where
 eq_of_beq:=fun {a b} h=>by rw [znc] at h;simpa using h
 rfl:=fun {a}=>by rw [znc];simp
section
variable {K:Type} [DecidableEq K]
structure KeyOk (P:Program) (kt:TypeId) (mk:K -> Value):Prop where
 inj:∀ a b,mk a=mk b -> a=b
 und:∃ desc,P.underlying kt=some desc/\(∀ a b,Instr.sameNow desc (mk a) (mk b)=some (decide (a=b))) ∧
  (∀ (e:Bool) (n:Nat) (a:K) (w:World),(Instr.checkKey e (n+1) kt (mk a)).run P w=.ok () w)
 bits:∀ a,Instr.sameBits 10000 (mk a) (mk a)=true
theorem zd3 {P:Program} {kt:TypeId} {k:IntKind} (h:P.underlying kt=some (.int k)):KeyOk P kt (Value.int k) where
 inj:=fun a b e=>by injection e
 und:=⟨.int k,h,fun a b=>by
  simp only [Instr.sameNow,if_true]
  congr 1,fun e n a w=>by simp [Instr.checkKey,run_underlying h]⟩
 bits:=fun a=>by simp [Instr.sameBits]
def zbM (mk:K -> Value) (es:Array MapEntry) (clock:Nat) (d:List (K × Value)):Prop:=
 es.toList.map (fun e=>(e.key,e.val))=d.map (fun p=>(mk p.1,p.2))/\(d.map (·.1)).Nodup/\(es.toList.map (·.born)).Nodup/\∀ e ∈ es.toList,e.born < clock
def MapAt (w:World) (mk:K -> Value) (m:Nat) (d:List (K × Value)):Prop:=
 ∃ es clock,w.heap[m]?=some (.map es clock)/\zbM mk es clock d
def zcY (d:List (K × Value)) (k:K):Option Value:=(d.find? (fun p=>decide (p.1=k))).map (·.2)
def upd (d:List (K × Value)) (k:K) (v:Value):List (K × Value):=
 if (zcY d k).isSome then d.map (fun p=>if p.1=k then (p.1,v) else p) else d++[(k,v)]
variable {P:Program} {kt:TypeId} {mk:K -> Value} {w w':World} {m:Nat} {d:List (K × Value)}
theorem MapAt.mod {S:Nat -> Prop} (h:MapAt w mk m d) (hm:Mod S w w') (hs:¬ S m):MapAt w' mk m d:=by
 obtain ⟨es,c,hh,he⟩:=h;exact ⟨es,c,hm.at hh hs,he⟩
theorem MapAt.lt (h:MapAt w mk m d):m < w.heap.size:=by
 obtain ⟨es,c,hh,he⟩:=h;exact zas hh
theorem MapAt.made (w:World) (mk:K -> Value):MapAt (w.alloc (.map #[] 0)) mk w.heap.size ([]:List (K × Value)):=
 ⟨#[],0,heap_alloc_new w _,by simp,by simp,by simp,by simp⟩
theorem zeN {desc:TypeDesc} (hsame:∀ a b,Instr.sameNow desc (mk a) (mk b)=some (decide (a=b))) (k:K):
  ∀ (es:List MapEntry) (d:List (K × Value)) (i:Nat),es.map (fun e=>(e.key,e.val))=d.map (fun p=>(mk p.1,p.2)) →
   Instr.findNow desc (mk k) es i=some ((d.findIdx? (fun p=>decide (p.1=k))).map (fun j=>(i+j,((d[j]?).map (·.2)).getD undef)))
 | [],[],_,_=>by simp [Instr.findNow]
 | [],_::_,_,h=>by simp at h
 | _::_,[],_,h=>by simp at h
 | e::es,p::d,i,h=>by
  simp only [List.map_cons,List.cons.injEq,Prod.mk.injEq] at h;obtain ⟨⟨hk,hv⟩,ht⟩:=h;simp only [Instr.findNow,hk,hsame]
  by_cases hkp:k=p.1
  ·simp [hkp,List.findIdx?_cons,hv]
  ·have hpk:¬ p.1=k:=fun e=>hkp e.symm
   simp only [hkp,decide_false];rw [zeN hsame k es d (i+1) ht];simp only [List.findIdx?_cons,hpk,decide_false];cases hfi:d.findIdx? (fun p=>decide (p.1=k)) with
   | none=>simp
   | some j=>simp;omega
theorem zcU (d:List (K × Value)) (k:K):
  zcY d k=(d.findIdx? (fun p=>decide (p.1=k))).map (fun j=>((d[j]?).map (·.2)).getD undef):=by
 induction d with
 | nil=>simp [zcY]
 | cons p d ih=>
  by_cases h:p.1=k
  ·simp [zcY,List.findIdx?_cons,h]
  ·simp only [zcY,List.find?_cons,h,decide_false,List.findIdx?_cons]
   simp only [zcY] at ih;rw [ih];cases hfi:d.findIdx? (fun p=>decide (p.1=k)) with
   | none=>simp
   | some j=>simp
theorem zfw (ok:KeyOk P kt mk) (k:K) (es:Array MapEntry) (clock:Nat) (he:zbM mk es clock d) (w:World):
  (Instr.findKey kt (mk k) es.toList).run P w=.ok ((d.findIdx? (fun p=>decide (p.1=k))).map (fun j=>(j,((d[j]?).map (·.2)).getD undef))) w:=by
 obtain ⟨desc,hu,hs,_⟩:=ok.und;simp [Instr.findKey,run_underlying hu,zeN hs k es.toList d 0 he.1]
theorem run_checkKey (ok:KeyOk P kt mk) (e:Bool) (k:K) (w:World):(Instr.checkKey e 10000 kt (mk k)).run P w=.ok () w:=by
 obtain ⟨desc,hu,hs,hc⟩:=ok.und;exact hc e 9999 k w
theorem run_getObj_map {es:Array MapEntry} {clock:Nat} (h:w.heap[m]?=some (.map es clock)):(getObj m).run P w=.ok (.map es clock) w:=by
 simp [getObj,Sem.run,h]
theorem run_setObj_map {es es':Array MapEntry} {clock clock':Nat} (h:w.heap[m]?=some (.map es clock)):
  (setObj m (.map es' clock')).run P w=.ok () { w with heap:=w.heap.setIfInBounds m (.map es' clock') }:=by
 simp [setObj,Sem.run,h]
theorem Mod.setBlock {S:Nat -> Prop} (hs:m < w.heap.size -> S m) (o:Obj):Mod S w { w with heap:=w.heap.setIfInBounds m o }:=
 ⟨rfl,rfl,rfl,by simp,fun k hk hn=>by
  have:m ≠ k:=fun e=>hn (e ▸ hs (e ▸ hk))
  simp [this]⟩
theorem zfq {t e:TypeId} (ok:KeyOk P kt mk) (ht:P.underlying t=some (.map kt e)) (h:MapAt w mk m d) (k:K) {z:Value} (hz:(zeroValue e).run P w=.ok z w) (c:Bool):
  (Instr.lookup t (.map (some m)) (mk k) c).run P w=.ok (if c then .tuple #[(zcY d k).getD z,.bool (zcY d k).isSome] else (zcY d k).getD z) w:=by
 obtain ⟨es,clock,hh,he⟩:=h;rw [zcU];simp only [Instr.lookup,Sem.run_bind,run_underlying ht,Result.andThen_ok,run_getObj_map hh,Sem.run_pure,run_checkKey ok,zfw ok k es clock he];cases hfi:d.findIdx? (fun p=>decide (p.1=k)) with
 | none=>cases c <;> simp [hz]
 | some j=>cases c <;> simp
theorem zi1 (d:List (K × Value)) (k:K) (v:Value):(upd d k v).map (·.1)=if (zcY d k).isSome then d.map (·.1) else d.map (·.1)++[k]:=by
 unfold upd;split
 ·rw [List.map_map]
  apply List.map_congr_left;intro p _;simp only [Function.comp];split <;> rfl
 ·simp
theorem zfT (d:List (K × Value)) (k:K):zcY d k=none ↔ k ∉ d.map (·.1):=by
 simp only [zcY,Option.map_eq_none_iff,List.find?_eq_none,decide_eq_true_eq,List.mem_map,not_exists,not_and]
theorem zdS:∀ (d:List (K × Value)) (k:K) (v:Value) (j:Nat),(d.map (·.1)).Nodup -> d.findIdx? (fun p=>decide (p.1=k))=some j →
  d.map (fun p=>if p.1=k then (p.1,v) else p)=d.modify j (fun p=>(p.1,v))
 | [],_,_,_,_,h=>by simp at h
 | p::d,k,v,j,hn,h=>by
  simp only [List.findIdx?_cons] at h;simp only [List.map_cons,List.nodup_cons] at hn
  by_cases hp:p.1=k
  ·simp only [hp,decide_true,if_true,Option.some.injEq] at h
   subst h;simp only [List.map_cons,hp,if_true,List.modify_zero_cons];congr 1;conv=>rhs;rw [<- List.map_id d]
   apply List.map_congr_left;intro q hq;have:q.1 ≠ k:=fun e=>hn.1 (by rw [hp,<- e];exact List.mem_map_of_mem hq)
   simp [this]
  ·simp only [hp,decide_false,Bool.false_eq_true,if_false] at h
   cases hf:d.findIdx? (fun p=>decide (p.1=k)) with
   | none=>rw [hf] at h;simp at h
   | some i=>
    rw [hf] at h;simp at h;subst h;simp only [List.map_cons,hp,if_false,List.modify_succ_cons];rw [zdS d k v i hn.2 hf]
theorem zbM.upd {es:Array MapEntry} {clock:Nat} (he:zbM mk es clock d) (k:K) (v:Value):
  match d.findIdx? (fun p=>decide (p.1=k)) with
  | some j=>zbM mk (es.modify j (fun e=>{ e with key:=mk k,val:=v })) clock (upd d k v)
  | none=>zbM mk (es.push { key:=mk k,val:=v,born:=clock }) (clock+1) (upd d k v):=by
 obtain ⟨h1,h2,h3,h4⟩:=he;cases hf:d.findIdx? (fun p=>decide (p.1=k)) with
 | none=>
  have ha:zcY d k=none:=by rw [zcU,hf];rfl
  have hu:Cdk.upd d k v=d++[(k,v)]:=by simp [Cdk.upd,ha]
  simp only [hu];refine ⟨by simp [h1],?_,?_,?_⟩
  ·rw [List.map_append,List.nodup_append]
   refine ⟨h2,by simp,?_⟩;intro a ha' b hb;simp at hb;subst hb;intro e;subst e;exact (zfT d _).1 ha ha'
  ·simp only [Array.toList_push,List.map_append,List.map_cons,List.map_nil]
   rw [List.nodup_append];refine ⟨h3,by simp,?_⟩;intro a ha' b hb;simp at hb;subst hb;obtain ⟨e,he,rfl⟩:=List.mem_map.1 ha';exact Nat.ne_of_lt (h4 e he)
  ·intro e he
   simp only [Array.toList_push,List.mem_append,List.mem_singleton] at he;rcases he with he | rfl
   ·exact Nat.lt_succ_of_lt (h4 e he)
   ·exact Nat.lt_succ_self _
 | some j=>
  have ha:(zcY d k).isSome=true:=by rw [zcU,hf];rfl
  have hu:Cdk.upd d k v=d.modify j (fun p=>(p.1,v)):=by
   simp only [Cdk.upd,ha,if_true];exact zdS d k v j h2 hf
  have hkey:∀ p,d[j]?=some p -> p.1=k:=by
   intro p hp;have:=List.findIdx?_eq_some_iff_getElem.1 hf;obtain ⟨hlt,hpj,_⟩:=this;rw [List.getElem?_eq_getElem hlt] at hp;simp at hp hpj;rw [<- hp];exact hpj
  refine ⟨?_,?_,?_,?_⟩
  ·rw [hu,Array.toList_modify]
   apply List.ext_getElem?;intro i;have h1i:=congrArg (fun l=>l[i]?) h1;simp only [List.getElem?_map] at h1i;simp only [List.getElem?_map,List.getElem?_modify]
   by_cases hij:j=i
   ·subst hij
    cases he:es.toList[j]? with
    | none=>
     rw [he] at h1i;cases hd:d[j]? with
     | none=>simp
     | some p=>rw [hd] at h1i;simp at h1i
    | some e=>
     rw [he] at h1i;cases hd:d[j]? with
     | none=>rw [hd] at h1i;simp at h1i
     | some p=>simp [hkey p hd]
   ·simp only [hij,if_false]
    simpa using h1i
  ·rw [zi1,if_pos ha];exact h2
  ·have:(es.modify j (fun e=>{ e with key:=mk k,val:=v })).toList.map (·.born)=es.toList.map (·.born):=by
    rw [Array.toList_modify];apply List.ext_getElem?;intro i;simp only [List.getElem?_map,List.getElem?_modify]
    by_cases hij:j=i
    ·subst hij;cases es.toList[j]? <;> simp
    ·simp [hij]
   rw [this];exact h3
  ·intro e he
   rw [Array.toList_modify] at he;obtain ⟨i,hi,rfl⟩:=List.mem_iff_getElem.1 he;simp only [List.getElem_modify];have hi':i < es.toList.length:=by simpa using hi
   have h4':=h4 _ (List.getElem_mem hi');split
   ·exact h4'
   ·exact h4'
theorem zjb {t e:TypeId} (ok:KeyOk P kt mk) (ht:P.underlying t=some (.map kt e)) (h:MapAt w mk m d) (k:K) (v:Value):
  ∃ w',(Instr.mapUpdate t (.map (some m)) (mk k) v).run P w=.ok () w'/\MapAt w' mk m (upd d k v)/\Mod (Eq m) w w'/\w'.heap.size=w.heap.size:=by
 obtain ⟨es,clock,hh,he⟩:=h;have hlt:=zas hh;have hupd:=he.upd k v;simp only [Instr.mapUpdate,Sem.run_bind,run_underlying ht,Result.andThen_ok,run_getObj_map hh,run_checkKey ok,zfw ok k es clock he];cases hf:d.findIdx? (fun p=>decide (p.1=k)) with
 | none=>
  rw [hf] at hupd;simp only [Option.map_none];rw [run_setObj_map hh];exact ⟨_,rfl,⟨_,_,by simp [hlt],hupd⟩,Mod.setBlock (fun _=>rfl) _,by simp⟩
 | some j=>
  rw [hf] at hupd;simp only [Option.map_some];have hold:((es[j]?).map (·.key)).getD (mk k)=mk k:=by
   have h1j:=congrArg (fun l=>l[j]?) he.1;simp only [List.getElem?_map,Array.getElem?_toList] at h1j;obtain ⟨hlt',hpj,_⟩:=List.findIdx?_eq_some_iff_getElem.1 hf;rw [List.getElem?_eq_getElem hlt'] at h1j;simp at hpj;cases hes:es[j]? with
   | none=>rfl
   | some x=>rw [hes] at h1j;simp at h1j;simp [h1j.1,hpj]
  have hstay:(Instr.keyThatStays (((es[j]?).map (·.key)).getD (mk k)) (mk k)).run P w=.ok (mk k) w:=by
   rw [hold];simp [Instr.keyThatStays,ok.bits]
  simp only [Sem.run_bind,hstay,Result.andThen_ok];rw [run_setObj_map hh];exact ⟨_,rfl,⟨_,_,by simp [hlt],hupd⟩,Mod.setBlock (fun _=>rfl) _,by simp⟩
end
set_option linter.unusedSectionVars false
section
variable {K:Type} [DecidableEq K]
variable {P:Program} {kt:TypeId} {mk:K -> Value} {w w':World} {m r:Nat} {d:List (K × Value)}
def zim (w:World) (mk:K -> Value) (m r:Nat) (d:List (K × Value)) (seen:List K):Prop:=
 ∃ es clock sn,w.heap[m]?=some (.map es clock)/\zbM mk es clock d/\w.heap[r]?=some (.mapIter (some m) clock sn clock)/\r ≠ m ∧
  (∀ e ∈ es.toList,∀ k,e.key=mk k -> (e.born ∈ sn.toList ↔ k ∈ seen)) ∧
  (∀ k s,seen=k::s -> ∀ v,(k,v) ∈ d -> ∃ b,sn.back?=some b/\∃ e ∈ es.toList,e.born=b/\e.key=mk k/\e.val=v)
theorem zim.mod {S:Nat -> Prop} {seen:List K} (h:zim w mk m r d seen) (hm:Mod S w w') (hs:¬ S m) (hr:¬ S r):zim w' mk m r d seen:=by
 obtain ⟨es,c,sn,h1,h2,h3,h4,h5⟩:=h;exact ⟨es,c,sn,hm.at h1 hs,h2,hm.at h3 hr,h4,h5⟩
theorem zim.lt {seen:List K} (h:zim w mk m r d seen):r < w.heap.size/\m < w.heap.size/\r ≠ m:=by
 obtain ⟨es,c,sn,h1,h2,h3,h4,_⟩:=h;exact ⟨zas h3,zas h1,h4⟩
end
def zaJ (w:World) (ao:Option Addr) (cs:List Value):Prop:=
 ∀ j u,cs[j]?=some u -> ∃ b off,ao=some ⟨b,off,none⟩/\w.cell? ⟨b,off+j,none⟩=some u
theorem zaJ.nil (w:World) (ao:Option Addr):zaJ w ao []:=fun j u h=>by simp at h
theorem zaJ.at {w:World} {ao:Option Addr} {cs:List Value} (h:zaJ w ao cs) (hpos:0 < cs.length):∃ b off,ao=some ⟨b,off,none⟩/\∀ j u,cs[j]?=some u -> w.cell? ⟨b,off+j,none⟩=some u:=by
 obtain ⟨b,off,rfl,_⟩:=h 0 cs[0] (List.getElem?_eq_getElem hpos);refine ⟨b,off,rfl,fun j u hu=>?_⟩;obtain ⟨b',off',he,hc⟩:=h j u hu;simp only [Option.some.injEq,Addr.mk.injEq,and_true] at he;rw [he.1,he.2];exact hc
theorem zaJ.mod {S:Nat -> Prop} {w w':World} {ao:Option Addr} {cs:List Value} (h:zaJ w ao cs) (hm:Mod S w w') (hs:∀ b off,ao=some ⟨b,off,none⟩ -> ¬ S b):zaJ w' ao cs:=by
 intro j u hu;obtain ⟨b,off,he,hc⟩:=h j u hu;exact ⟨b,off,he,hm.cell hc (hs b off he)⟩
theorem zaJ.ext {w w':World} {ao:Option Addr} {cs:List Value} (h:zaJ w ao cs) (hm:Ext w w'):zaJ w' ao cs:=h.mod hm (fun _ _ _ h=>h)
theorem zaJ.new (w:World) (cs:List Value) (e:TypeId):zaJ (w.alloc (.cells cs.toArray e)) (some ⟨w.heap.size,0,none⟩) cs:=by
 intro j u hu;refine ⟨w.heap.size,0,rfl,?_⟩;have:(w.alloc (.cells cs.toArray e)).heap[w.heap.size]?=some (.cells cs.toArray e):=heap_alloc_new w _;unfold World.cell?;simp only [this];simpa using hu
theorem flat_get {α:Type} (f:α -> List Value) (size:Nat) (hf:∀ x,(f x).length=size):∀ (xs:List α) (i j:Nat) (x:α),xs[i]?=some x -> j < size -> (xs.flatMap f)[i*size+j]?=(f x)[j]?
 | [],_,_,_,h,_=>by simp at h
 | y::xs,0,j,x,h,hj=>by
  simp at h;subst h;simp only [List.flatMap_cons,Nat.zero_mul,Nat.zero_add];rw [List.getElem?_append_left (by rw [hf];exact hj)]
 | y::xs,i+1,j,x,h,hj=>by
  simp only [List.getElem?_cons_succ] at h;simp only [List.flatMap_cons];rw [List.getElem?_append_right (by rw [hf,Nat.add_mul];omega),hf];rw [show (i+1)*size+j - size=i*size+j from by rw [Nat.add_mul];omega];exact flat_get f size hf xs i j x h hj
theorem flat_length {α:Type} (f:α -> List Value) (size:Nat) (hf:∀ x,(f x).length=size) (xs:List α):(xs.flatMap f).length=xs.length*size:=by
 induction xs with
 | nil=>simp
 | cons x xs ih=>simp [ih,hf,Nat.add_mul];omega
set_option linter.unusedSectionVars false
section
variable {K:Type} [DecidableEq K] {P:Program} {kt:TypeId} {mk:K -> Value} {ops:Array Oper} {rest:List Oper} {o:Oper} {a:Act} {Q:Exit -> Act -> World -> Prop} {w:World} {mb r:Nat} {d:List (K × Value)} {seen:List K}
end
structure El (P:Program) (e:TypeId) (z:Value) (size bytes:Nat):Prop where
 row:(P.info? e).map (fun i=>(i.zero,i.size,i.bytes))=some (some z,size,bytes)
 cells:z.cells.size=size
 pos:0 < size
 small:bytes<=1024
section
variable {α:Type} {P:Program} {f:α -> List Value} {base:Nat} {e:TypeId} {z:Value} {size bytes:Nat} {w w':World} {v:Value} {xs:List α}
def Own (w:World) (base:Nat) (e:TypeId) (size:Nat) (f:α -> List Value) (v:Value) (xs:List α):Prop:=w.ownsRow base e size v xs.length (xs.flatMap f)
theorem Own.nil (w:World) (base:Nat) (e:TypeId) (size:Nat) (f:α -> List Value):Own w base e size f (.slice none 0 0) []:=World.ownsRow_nil w base e size
theorem Own.empty {w:World} {base:Nat} {e:TypeId} {size:Nat} (f:α -> List Value) (h:base<=w.heap.size):Own (w.alloc (.cells #[] e)) base e size f (.slice (some ⟨w.heap.size,0,none⟩) 0 0) []:=
 World.ownsRow_made w #[] 0 h (Nat.zero_le _) (by simp)
theorem Own.weaken {base':Nat} (h:Own w base e size f v xs) (hb:base'<=base):Own w base' e size f v xs:=by
 refine ⟨h.1,?_⟩;rcases h.2 with h2 | ⟨g,cap,cur,rfl,h3,h4⟩
 ·exact .inl h2
 ·exact .inr ⟨g,cap,cur,rfl,Nat.le_trans hb h3,h4⟩
theorem Own.mod {S:Nat -> Prop} (h:Own w base e size f v xs) (hm:Mod S w w') (hs:∀ k,v.ownBlock=some k -> ¬ S k):Own w' base e size f v xs:=by
 refine ⟨h.1,?_⟩;rcases h.2 with h2 | ⟨g,cap,cur,rfl,h3,h4,h5⟩
 ·exact .inl h2
 ·exact .inr ⟨g,cap,cur,rfl,h3,hm.at h4 (hs g rfl),h5⟩
theorem Own.ext (h:Own w base e size f v xs) (hm:Ext w w'):Own w' base e size f v xs:=h.mod hm (fun _ _ h=>h)
theorem Own.block (h:Own w base e size f v xs):∀ k,v.ownBlock=some k -> base<=k/\k < w.heap.size:=World.ownsRow.lt h
theorem Own.row (h:Own w base e size f v xs):∃ ao cap,v=.slice ao xs.length cap/\zaJ w ao (xs.flatMap f)/\∀ b off,ao=some ⟨b,off,none⟩ -> v.ownBlock=some b:=by
 rcases h.2 with ⟨rfl,hn⟩ | ⟨g,cap,cur,rfl,hb,hg,hle,hcm,hcs,ht⟩
 ·have:xs=[]:=List.eq_nil_of_length_eq_zero hn
  subst this;exact ⟨none,0,rfl,zaJ.nil _ _,by simp⟩
 ·refine ⟨some ⟨g,0,none⟩,cap,rfl,?_,?_⟩
  ·intro j u hu
   refine ⟨g,0,rfl,?_⟩;have:=World.ownsRow.cells h (g:=g) rfl j u hu;rw [Addr.add_lit] at this;exact this
  ·intro b off he
   simp at he;simp [Value.ownBlock,he.1]
theorem Own.cells (h:Own w base e size f v xs) {k:Nat} (hk:v.ownBlock=some k):∃ c,w.heap[k]?=some (.cells c e (0,0)):=by
 rcases h.2 with ⟨rfl,_⟩ | ⟨g,cap,cur,rfl,_,hg,_⟩
 ·simp [Value.ownBlock] at hk
 ·simp [Value.ownBlock] at hk;subst hk;exact ⟨cur,hg⟩
theorem zdU {o:Oper} {a:Act} {K:Act -> World -> Prop} {Q:Exit -> Act -> World -> Prop} (s x:Operand) (t:TypeId)
  (ho:o.op=.call { callee:=.builtin .append,args:=#[s,x],argTypes:=#[t,t] }) (ht:P.underlying t=some (.slice e)) (el:El P e z size bytes)
  (hs:a.eval s=v) (hown:Own w base e size f v xs) (ao:Option Addr) (m c:Nat) (hx:a.eval x=.slice ao m c) (ys:List α) (hm:ys.length=m) (hrow:zaJ w ao (ys.flatMap f))
  (hf:∀ y,(f y).length=size) (h1:∀ y ∈ ys,∀ u ∈ f y,u.oneCell'=true) (hlen:xs.length+ys.length<=137438953472) (hbase:base<=w.heap.size) (hc:ao=none -> c=0)
  (hK:∀ v' w',Hid (Own w' base e size f v' (xs++ys)/\Mod (fun k=>v.ownBlock=some k) w w') -> K (a.put o.dst v') w'):o.wp P a w K Q:=by
 obtain ⟨i0,hi,hz0,hz1,hz2⟩:=info_parts el.row;have hflat:=fun l:List α=>flat_length f size hf l
 cases ao with
 | some ad=>
  have hcells:∀ j u,(ys.flatMap f)[j]?=some u -> w.cell? (ad.add j)=some u:=by
   intro j u hu;obtain ⟨b,off,he,hcc⟩:=hrow j u hu;simp only [Option.some.injEq] at he;subst he;rw [Addr.add_lit];exact hcc
  have hb:(xs.length+m)*bytes<=140737488355328:=by
   have h1:=el.small;have:(xs.length+m)*bytes<=137438953472*1024:=Nat.mul_le_mul (by omega) h1;omega
  refine wp_append_own w s x t ho base e i0 z size bytes ht hi hz0 hz1 hz2 el.cells el.pos v xs.length (xs.flatMap f) hs hown ad m c (ys.flatMap f) hx (by rw [hflat,hm]) hcells ?_ (by simp only [maxLen];omega) hb hbase ?_
  ·intro u hu
   obtain ⟨y,hy,hu⟩:=List.mem_flatMap.1 hu;exact h1 y hy u hu
  ·intro v' w' h2 h3 _
   refine hK v' w' ⟨?_,Mod.ofGrown h3 (fun k hk=>hk)⟩;subst hm;unfold Own;rw [List.length_append,List.flatMap_append];exact h2
 | none=>
  have hy:ys=[]:=by
   cases ys with
   | nil=>rfl
   | cons y ys=>
    exfalso;have hp:0 < ((y::ys).flatMap f).length:=by rw [hflat];exact Nat.mul_pos (by simp) el.pos
    obtain ⟨b,off,he,_⟩:=hrow.at hp;simp at he
  subst hy;simp at hm;subst hm;have hc0:=hc rfl;subst hc0;have hrun:=run_append_owned_none (P:=P) w base t o.type e i0 size ht hi v xs.length (xs.flatMap f) hown;unfold Oper.wp;simp [execOp,ho,resolve,invoke,builtin,hs,hx,hrun,Result.andThen];exact hK v w ⟨by simpa using hown,Mod.refl _ _⟩
theorem zaI {ops:Array Oper} {rest:List Oper} {o:Oper} {a:Act} {Q:Exit -> Act -> World -> Prop} (hg:o.guard=none) (s x:Operand) (t:TypeId)
  (ho:o.op=.call { callee:=.builtin .append,args:=#[s,x],argTypes:=#[t,t] }) (ht:P.underlying t=some (.slice e)) (el:El P e z size bytes)
  (hs:a.eval s=v) (hown:Own w base e size f v xs) (ao:Option Addr) (m c:Nat) (hx:a.eval x=.slice ao m c) (ys:List α) (hm:ys.length=m) (hrow:zaJ w ao (ys.flatMap f))
  (hf:∀ y,(f y).length=size) (h1:∀ y ∈ ys,∀ u ∈ f y,u.oneCell'=true) (hlen:xs.length+ys.length<=137438953472) (hbase:base<=w.heap.size) (hc:ao=none -> c=0)
  (hK:∀ v' w',Hid (Own w' base e size f v' (xs++ys)/\Mod (fun k=>v.ownBlock=some k) w w') -> wpList P ops Q rest (a.put o.dst v') w'):wpList P ops Q (o::rest) a w:=
 wpList_plain hg fun _ hK'=>zdU s x t ho ht el hs hown ao m c hx ys hm hrow hf h1 hlen hbase hc (fun v' w' H=>hK' _ _ (hK v' w' H))
end
end Cdk
