import Derived.Test.YtjjfphalcibjfaaGreatDoorJ14
import Derived.Test.YtjjfphalcibjfaaGreatDoorH0
import Derived.Test.YtjjfphalcibjfaaGreatDoorLoadQ
import Derived.Test.YtjjfphalcibjfaaGreatDoorWhole
import Derived.Deep.Slices
import Derived.ProofKit
import Derived.Test.YtjjfphalcibjfaaGreatDoorAppend
import Derived.Test.YtjjfphalcibjfaaGreatDoorCards
import Derived.Test.YtjjfphalcibjfaaGreatDoorTie
import Derived.OpenShut
import Derived.LaidMore
import Derived.Lay
import Derived.Stop.LaidErr
set_option maxRecDepth 100000
set_option maxHeartbeats 16000000
namespace Go.Proofs.YtjjfphalcibjfaaGreatDoor
open Go.Shelf Go.RowKit Cdk Scr
theorem zez (c:UInt8):∀ (K:Nat) (t:Bs),t.length<=K -> zat c K t=parts c t
 | 0,[],_=>rfl
 | 0,_::_,h=>by simp at h
 | K+1,t,h=>by
  rw [zat];rcases zbU (c:=c) t with ⟨h1,h2,h3⟩ | ⟨h1,h2,-,h3⟩
  ·rw [if_pos h1]
   have hl:=congrArg List.length h2;simp only [List.length_append,List.length_cons] at hl;rw [zez c K _ (by omega)];conv=>rhs;rw [h2]
   rw [zdW _ h3]
  ·rw [if_neg (by rw [h1];decide),zd7 h3]
theorem zhn {α:Type} {P:Program} {f:α -> List Value} {base:Nat} {e:TypeId} {z:Value} {size bytes:Nat} {w:World} {v:Value} {xs:List α} {ops:Array Oper} {rest:List Oper} {o:Oper} {a:Act} {Q:Exit -> Act -> World -> Prop} (hg:o.guard=none) (s x:Operand) (t:TypeId)
  (ho:o.op=.call { callee:=.builtin .append,args:=#[s,x],argTypes:=#[t,t] }) (ht:P.underlying t=some (.slice e)) (el:El P e z size bytes)
  (hs:a.eval s=v) (hown:Cdk.Own w base e size f v xs) (ad:Addr) (m c:Nat) (hx:a.eval x=.slice (some ad) m c) (ys:List α) (hm:ys.length=m) (hrow:zaJ w (some ad) (ys.flatMap f))
  (hf:∀ y,(f y).length=size) (h1:∀ y ∈ ys,∀ u ∈ f y,u.oneCell'=true) (hlen:xs.length+ys.length<=137438953472) (hbase:base<=w.heap.size)
  (h:∀ v' w',Hid (Cdk.Own w' base e size f v' (xs++ys)/\Mod (fun k=>v.ownBlock=some k) w w'/\(v'.ownBlock=v.ownBlock \/ v'.ownBlock=some w.heap.size)) -> wpList P ops Q rest (a.put o.dst v') w'):wpList P ops Q (o::rest) a w:=
 wpList_plain hg fun _ hK=>zjv s x t ho ht el hs hown ad m c hx ys hm hrow hf h1 hlen hbase (fun v' w' H=>hK _ _ (h v' w' H))
theorem results_tmp3 {P:Program} {fn:Func} {p q u:Tmp} (h:fn.results=#[.tmp p,.tmp q,.tmp u]) (tmps:Array Value) (w:World):(results fn tmps).run P w=.ok (.tuple #[tmps.getD p undef,tmps.getD q undef,tmps.getD u undef]) w:=by
 simp [results,h]
theorem zdk:∀ {L:List Bs} {k:Nat} {acc l:List Ac},zbe k acc L=.ok l -> l.length<=acc.length+L.length
 | [],_,_,_,h=>by injection h with h;subst h;simp
 | t::L,k,acc,l,h=>by
  simp only [zbe] at h;split at h
  ·have:=zdk h;simp only [List.length_cons];omega
  ·split at h
   ·cases h
   ·split at h
    ·cases h
    ·have:=zdk h
     simp only [List.length_append,List.length_cons,List.length_nil] at this ⊢;omega
theorem zjX (s:Bs) (hs:s.length<=1000000) (w:World):Calls Tryz.prog 23 #[.string ⟨s.toArray⟩] w (PaP w s):=by
 have hPa:Hid (∀ e w',PaP w s e w'=(Ext w w'/\PaE w w' e (parse s))):=Y (fun e w'=>rfl);obtain ⟨D,hD⟩:∃ D,D=parse s:=⟨_,rfl⟩;rw [<- hD] at hPa;replace hD:=Y hD
 by_cases hbig:65536 < s.length
 ·have hbi:(65536:Int) < (s.length:Int):=by omega
  have hDe:=Y (show D=.error 0 by rw [hD.o];unfold parse;rw [if_pos hbig]);have hxF:=Y (Mod.refl (fun _=>False) w);replace hbig:=Y hbig;go_enter Tryz.func23,Tryz.ntmps23;go_wp2_with fail
  refine bodyPost_ret (results_tmp3 rfl _ _) rfl ?_;rw [hPa.o,hDe.o];exact ⟨hxF.o,rfl⟩
 ·have hbi:¬ (65536:Int) < (s.length:Int):=by omega
  have hDL:D=zbe 1 [] (parts 10 s):=by rw [hD.o];unfold parse;rw [if_neg hbig]
  obtain ⟨M,hM⟩:∃ M,M=s.length+1+1:=⟨_,rfl⟩;have hwM:IntKind.i64.wrap ((s.length:Int)+2)=(M:Int):=by rw [IntWalk.i64_in _ (by omega)];omega
  have hc:=Y (fun W=>zcD s 10 (s.length+1) M hM hs (by omega) W);have hwp:=zez 10 (s.length+1) s (by omega);have hln:=zed 10 (s.length+1) s;have hle:=zcs 10 (s.length+1) s;rw [<- hwp] at hDL;generalize zat 10 (s.length+1) s=L at hc hDL hln hle;replace hDL:=Y hDL;obtain ⟨n,hn⟩:∃ n,n=L.length:=⟨_,rfl⟩;have hnl:n<=1000001:=by omega
  replace hle:=Y hle;replace hn:=Y hn;replace hM:=Y hM;replace hbig:=Y hbig;clear hwp hln;go_enter Tryz.func23,Tryz.ntmps23;go_wp2_with fail
  refine (hc.o _).mono ?_;rintro e w1 ⟨ao,cap,rfl,hr,hx1⟩;rw [<- hn.o] at hr ⊢;replace hr:=Y hr;replace hx1:=Y hx1;obtain ⟨B,hB⟩:∃ B,B=w1.heap.size:=⟨_,rfl⟩;have hBw:w.heap.size<=B:=by rw [hB];exact hx1.o.size
  replace hB:=Y hB;clear hc hwM;go_wp2_with fail
  go_loopg [5,7] n (fun g ov iv wr=>∃ (j:Nat) (av:Option Addr) (cv:Nat) (rows:List (AV × Ac)),j+g=n/\iv=.int .i64 j/\ov=.slice av rows.length cv/\Cdk.Own wr B 32 36 acC (.slice av rows.length cv) rows/\(∀ p ∈ rows,AcAt (fun k=>B<=k/\k < wr.heap.size/\(Value.slice av rows.length cv).ownBlock ≠ some k) wr p.1 p.2)/\zbe 1 [] (L.take j)=.ok (rows.map Prod.snd)/\Ext w1 wr)
  case atStart=>exact ⟨0,none,0,[],by omega,rfl,rfl,Own.nil _ _ _ _ _,(fun p hp=>by cases hp),rfl,Mod.refl _ _⟩
  case round=>
   obtain ⟨j,av,cv,rows,hj,rfl,rfl,hO,hA,hpr,hx⟩:=hrel;replace hj:=Y hj;have hsz:B<=wr.heap.size:=by rw [hB.o];exact hx.size
   replace hO:=Y hO;replace hA:=Y hA
   by_cases hlt:j < n
   ·have hdi:(j:Int) < (n:Int):=by omega
    have hd:decide ((j:Int) < (n:Int))=true:=decide_eq_true hdi;have hjl:j < L.length:=by have:=hn.o;omega
    have h':=hr.o.ext hx;rw [hn.o] at h';obtain ⟨b,off,cc,e0,-,hcL⟩:=zac.get h' 1 zaC (by decide) hjl;injection e0 with e1 e2 e3
    subst e1;subst e3;have hcell:=hcL 0 (.string ⟨L[j].toArray⟩) (by decide) rfl;simp only [Nat.mul_one,Nat.add_zero] at hcell;have hxl:=Nat.le_trans (hle.o L[j] (List.getElem_mem _)) hs;have htk:L.take (j+1)=L.take j++[L[j]]:=List.take_succ_eq_append_getElem hjl;have hst0:=zgj hpr L[j];rw [<- htk,List.length_take,Nat.min_eq_left (Nat.le_of_lt hjl),List.length_map] at hst0;have hfin:∀ k,zbe 1 [] (L.take (j+1))=.error k -> D=.error k:=fun k h=>by
     rw [hDL.o,<- List.take_append_drop (j+1) L,zct,h]
    generalize L[j]=t at hcell hxl htk hst0;obtain ⟨X,hX⟩:∃ X:ByteArray,X=⟨t.toArray⟩:=⟨_,rfl⟩;rw [<- hX] at hcell;have hSe:X.toList.isEmpty=t.isEmpty:=by rw [hX];simp
    have hjw:IntKind.i64.wrap ((j:Int)+1)=(j:Int)+1:=IntWalk.i64_in _ (by omega);have hj1:(j:Int)+1=((j+1:Nat):Int):=by omega
    replace hx:=Y hx;replace hfin:=Y hfin;replace htk:=Y htk;replace hj1:=Y hj1;clear hcL h' e2;cases hb:t.isEmpty with
    | true=>
     rw [hb] at hSe;have hsk:skip t=true:=by
      have:t=[]:=by simpa using hb
      subst this;rfl
     rw [hsk] at hst0;have hst:=Y (show zbe 1 [] (L.take (j+1))=.ok (rows.map Prod.snd) from hst0);replace hX:=Y hX;replace hb:=Y hb;replace hsk:=Y hsk;clear hst0 hpr;go_wp2_with fail
     go_roundg (gk - 1)
     case measure=>have:=hj.o;omega
     case rel=>exact ⟨j+1,av,cv,rows,by have:=hj.o;omega,by go_num,rfl,hO.o,hA.o,hst.o,hx.o⟩
    | false=>
     obtain ⟨c,rt,rfl⟩:∃ c rt,t=c::rt:=by
      cases t with
      | nil=>cases hb
      | cons c rt=>exact ⟨c,rt,rfl⟩
     rw [hb] at hSe;have hSz:0 < X.size:=by rw [hX];show 0 < (c::rt).toArray.size;simp
     have hS0:X[0]=c:=by subst hX;rfl
     have hSzi:(0:Int) < (X.size:Int):=by omega
     have hsk:skip (c::rt)=decide (X[0].toNat=35):=by rw [hS0];rfl
     rw [hsk] at hst0;have hof:=znK (c::rt) hxl;rw [<- hX] at hof;replace hof:=Y hof;replace hX:=Y hX;replace hb:=Y hb;replace hS0:=Y hS0;replace hsk:=Y hsk
     by_cases h35:X[0].toNat=35
     ·have b1:((X[0].toNat:Int)==35)=true:=by rw [beq_iff_eq];omega
      rw [decide_eq_true h35] at hst0;have hst:=Y (show zbe 1 [] (L.take (j+1))=.ok (rows.map Prod.snd) from hst0);clear hst0 hpr hof;go_wp2_with fail
      go_roundg (gk - 1)
      case measure=>have:=hj.o;omega
      case rel=>exact ⟨j+1,av,cv,rows,by have:=hj.o;omega,by go_num,rfl,hO.o,hA.o,hst.o,hx.o⟩
     ·have b1:((X[0].toNat:Int)==35)=false:=by rw [beq_eq_false_iff_ne];omega
      rw [decide_eq_false h35] at hst0;simp only [Bool.false_eq_true,if_false] at hst0;replace hst0:=Y hst0;replace hpr:=Y hpr;go_wp2_with fail
      refine (hof.o _).mono ?_;rintro e w2 ⟨hx2,hPl⟩;have hx1f:=Y ((hx1.o.trans hx.o).trans hx2);have hst1:=hst0.o;unfold PlE at hPl;cases hL:zbd (c::rt) with
      | none=>
       rw [hL] at hPl hst1;simp only at hPl hst1;subst hPl;have hDe:=Y (hfin.o (j+1) (by rw [hst1];split <;> rfl));replace hst1:=Y hst1;replace hL:=Y hL;replace hx2:=Y hx2;go_wp2_with (refine zab rfl 32 _ _ rfl w2.heap.size _ _ 32 rfl rfl (heap_alloc_new w2 _) rfl (by kernel_rfl) rfl (fun WS HS=>Hid.o ?_))
       have hxT:Ext w2 WS:=(((Mod.alloc (Mod.refl (fun _=>False) w2) (.cells zA9 32)).mono (T:=fun k=>w2.heap.size<=k) (fun _ h=>h.elim)).then HS.o.2 (fun k _ e=>by omega)).mono' (fun k h1 h2=>by omega);have hxF:=Y (hx1f.o.trans hxT);clear HS hxT;refine Y ?_;go_wp2_with fail
       refine bodyPost_ret (results_tmp3 rfl _ _) rfl ?_;rw [hPa.o,hDe.o];exact ⟨hxF.o,by rw [hj1.o];rfl⟩
      | some a=>
       rw [hL] at hPl hst1;simp only at hPl hst1;obtain ⟨a1,n1,c1,a2,n2,c2,a3,n3,c3,a4,n4,c4,a5,n5,c5,rfl,hAa⟩:=hPl;obtain ⟨sv,hsv⟩:∃ sv:AV,sv=⟨⟨.slice a1 n1 c1,.slice a2 n2 c2,.slice a3 n3 c3⟩,.slice a4 n4 c4,.slice a5 n5 c5⟩:=⟨_,rfl⟩;rw [<- hsv] at hAa;obtain ⟨V,hV⟩:∃ V,V=acA a1 n1 c1 a2 n2 c2 a3 n3 c3 a4 n4 c4 a5 n5 c5 a:=⟨_,rfl⟩;rw [<- hV];have hVz:=Y (show V.size=(zA9:Array Value).size by rw [hV];rfl);have hVs:=Y (show V.size=36 by rw [hV];rfl);have hVi:=Y (show (Tryz.prog.info? 32).map (·.size)=some V.size by rw [hV];kernel_rfl);have hV1:=Y (show V.toList.all (·.oneCell')=true by rw [hV];rfl);have hVc:=Y (show [(sv,a)].flatMap acC=V.toList by rw [hV,hsv];rfl);have h1c:=Y (show ∀ y ∈ [(sv,a)],∀ u ∈ acC y,u.oneCell'=true from fun y hy u hu=>by simp only [List.mem_singleton] at hy;subst hy;rw [hsv] at hu;exact zkQ u hu);replace hV:=Y hV;replace hsv:=Y hsv;replace hL:=Y hL;replace hAa:=Y hAa;go_wp2_with (refine zab rfl 32 _ _ rfl w2.heap.size _ V 32 rfl rfl (heap_alloc_new w2 _) (by rw [hVz.o]) hVi.o hV1.o (fun WS HS=>Hid.o ?_))
       have hxT:Ext w2 WS:=(((Mod.alloc (Mod.refl (fun _=>False) w2) (.cells zA9 32)).mono (T:=fun k=>w2.heap.size<=k) (fun _ h=>h.elim)).then HS.o.2 (fun k _ e=>by omega)).mono' (fun k h1 h2=>by omega);have hQc:=HS.o.1;obtain ⟨Q,hQe⟩:∃ Q,Q=w2.heap.size:=⟨_,rfl⟩;rw [<- hQe] at hQc ⊢;have hxWS:=hx2.trans hxT;have hxF:=Y (hx1f.o.trans hxT);have hQS:Q < WS.heap.size:=zas hQc;have hWQ:wr.heap.size<=Q:=by have:=hx2.size;omega
       replace hQe:=Y hQe;replace hQc:=Y hQc
       by_cases h100:rows.length=100
       ·have b2:((rows.length:Int)==100)=true:=by rw [beq_iff_eq];omega
        have hDe:=Y (hfin.o (j+1) (by rw [hst1,if_pos h100]));replace hst1:=Y hst1;replace h100:=Y h100;clear HS hxT hxWS;replace hx2:=Y hx2;refine Y ?_;go_wp2_with fail
        refine bodyPost_ret (results_tmp3 rfl _ _) rfl ?_;rw [hPa.o,hDe.o];exact ⟨hxF.o,by rw [hj1.o];rfl⟩
       ·have b2:((rows.length:Int)==100)=false:=by rw [beq_eq_false_iff_ne];omega
        have b2i:¬ (rows.length:Int)=100:=by omega
        rw [if_neg h100] at hst1;have hlr:rows.length<=1000001:=by
         have h:=zdk hpr.o;rw [List.length_map,List.length_take] at h;have:=hn.o;simp only [List.length_nil] at h;omega
        have hxA:=Mod.alloc (Mod.refl (fun _=>False) WS) (.cells V 32);have hxWA:=hxWS.trans hxA;have hO2:=Y (hO.o.ext hxWA);have hrowA:Hid (zaJ (WS.alloc (.cells V 32)) (some ⟨WS.heap.size,0,none⟩) ([(sv,a)].flatMap acC)):=Y (by rw [hVc.o];have:=zaJ.new WS V.toList 32;rwa [show V.toList.toArray=V from by simp] at this);have hsWA:B<=(WS.alloc (.cells V 32)).heap.size:=by rw [World.size_alloc];omega
        have hrl:Hid (rows.length+[(sv,a)].length<=137438953472):=Y (by simp only [List.length_singleton];omega);have hxT2:=Y (hxT.trans hxA);have hx3:=Y (hx.o.trans hxWA);replace hst1:=Y hst1;replace hxWA:=Y hxWA;replace hxWS:=Y hxWS;replace h100:=Y h100;clear HS hxT hxA;replace hx2:=Y hx2;refine Y ?_;go_wp2_with (first | (refine zae (by rfl) 32 _ rfl Q V _ _ _ rfl hQc.o Tryz.underlying32 rfl hVi.o ?_) | (refine zcQ rfl _ _ rfl Tryz.underlying37 elA (by decide) V rfl hVs.o ?_) | (at_builtin;refine zhn rfl _ _ _ rfl Tryz.underlying37 elA rfl hO2.o _ 1 1 rfl [(sv,a)] rfl hrowA.o zi3 h1c.o hrl.o hsWA (fun v6 w6 H6=>Hid.o ?_)))
        obtain ⟨hO6,hm6,hat⟩:=H6.o;obtain ⟨av6,cv6,rfl,-,-⟩:=hO6.row;obtain ⟨r6,hr6⟩:∃ r6,r6=rows++[(sv,a)]:=⟨_,rfl⟩;rw [<- hr6] at hO6 hat ⊢;have hob:∀ k,(Value.slice av rows.length cv).ownBlock=some k -> B<=k/\k < wr.heap.size:=fun k e=>hO.o.block k e
        have hmW:Mod (fun k=>(Value.slice av rows.length cv).ownBlock=some k) wr w6:=(hxWA.o.mono (fun _ h=>h.elim)).trans hm6;have hat2:∀ k,k < WS.heap.size -> (Value.slice av rows.length cv).ownBlock ≠ some k -> (Value.slice av6 r6.length cv6).ownBlock ≠ some k:=fun k hk hn e=>by
         rcases hat with h | h
         ·rw [h] at e;exact hn e
         ·rw [h,World.size_alloc] at e;injection e with e;omega
        have hs6:WS.heap.size < w6.heap.size:=by have:=hm6.size;rw [World.size_alloc] at this;omega
        have hA9:Hid (∀ p ∈ r6,AcAt (fun k=>B<=k/\k < w6.heap.size/\(Value.slice av6 r6.length cv6).ownBlock ≠ some k) w6 p.1 p.2):=Y (fun p hp=>by
         have h2:=hQe.o;rw [hr6] at hp;rcases List.mem_append.1 hp with hp | hp
         ·exact ((hA.o p hp).mod hmW (fun k hk e=>hk.2.2 e)).mono (fun k hk=>⟨hk.1,by omega,hat2 k (by omega) hk.2.2⟩)
         ·simp only [List.mem_singleton] at hp
          subst hp;have hnw:∀ k,wr.heap.size<=k -> (Value.slice av rows.length cv).ownBlock ≠ some k:=fun k hk e=>by have:=(hob k e).2;omega
          have m29:Mod (fun k=>(Value.slice av rows.length cv).ownBlock=some k) w2 w6:=(hxT2.o.mono (fun _ h=>h.elim)).trans hm6
          exact (hAa.o.mod m29 (fun k hk e=>hnw k hk.1 e)).mono (fun k hk=>⟨by omega,by omega,hat2 k (by omega) (hnw k hk.1)⟩))
        have hx6:=Y (zbi hx3.o hO2.o (Nat.le_of_eq hB.o.symm) hm6);have hst6:=Y (show zbe 1 [] (L.take (j+1))=.ok (r6.map Prod.snd) by rw [hst1.o,hr6];simp);replace hr6:=Y hr6;replace hO6:=Y hO6;clear H6 hm6 hat hmW hat2 hob;refine Y ?_;go_wp2_with fail
        go_roundg (gk - 1)
        case measure=>have:=hj.o;omega
        case rel=>exact ⟨j+1,av6,cv6,r6,by have:=hj.o;omega,by go_num,rfl,hO6.o,hA9.o,hst6.o,hx6.o⟩
   ·obtain rfl:j=n:=by have:=hj.o;omega
    have hdi:¬ (j:Int) < (j:Int):=by omega
    have hd:decide ((j:Int) < (j:Int))=false:=decide_eq_false hdi;have hDe:=Y (show D=.ok (rows.map Prod.snd) by rw [hDL.o,<- hpr,List.take_of_length_le (by have:=hn.o;omega)]);have hxF:=Y (hx1.o.trans hx);have hl1:rows.length<=1000001:=by
     have h:=zdk hpr;rw [List.length_map,List.length_take] at h;simp only [List.length_nil] at h;omega
    replace hpr:=Y hpr;replace hx:=Y hx;go_wp2_with fail
    refine bodyPost_ret (results_tmp3 rfl _ _) rfl ?_;rw [hPa.o,hDe.o];refine ⟨hxF.o,av,cv,by rw [List.length_map];rfl,rows,rfl,?_,fun p hp=>(hA.o p hp).mono (fun k hk=>⟨by omega,hk.2.1⟩)⟩;rw [List.length_map];exact (zbV hO.o (by omega)).mono (fun k hk=>⟨by omega,hk.2⟩)
def paL (D:Except Nat (List Ac)):List Ac:=match D with | .ok l=>l | .error _=>[]
def paN (D:Except Nat (List Ac)):Int:=match D with | .ok _=>0 | .error n=>n
def paO (D:Except Nat (List Ac)):Int:=match D with | .ok _=>0 | .error _=>280
theorem zlV {w w':World} {e:Ending} {D:Except Nat (List Ac)} (h:PaE w w' e D):∃ v:Value,e=.returned (.tuple #[v,.int .i64 (paN D),.int .i64 (paO D)])/\zcg (fun k=>k < w'.heap.size) w' v (paL D):=by
 cases D with
 | ok l=>obtain ⟨ao,cap,rfl,rows,h1,h2,h3⟩:=h;exact ⟨_,rfl,rows,h1,h2.mono (fun k hk=>hk.2),fun p hp=>(h3 p hp).mono (fun k hk=>hk.2)⟩
 | error n=>exact ⟨_,h,[],rfl,zac.nil _ _ _,fun p hp=>by cases hp⟩
theorem zjY (S0:ByteArray) (hz:S0.size<=140737488351232) (w:World) (hG:Gl w):
  Calls Tryz.prog 5 #[.string S0] w fun e w'=>e=.returned (.bool true)/\Ext w w':=by
 have hsn:=Y (zmT w hG);replace hG:=Y hG;obtain ⟨s0,hs0⟩:∃ s0:Bs,S0=⟨s0.toArray⟩:=⟨S0.data.toList,by simp⟩;have hcut:=Y (fun W=>zmt s0 (by rw [hs0] at hz;exact hz) W);rw [<- hs0] at hcut;obtain ⟨s,hs⟩:∃ s,s=s0.take 6000:=⟨_,rfl⟩;have hsl:s.length<=1000000:=by rw [hs,List.length_take];omega
 rw [<- hs] at hcut;have hp:=Y (fun W (hW:Gl W)=>parse_any s hsl W hW);have hq:=Y (fun W=>zjX s hsl W);obtain ⟨D,hD⟩:∃ D,D=parse s:=⟨_,rfl⟩;replace hD:=Y hD;replace hs:=Y hs;replace hs0:=Y hs0;go_enter Tryz.func5,Tryz.ntmps5;go_wp2_with fail
 refine hsn.o.mono ?_;rintro e w1 ⟨rfl,hx1⟩;have hG1:=Y (hG.o.ext hx1);replace hx1:=Y hx1;clear hsn hG;go_wp2_with fail
 refine (hcut.o _).mono ?_;rintro e w' ⟨rfl,rfl⟩;go_wp2_with fail
 refine (hp.o _ hG1.o).mono ?_;rintro e w2 ⟨hx2,hp2⟩;rw [<- hD.o] at hp2;obtain ⟨v1,rfl,hA1⟩:=zlV hp2;replace hx1:=Y (hx1.o.trans hx2);replace hA1:=Y hA1;clear hp hp2 hx2 hG1;go_wp2_with fail
 refine (hq.o _).mono ?_;rintro e w3 ⟨hx3,hp3⟩;rw [<- hD.o] at hp3;obtain ⟨v2,rfl,hA2⟩:=zlV hp3;replace hA1:=Y ((hA1.o.ext hx3).mono (fun k hk=>Nat.lt_of_lt_of_le hk hx3.size));replace hx1:=Y (hx1.o.trans hx3);have hsm:=zg1 v1 v2 (paL D) (paL D) w3 hA1.o hA2;rw [decide_eq_true rfl] at hsm;replace hsm:=Y hsm;generalize paN D=pn;generalize paO D=pe;clear hq hp3 hx3 hA1 hA2;go_wp2_with fail
 refine hsm.o.mono ?_;rintro e w4 ⟨rfl,hx4⟩;replace hx1:=Y (hx1.o.trans hx4);clear hsm hx4;go_wp2_with fail
 go_ret;exact ⟨rfl,hx1.o⟩
open Go.ChangeShapes Go.WideShapes Go.ChangeAt Go.RowKit Cdk Scr
def Wl {H:Type} (t:TypeId) (d:DataW H):Prop:=∀ n ∈ d.weights Tryz.prog t,n<=140737488351232
theorem Wl.mem {H:Type} {e:TypeId} {n:Nat}:∀ {l:List (DataW H)} {d:DataW H},d ∈ l -> n ∈ d.weights Tryz.prog e -> n ∈ DataW.weightsAll Tryz.prog e l
 | x::r,d,h,hn=>by
  simp only [DataW.weightsAll,List.mem_append];rcases List.mem_cons.1 h with rfl | h
  ·exact Or.inl hn
  ·exact Or.inr (Wl.mem h hn)
theorem Wl.slice {H:Type} {t e:TypeId} {len m:Nat} {D:Nat -> DataW H} (hu:Tryz.prog.underlying t=some (.slice e)) (h:Wl t (.slice ((List.range len).map D) ((List.range m).map fun j=>D (len+j)))):(len+m)*Tryz.prog.bytesOf e<=140737488351232/\∀ i,i < len -> Wl e (D i):=by
 constructor
 ·have:=h ((len+m)*Tryz.prog.bytesOf e) (by simp [DataW.weights,hu])
  exact this
 ·intro i hi n hn
  refine h n ?_;simp only [DataW.weights,hu,List.mem_cons,List.mem_append];exact Or.inr (Or.inl (Wl.mem (List.mem_map.2 ⟨i,List.mem_range.2 hi,rfl⟩) hn))
theorem Wl.string {H:Type} {t:TypeId} {b:List UInt8} (h:Wl (H:=H) t (.lit (.string b))):b.length<=140737488351232:=h b.length (by simp [DataW.weights])
theorem Wl.of_each {H:Type} {ts:List TypeId} {ds:List (DataW H)} (h:(DataW.weightsEach Tryz.prog ts ds).all (·<=reachBytes)=true) {j:Nat} {t:TypeId} {d:DataW H} (ht:ts[j]?=some t) (hd:ds[j]?=some d):Wl t d:=fun n hn=>by
 have:=List.all_eq_true.1 h n (DataW.weights_mem_each ht hd n hn)
 exact of_decide_eq_true (p:=n<=reachBytes) this
section
variable {H:Type} {enc:TypeId × Value -> H} {W:World}
end
section
variable {H:Type} {enc:TypeId × Value -> H} {W:World}
end
theorem ziZ {H:Type} {enc:TypeId × Value -> H} {W:World} {v:Value} {d:DataW H} {p:List MemPlace} {b0:Nat} (hval:Value.okWide Tryz.prog W .any b0 9 v) (h:DataW.Trod enc Tryz.prog W 0 (fun _=>true) true 9 v d p) (hl:Wl 9 d):
  ∃ s:ByteArray,v=.string s/\s.size<=140737488351232:=by
 obtain ⟨s,rfl⟩:=okWide_string Tryz.underlying9 hval;obtain ⟨n,h⟩:=h;obtain ⟨s',h1,h2,-⟩:=DataW.trod_string Tryz.underlying9 h;have:(Value.string s).cells.toList=[Value.string s]:=rfl;rw [this] at h1;injection h1 with h1 _
 injection h1 with h1
 subst h1;have h3:d=.lit (.string s.data.toList):=congrArg Prod.fst h2;subst h3;have:=Wl.string hl;exact ⟨s,rfl,by simpa using this⟩
end Go.Proofs.YtjjfphalcibjfaaGreatDoor
namespace Cdk
open Go Go.ChangeShapes Go.WideShapes Go.ChangeAt Go.RowKit
theorem carried {P:Program} (hl:laidOutB P=true) {H:Type} {enc:TypeId × Value -> H} {W W':World} (hx:Ext W W'):∀ (ts:List TypeId) (vs:List Value) (ds:List (DataW H)) (ps:List MemPlace),
  ts.all (fun t=>P.readableRec t && decide (t < P.types.size))=true -> DataW.TrodAll enc P W 0 (fun _=>true) true ts vs ds ps →
  DataW.TrodAll enc P W' 0 (fun b=>decide (b < W.heap.size)) true ts vs ds ps
 | [],_,_,_,_,h=>by
  obtain ⟨rfl,rfl,rfl⟩:=trodAll_nil h
  rfl
 | t::ts,_,_,_,hr,h=>by
  have hlt:=DataW.TrodAll.lt h;obtain ⟨v,vs,d,ds,p,q,rfl,rfl,rfl,h1,h2⟩:=trodAll_cons h;rw [List.all_cons,Bool.and_eq_true,Bool.and_eq_true,decide_eq_true_eq] at hr;exact ⟨p,q,Below.trod hl hr.1.1 hr.1.2 h1 (hx.below (Nat.le_refl _) (fun _ hk=>nomatch hk)) (fun x hp=>hlt x (List.mem_append_left _ hp)),carried hl hx ts vs ds q hr.2 h2,rfl⟩
theorem zls {P:Program} (hl:laidOutB P=true) {tb:TypeId} (htb:P.underlying tb=some .bool) {H:Type} {enc:TypeId × Value -> H} {f:Func} {s:ChangeSpec} {apart fresh handsOn:Bool} {W W':World} {args:Array Value} {ds gs:List (DataW H)} {before:List MemPlace}
  (hW:DataW.Whole enc P f.params.toList s.vars apart W args.toList ds gs before) (hr:f.params.toList.all (fun t=>P.readableRec t && decide (t < P.types.size))=true)
  (hv:s.vars=[]) (hf:f.resultTypes=#[tb]) (h1:(s.fn H (ds++gs)).results=[.lit (.bool true)]) (h2:(s.fn H (ds++gs)).args=ds) (h3:(s.fn H (ds++gs)).vars=[]) (hx:Ext W W'):
  s.post enc P f apart fresh handsOn false W args (.bool true) W':=by
 have hW':=hW;obtain ⟨p,q,hA,hV,rfl,-,-⟩:=hW;refine ⟨ds,gs,_,[],p,[],hW',?_,?_,?_,Below.frame (hx.below (Nat.le_refl _) (fun _ hk=>nomatch hk)) _,fun h=>nomatch h⟩
 ·rw [h1,hf]
  exact trodAll_mk1 (shut_bool htb true)
 ·rw [h2]
  exact carried hl hx _ _ _ _ hr hA
 ·rw [hv,h3]
  rfl
end Cdk
namespace Go.Proofs.YtjjfphalcibjfaaGreatDoor
open Go.ChangeShapes Go.WideShapes Go.ChangeAt Go.RowKit Cdk Scr
theorem own:ownKnob Tryz.prog.godebug=none:=by kernel_rfl
theorem laidOut:laidOutB Tryz.prog=true:=by kernel_rfl
abbrev ziM : List (String × DataW Unit) := [("math/bits.deBruijn32tab", Rows.laid_math_bits_deBruijn32tab), ("math/bits.deBruijn64tab", Rows.laid_math_bits_deBruijn64tab), ("internal/strconv.uint64pow10", Rows.laid_internal_strconv_uint64pow10), ("unicode/utf8.acceptRanges", Rows.laid_unicode_utf8_acceptRanges), ("errors.errorType", Rows.laid_errors_errorType), ("copydesk/wire.shifts", Rows.laid_copydesk_wire_shifts), ("strconv.ErrRange", Rows.laid_strconv_ErrRange), ("strconv.ErrSyntax", Rows.laid_strconv_ErrSyntax), ("unicode/utf8.first", Rows.laid_unicode_utf8_first)]
abbrev zfU : List (String × DataW Unit) := [("math/bits.deBruijn32tab", Rows.laid_math_bits_deBruijn32tab), ("math/bits.deBruijn64tab", Rows.laid_math_bits_deBruijn64tab), ("internal/strconv.uint64pow10", Rows.laid_internal_strconv_uint64pow10), ("unicode/utf8.acceptRanges", Rows.laid_unicode_utf8_acceptRanges), ("copydesk/wire.shifts", Rows.laid_copydesk_wire_shifts), ("strconv.ErrRange", Rows.laid_strconv_ErrRange), ("strconv.ErrSyntax", Rows.laid_strconv_ErrSyntax), ("unicode/utf8.first", Rows.laid_unicode_utf8_first)]
theorem zh7 {P:Program} {w:World} {g:Nat} {t:TypeId} {k:IntKind} {zero:Array Value} (h:w.ShapedOpen P) (hg:g < P.globals.size)
  (h0:((begin P (fun _ _=>0) default).world.heap[g]?).bind Obj.row?=some (zero,t)) (hz:zero.size=1)
  (hb:P.buildable t=true) (hc:P.cellTypes P.depth t=some [t]) (hu:P.underlying t=some (.int k)):∃ m,w.cell? ⟨g,0,none⟩=some (.int k m):=by
 obtain ⟨cs,hh,hs,hr⟩:=h.1 g zero t hg h0;obtain ⟨ts,hts,_,hall⟩:=hr hb;rw [hc] at hts;cases hts
 have h1:0 < cs.size:=by omega
 obtain ⟨u,hu',hok⟩:=hall 0 cs[0] (by simp [h1]);have:u=t:=by simpa using hu'.symm
 subst this;have hcell:w.cell? ⟨g,0,none⟩=some cs[0]:=by simp [World.cell?,hh,h1]
 rw [hcell];unfold Cell.ok at hok;rw [hu] at hok;cases hv:cs[0] <;> rw [hv] at hok <;> simp at hok
 obtain ⟨h1,-⟩:=hok;subst h1;exact ⟨_,rfl⟩
theorem zg4 {P:Program} {w:World} {g:Nat} {t:TypeId} {zero:Array Value} (h:w.ShapedOpen P) (hg:g < P.globals.size)
  (h0:((begin P (fun _ _=>0) default).world.heap[g]?).bind Obj.row?=some (zero,t)):g < w.heap.size:=by
 obtain ⟨cs,hh,-⟩:=h.1 g zero t hg h0;exact zas hh
theorem zmC:(Rows.laid_internal_strconv_uint64pow10:DataW Unit)=Lib.tabData .u64 Lib.pow10Tab:=by kernel_rfl
theorem zl4:(Rows.laid_copydesk_wire_shifts:DataW Unit)=Lib.tabData .u32 zjg:=by kernel_rfl
theorem hname : (Tryz.prog.cutTypes.find? (·.1 == "internal/reflectlite.rtype")).map (·.2) = some 221 := by kernel_rfl
theorem types_size:Tryz.prog.types.size=304:=by kernel_rfl
theorem oneRow:((List.range 304).filter fun t=>Tryz.prog.rowNamed t [101,114,114,111,114])=[67]:=by kernel_rfl
theorem zmP : Tryz.prog.globalNamed "errors.errorType" = some 1 := by kernel_rfl
theorem zjt : ("*" ++ "errors.errorString" : String) = "*errors.errorString" := by decide
theorem zgz (u : TypeId) (h : Tryz.prog.typeName? 3 u = some "*errors.errorString") : u = 268 :=
 typeName_ptr_named (nm := "errors.errorString") (by rw [zjt]; kernel_rfl) (by kernel_rfl) (by decide) u (by rw [zjt]; exact h)
theorem zkS {W : World} (h : handlesMet Tryz.prog [("errors.errorType", Rows.laid_errors_errorType)] W) : W.cell? ⟨1, 0, none⟩ = some (.iface 221 (.agg #[.pointer (some ⟨10, 67, none⟩)])) := by
 obtain ⟨name,u,ty,e1,e2,e3,e4,e5⟩:=h _ (List.mem_singleton.2 rfl);have en:name=[101,114,114,111,114]:=(Option.some.inj e1).symm;subst en;obtain rfl:=Option.some.inj (hname.symm.trans e2);have hm:ty ∈ (List.range 304).filter fun t=>Tryz.prog.rowNamed t [101,114,114,111,114]:=List.mem_filter.2 ⟨List.mem_range.2 (by rw [<- types_size];exact e3),e4⟩
 rw [oneRow] at hm;obtain rfl:=List.mem_singleton.1 hm;have hh:typeHandle Tryz.prog 67=.pointer (some ⟨10,67,none⟩):=by kernel_rfl
 rw [hh] at e5;simpa using World.var?_cell zmP e5 0
theorem zkL {W : World} (h : laidMetH Tryz.prog ziM W) : laidMet Tryz.prog zfU W /\ handlesMet Tryz.prog [("errors.errorType", Rows.laid_errors_errorType)] W := h
theorem zpq {W:World} (h:laidMetH Tryz.prog ziM W) (hs:W.ShapedOpen Tryz.prog):Gl W:=by
 obtain ⟨hd,hh⟩:=zkL h;have h3:=hd.tail.tail;have h4:=hd.tail.tail.tail.tail;have h5:=hd.tail.tail.tail.tail.tail;have h6:=hd.tail.tail.tail.tail.tail.tail;rw [zmC] at h3;rw [zl4] at h4;refine ⟨?_,?_,?_,?_,?_,zkS hh,?_⟩
 ·exact Lib.tabIs_of_head (g:=3) (t:=((Tryz.prog.globals[3]?).map (·.type)).getD 0) (e:=((Tryz.prog.underlying (((Tryz.prog.globals[3]?).map (·.type)).getD 0)).bind fun | .array _ e=>some e | _=>none).getD 0) (n:=20) (by kernel_rfl) (by kernel_rfl) (by kernel_rfl) (by kernel_rfl) (by kernel_rfl) (by kernel_rfl) h3
 ·exact Lib.tabIs_of_head (g:=0) (t:=((Tryz.prog.globals[0]?).map (·.type)).getD 0) (e:=((Tryz.prog.underlying (((Tryz.prog.globals[0]?).map (·.type)).getD 0)).bind fun | .array _ e=>some e | _=>none).getD 0) (n:=16) (by kernel_rfl) (by kernel_rfl) (by kernel_rfl) (by kernel_rfl) (by kernel_rfl) (by kernel_rfl) h4
 ·exact zh7 (zero:=#[.int .i64 0]) (t:=3) hs (by decide+kernel) (by kernel_rfl) rfl (by kernel_rfl) (by kernel_rfl) (by kernel_rfl)
 ·obtain ⟨a,s,hv,-⟩:=laid_sentinel (g:=4) (ti:=67) (tp:=268) (te:=270) (ts:=9) (ms:=((match Tryz.prog.underlying 67 with | some (.interface ms)=>some ms | _=>none).getD #[])) (f:=((match Tryz.prog.underlying 270 with | some (.struct fs)=>fs[0]? | _=>none).getD default)) h6 (by kernel_rfl) (by kernel_rfl) (by kernel_rfl) zgz (by kernel_rfl) (by kernel_rfl) (by kernel_rfl) (by kernel_rfl) (by kernel_rfl) (by kernel_rfl) (by kernel_rfl)
  exact ⟨_,_,hv⟩
 ·obtain ⟨a,s,hv,-⟩:=laid_sentinel (g:=5) (ti:=67) (tp:=268) (te:=270) (ts:=9) (ms:=((match Tryz.prog.underlying 67 with | some (.interface ms)=>some ms | _=>none).getD #[])) (f:=((match Tryz.prog.underlying 270 with | some (.struct fs)=>fs[0]? | _=>none).getD default)) h5 (by kernel_rfl) (by kernel_rfl) (by kernel_rfl) zgz (by kernel_rfl) (by kernel_rfl) (by kernel_rfl) (by kernel_rfl) (by kernel_rfl) (by kernel_rfl) (by kernel_rfl)
  exact ⟨_,_,hv⟩
 ·exact zg4 (g:=9) (t:=((((begin Tryz.prog (fun _ _=>0) default).world.heap[9]?).bind Obj.row?).map (·.2)).getD 0) (zero:=((((begin Tryz.prog (fun _ _=>0) default).world.heap[9]?).bind Obj.row?).map (·.1)).getD #[]) hs (by decide+kernel) (by kernel_rfl)
noncomputable def zpP (os:Os):World:=
 let w0:=World.holding Tryz.prog os ⟨#[],#[],[]⟩
 { w0 with heap:=w0.heap.modify 1 fun
   | .cells _ t frozen=>.cells #[.iface 221 (.agg #[.pointer (some ⟨10,67,none⟩)])] t frozen
   | o=>o }
noncomputable def wit (os:Os):World:=(zpP os).layVars Tryz.prog zfU
theorem zoH (os:Os):(wit os).os=os:=World.layVars_os _ _ _
theorem znD (os:Os) (args:Array Value):laidMetH Tryz.prog ziM ((wit os).forCall (fun _ _=>0) ⟨#[],args,[]⟩).memory:=by
 refine laidMetH_of_parts ?_ (by kernel_rfl);have e0:(ziM.filter fun x=>x.2.handleName?.isNone)=zfU:=rfl;rw [e0];have e1:(zfU.filter fun x=>(zfU.map (·.1)).contains x.1)=zfU:=List.filter_eq_self.2 fun x hx=>List.contains_iff_mem.2 (List.mem_map.2 ⟨x,hx,rfl⟩)
 have e2:(zfU.filter fun x=>!(zfU.map (·.1)).contains x.1)=[]:=List.filter_eq_nil_iff.2 fun x hx=>by rw [List.contains_iff_mem.2 (List.mem_map.2 ⟨x,hx,rfl⟩)];simp
 have h:laidMet Tryz.prog zfU (wit os):=laidMet_layVars (w0:=zpP os) (zfU.map (·.1)) [] (by rw [e1];rfl) (by rw [e1];kernel_rfl) (by rw [e1];kernel_rfl) (by rw [e2];exact LaidIn.none);exact h.of_heap (by simp [World.memory,World.forCall,Input.heap])
theorem zhu {H:Type} {enc:TypeId × Value -> H} {a:Assume} {C:Checked} {os:Os} {f:FuncId} {fn:Func} {s:ChangeSpec} {conds:List PathCond} {apart fresh handsOn again:Bool} {X:World -> Array Value -> Prop}
  (hX:∀ (w w':World) (args:Array Value),w.heap=w'.heap -> X w args -> X w' args)
  (own:ownKnob C.prog.godebug=none) (started:os.Started) (noInit:C.prog.inits.idxOf? f=none) (hfn:C.prog.funcs[f]?=some fn)
  (witness:∃ (w:World) (tape:Tape) (i:Input),w.os=os/\(w.forCall tape i).Shaped C.prog/\i.vars=[]/\Input.okWide C.prog (w.forCall tape i) .any w.heap.size f i ∧
   ((s.pre enc C.prog fn conds apart (w.forCall tape i).memory i.args/\X (w.forCall tape i).memory i.args)/\sizedMet enc C.prog fn (OpenSpec.ofChange s) apart (w.forCall tape i).memory i.args)/\a.holds C.prog (lone (Frame.enter C.prog f i.args .normal) [] (w.forCall tape i)))
  (contract:∀ (W:World) (base:Nat) (args:Array Value) (ds gs:List (DataW H)) (before:List MemPlace),
   (∀ (j:Nat) t v,fn.params[j]?=some t -> args[j]?=some v -> Value.okWide C.prog W .any base t v) →
   DataW.Whole enc C.prog fn.params.toList s.vars apart W args.toList ds gs before →
   (DataW.weightsEach C.prog (fn.params.toList++s.plain.varTypes C.prog) (ds++gs)).all (·<=reachBytes)=true -> X W args -> W.ShapedOpen C.prog →
   Calls C.prog f args W fun e W'=>∃ v,e=.returned v/\s.post enc C.prog fn apart fresh handsOn again W args v W'):
  ReturnsInHanded a C os f .any (fun w args=>(s.pre enc C.prog fn conds apart w args/\X w args)/\sizedMet enc C.prog fn (OpenSpec.ofChange s) apart w args) (s.post enc C.prog fn apart fresh handsOn again):=by
 refine returnsInHanded_of_calls own started noInit witness ?_;intro w tape i _ hsh _ hok hpre hholds;obtain ⟨_,_,_,fn',hfn',_,_,_,_,hval⟩:=hok;have e:fn'=fn:=Option.some.inj (hfn'.symm.trans hfn);subst e;obtain ⟨⟨⟨ds,gs,before,hw,hc⟩,hx⟩,hz⟩:=hpre;have hw':=DataW.Whole.of_heap (w':=w.forCall tape i) (by rfl) hw;refine (contract (w.forCall tape i) w.heap.size i.args ds gs before hval hw' (hz.weights hw) (hX _ _ _ (by rfl) hx) hsh).mono fun e W' ⟨v,he,hp⟩=>?_
 subst he;exact ChangeSpec.post_blind hp
theorem bt {a b:Bool} (h:a=true) (k:b=true):(a && b)=true:=by rw [h,k];rfl
theorem zoM:(mapsRowed Tryz.prog)=true:=by kernel_rfl
theorem zn9:(Tryz.prog.stops==[])=true:=by kernel_rfl
theorem zn2:(Tryz.prog.stopKnobs==[])=true:=by kernel_rfl
theorem zoe:(Rows.scriptLimitsRow.plainKeys==Tryz.prog.plainKeys)=true:=by kernel_rfl
theorem zn5:(Tryz.prog.stopsHeard)=true:=by kernel_rfl
theorem znz:(Tryz.prog.mayEnter)=true:=by kernel_rfl
theorem zoc:(Rows.scriptLimitsRow.lifted==Tryz.prog.liftsFinal)=true:=by kernel_rfl
theorem zpc:(Tryz.prog.make==some Rows.scriptLimitsRow.make)=true:=by kernel_rfl
theorem zo8 : Tryz.prog.mainIs = some (true, ("4cf7673d7f0824c597bc1be1c6424031f8cc8997be29c3c5e4c9ab354cc86b93" : String).toList) := by kernel_rfl
theorem zof:true=Tryz.prog.looks []:=by kernel_rfl
end Go.Proofs.YtjjfphalcibjfaaGreatDoor
/- Proved here: ScriptParseMatchesReference answers true whatever the string is, and the arguments read afterwards as they read before; the tied card. No condition beyond the given row's. -/
namespace Go.Proofs.YtjjfphalcibjfaaGreatDoor
open Go.ChangeShapes Go.WideShapes Go.ChangeAt Go.RowKit Cdk Scr
theorem zgQ (os:Os) (started:os.Started) (H:Type) (enc:TypeId × Value -> H):
  ReturnsInHanded {} Tryz.checked os 5 .any (fun w args=>(Rows.scriptParseMatchesReferenceSpec.pre enc Tryz.prog Tryz.f5 Rows.scriptParseMatchesReferenceRow.domain false w args/\laidMetH Tryz.prog ziM w)/\sizedMet enc Tryz.prog Tryz.f5 (OpenSpec.ofChange Rows.scriptParseMatchesReferenceSpec) false w args)
   (Rows.scriptParseMatchesReferenceSpec.post enc Tryz.prog Tryz.f5 false true false false):=by
 refine zhu (C:=Tryz.checked) (X:=fun w _=>laidMetH Tryz.prog ziM w) (fun _ _ _ hh h=>h.of_heap hh) own started (by kernel_rfl) Tryz.func5
  (ChangeSpec.witness_shaped (enc:=enc) (C:=Tryz.checked) (os:=os) (X:=fun w _=>laidMetH Tryz.prog ziM w) false (wit os) #[.string .empty] 8 (zoH _)
   (World.shaped_of_ZipB (by kernel_rfl) (by kernel_rfl)) (by kernel_rfl) (by kernel_rfl) (by kernel_rfl)
   (znD os _)) ?_
 intro W base args ds gs before hval0 hW hwt0 hL hS;have hval:∀ (j:Nat) t v,Tryz.f5.params[j]?=some t -> args[j]?=some v -> Value.okWide Tryz.prog W .any base t v:=hval0;have hW':=hW;obtain ⟨p,q,hA0,hV,rfl,hfz,hnd⟩:=hW;have hA:DataW.TrodAll enc Tryz.prog W 0 (fun _=>true) true Tryz.f5.params.toList args.toList ds p:=hA0;have hwt:(DataW.weightsEach Tryz.prog (Tryz.f5.params.toList++Rows.scriptParseMatchesReferenceSpec.plain.varTypes Tryz.prog) (ds++gs)).all (·<=reachBytes)=true:=hwt0;rw [Tryz.params5] at hA hval hwt;obtain ⟨v0,d0,rfl,rfl,h0⟩:=trodAll_one hA;obtain ⟨rfl,rfl⟩:=trodVars_none hV;obtain ⟨s0,rfl,hz0⟩:=ziZ (hval 0 9 v0 rfl rfl) h0 (Wl.of_each (j:=0) hwt rfl rfl);refine (zjY s0 hz0 W (zpq hL hS)).mono fun e W' ⟨he,hw⟩=>?_
 exact ⟨_,he,zls (P:=Tryz.prog) laidOut Tryz.underlying4 hW' (by kernel_rfl) rfl (by kernel_rfl) rfl rfl rfl hw⟩
theorem zl7:(Rows.scriptParseMatchesReferenceRow.wf (OpenSpec.ofChange Rows.scriptParseMatchesReferenceSpec))=true:=by kernel_rfl
theorem zl1:(Tryz.f5.params.all (Tryz.prog.readableRec ·))=true:=by kernel_rfl
theorem zl9:(namedTie Tryz.prog Rows.scriptParseMatchesReferenceRow.named Rows.scriptParseMatchesReferenceSpec.vars)=true:=by kernel_rfl
theorem zli:(Rows.scriptParseMatchesReferenceRow.stops==[])=true:=by kernel_rfl
theorem zmd:(Rows.scriptParseMatchesReferenceRow.knobs==[])=true:=by kernel_rfl
theorem zk4:(Rows.scriptParseMatchesReferenceRow.inPlace==Tryz.prog.inPlace 5)=true:=by kernel_rfl
theorem zkg:(Rows.scriptParseMatchesReferenceRow.unfollowed==Tryz.prog.unfollowed 5)=true:=by kernel_rfl
theorem zj5:(Rows.scriptParseMatchesReferenceRow.recurses==Tryz.prog.recurses 5)=true:=by kernel_rfl
theorem zkf:(Rows.scriptParseMatchesReferenceRow.named==Tryz.prog.varsNamed 5)=true:=by kernel_rfl
theorem zkF:(Rows.scriptParseMatchesReferenceRow.maps==(Tryz.f5.params.toList++Rows.scriptParseMatchesReferenceSpec.plain.varTypes Tryz.prog).any (Tryz.prog.mapsRec ·))=true:=by kernel_rfl
theorem zjR:(Rows.scriptParseMatchesReferenceRow.ifaces==(Tryz.f5.params.toList++Rows.scriptParseMatchesReferenceSpec.plain.varTypes Tryz.prog).any (Tryz.prog.ifacesRec ·))=true:=by kernel_rfl
theorem zj2:(Rows.scriptParseMatchesReferenceRow.mapsOut==Tryz.prog.mapsAmong Tryz.f5.resultTypes.toList)=true:=by kernel_rfl
theorem zkk:(Rows.scriptParseMatchesReferenceRow.loops==(Tryz.f5.params.toList++Rows.scriptParseMatchesReferenceSpec.plain.varTypes Tryz.prog).any (Tryz.prog.loopsFrom ·))=true:=by kernel_rfl
theorem zkM:(Rows.scriptParseMatchesReferenceRow.wideKeys==(Tryz.f5.params.toList++Rows.scriptParseMatchesReferenceSpec.plain.varTypes Tryz.prog++Tryz.f5.resultTypes.toList).any (Tryz.prog.wideKeysFrom ·))=true:=by kernel_rfl
theorem zkJ:(Rows.scriptParseMatchesReferenceSpec.vars.all (Tryz.prog.varReadable ·))=true:=by kernel_rfl
theorem zkv:(Tryz.f5.resultTypes.all (fun t=>Tryz.prog.readableRec t && decide (t < Tryz.prog.types.size)))=true:=by kernel_rfl
theorem zkB:(Rows.scriptParseMatchesReferenceRow.ifacesOut==Tryz.f5.resultTypes.toList.any (Tryz.prog.ifacesRec ·))=true:=by kernel_rfl
theorem zjZ:(Rows.scriptParseMatchesReferenceRow.loopsOut==Tryz.f5.resultTypes.toList.any (Tryz.prog.loopsFrom ·))=true:=by kernel_rfl
theorem zkC:(Rows.scriptParseMatchesReferenceRow.shortTexts.isNone)=true:=by kernel_rfl
theorem zkH:(Rows.scriptParseMatchesReferenceRow.kinds==(if Rows.scriptParseMatchesReferenceRow.domain.isEmpty then [] else Tryz.f5.params.toList.map fun t=>match Tryz.prog.underlying t with | some (.int k)=>some k | _=>none))=true:=by kernel_rfl
theorem zkp:(Rows.scriptParseMatchesReferenceRow.pinned==Rows.scriptParseMatchesReferenceRow.pinnedBy)=true:=by kernel_rfl
theorem zkG:(Rows.scriptParseMatchesReferenceRow.veiled==(Tryz.f5.params.toList++Rows.scriptParseMatchesReferenceSpec.plain.varTypes Tryz.prog++Tryz.f5.resultTypes.toList).any (Tryz.prog.veiledRec ·))=true:=by kernel_rfl
theorem zj8:(Rows.scriptParseMatchesReferenceRow.veiledFits Tryz.prog Tryz.f5.params.toList (Tryz.f5.params.toList++Rows.scriptParseMatchesReferenceSpec.plain.varTypes Tryz.prog++Tryz.f5.resultTypes.toList))=true:=by kernel_rfl
theorem zhi:joinedFacts Tryz.prog 5 Tryz.f5 Rows.scriptParseMatchesReferenceSpec Rows.scriptParseMatchesReferenceRow=true:=by
 unfold joinedFacts;exact bt (bt (bt (bt (bt (bt (bt (bt (bt (bt (bt (bt (bt (bt (bt (bt (bt (bt (bt (bt (bt (bt (bt (bt (bt (bt (bt (bt (bt (bt (bt zl7 laidOut) zoM) zl1) zl9) zli) zn9) zmd) zn2) zk4) zkg) zj5) zkf) zkF) zjR) zj2) zkk) zkM) zkJ) zkv) zkB) zjZ) zoe) zkC) zn5) znz) zoc) zpc) zkH) zkp) zkG) zj8
theorem zeA : Tryz.prog.funcNamed "copydesk/copydesklaw28.ScriptParseMatchesReference" = some 5 := by kernel_rfl
theorem ziW:false=Rows.scriptParseMatchesReferenceRow.goesBy Tryz.prog:=by kernel_rfl
theorem zjS:Rows.scriptParseMatchesReferenceRow.wfByText (OpenSpec.ofChange Rows.scriptParseMatchesReferenceSpec)=true:=by kernel_rfl
theorem ziO:Rows.ScriptParseMatchesReferenceSaid:=
 OpenClaim.holds_of_wide 5 Tryz.f5 rfl rfl rfl rfl rfl rfl rfl ⟨rfl,rfl,rfl,rfl,rfl⟩ rfl rfl rfl rfl rfl zeA Tryz.func5 zhi
  (of_decide_eq_true (by kernel_rfl)) (by unfold Func.isWrapper;first | (rw [if_pos (by decide+kernel)];kernel_rfl) | (rw [if_neg (by decide+kernel)];exact ⟨rfl,rfl⟩))
  (fun os started H enc _=>zgQ os started H enc)
theorem zhr : ∀ f fn, Tryz.prog.funcNamed "copydesk/copydesklaw28.ScriptParseMatchesReference" = some f -> Tryz.prog.funcs[f]? = some fn -> true = Tryz.prog.looks [] /\ ∀ (j : Nat) t, fn.params[j]? = some t -> Tryz.prog.wantsStandIn t = false := fun f fn hf hfn => by
 obtain rfl:f=5:=(Option.some.inj (zeA.symm.trans hf)).symm
 obtain rfl:fn=Tryz.f5:=(Option.some.inj (Tryz.func5.symm.trans hfn)).symm
 exact ⟨zof,fun j t ht=>by
  rw [Tryz.params5] at ht;have hm:t ∈ [9]:=by simpa using Array.mem_of_getElem? ht
  have hall:([9].all fun u=>!Tryz.prog.wantsStandIn u)=true:=by kernel_rfl
  exact (show Tryz.prog.wantsStandIn t=false by simpa using List.all_eq_true.1 hall t hm)⟩
theorem parses_holds:Rows.ScriptParseMatchesReferenceCardSaid:=
 Claim7.holds_tied_plain_at .later [] [.data, .data, .data, .data, .handle, .data, .sentinel, .sentinel, .pinned] true (true, "4cf7673d7f0824c597bc1be1c6424031f8cc8997be29c3c5e4c9ab354cc86b93") true
  ziO (fun _ h=>by cases h) zjS (fun _ h=>by cases h) scriptParseMatchesReference_row_tie rfl ⟨rfl,rfl⟩ zo8 rfl
  zhr ziW
end Go.Proofs.YtjjfphalcibjfaaGreatDoor
