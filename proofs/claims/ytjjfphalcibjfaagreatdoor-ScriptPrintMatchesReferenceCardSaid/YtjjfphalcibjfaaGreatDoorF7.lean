import Derived.Test.YtjjfphalcibjfaaGreatDoorF6
set_option maxRecDepth 100000
set_option maxHeartbeats 16000000
namespace Go.Proofs.YtjjfphalcibjfaaGreatDoor
open Go.Shelf Go.RowKit Cdk Scr
def shV (L:Nat):Value -> Value
 | .slice a n c=>.slice a (min n L) c
 | v=>v
def shP (p:AV × Ac):AV × Ac:=(⟨⟨p.1.fc.tp,shV 5 p.1.fc.bl,p.1.fc.af⟩,shV 70 p.1.fa,shV 70 p.1.ke⟩,shA p.2)
theorem zl9 {F:Nat -> Prop} {w:World} {p:AV × Ac} (h:AcAt F w p.1 p.2):AcAt F w (shP p).1 (shP p).2:=by
 obtain ⟨⟨⟨tp,bl,af⟩,fa,ke⟩,a⟩:=p;obtain ⟨a2,c2,e2⟩:=h.fc.bl.slice;obtain ⟨a4,c4,e4⟩:=h.fa.slice;obtain ⟨a5,c5,e5⟩:=h.ke.slice;simp only at e2 e4 e5;subst e2 e4 e5;exact ⟨⟨h.fc.tp,(zf2 h.fc.bl 5).2.2,h.fc.af⟩,(zdq h.fa 1 zbb 70).2.2,(zdq h.ke 1 zbb 70).2.2⟩
theorem zmO (rows:List (AV × Ac)):(rows.map shP).map Prod.snd=(rows.map Prod.snd).map shA:=by
 rw [List.map_map,List.map_map];rfl
def zmJ (w:World) (L:List Ac) (e:Ending) (w':World):Prop:=∃ (ao:Option Addr) (cap:Nat),e=.returned (.slice ao L.length cap)/\zbK (fun k=>k < w'.heap.size) w' (.slice ao L.length cap) L/\Ext w w'
theorem ziv (v:Value) (l:List Ac) (w:World) (h:zbK (fun k=>k < w.heap.size) w v l) (hb:∀ a ∈ l,a.tx.length < 4611686018427387904/\a.ms.da.length < 4611686018427387904):
  Calls Tryz.prog 18 #[v] w (zmJ w ((l.take 105).map shA)):=by
 obtain ⟨rows,rfl,hR,hA⟩:=h;obtain ⟨ao,cap,rfl⟩:=hR.slice;have hlen:=hR.len;obtain ⟨N,hN⟩:∃ N,N=min rows.length 105:=⟨_,rfl⟩;have hN1:N<=105:=by omega
 have hN2:N<=rows.length:=by omega
 have hN3:N=105 \/ N=rows.length:=by omega
 have hbr:∀ p ∈ rows,p.2.tx.length < 4611686018427387904/\p.2.ms.da.length < 4611686018427387904:=fun p hp=>hb p.2 (List.mem_map.2 ⟨p,hp,rfl⟩)
 have htk:rows.take N=rows.take 105:=by
  rcases hN3 with h | h
  ·rw [h]
  ·rw [h,List.take_length,List.take_of_length_le (by omega)]
 have hres:((rows.take N).map shP).map Prod.snd=((rows.map Prod.snd).take 105).map shA:=by rw [zmO,htk,List.map_take]
 replace hR:=hid hR;replace hA:=hid hA;replace hbr:=hid hbr;replace htk:=hid htk;replace hN:=hid hN;clear hb;obtain ⟨LL,hLL⟩:∃ LL,LL=((rows.map Prod.snd).take 105).map shA:=⟨_,rfl⟩;rw [<- hLL] at hres ⊢;replace hLL:=hid hLL;replace hres:=hid hres;go_enter Tryz.func18,Tryz.ntmps18;go_wp2_with fail
 go_loopg [3,4] N (fun g o i wr=>∃ (j:Nat) (av:Option Addr) (cv:Nat),j+g=N/\i=.int .i64 j/\o=.slice av j cv/\Cdk.Own wr w.heap.size 32 36 acC (.slice av j cv) ((rows.take j).map shP)/\Ext w wr)
 case atStart=>exact ⟨0,none,0,by omega,rfl,rfl,Own.nil _ _ _ _ _,Mod.refl _ _⟩
 case round=>
  obtain ⟨j,av,cv,hj,rfl,rfl,hO,hx⟩:=hrel;have hsz:w.heap.size<=wr.heap.size:=hx.size;replace hO:=hid hO;replace hx:=hid hx
  by_cases hlt:j < N
  ·have hjr:j < rows.length:=by omega
   have hj105:j < 105:=by omega
   have hdi:(j:Int) < (rows.length:Int):=by omega
   have hdi2:(j:Int) < 105:=by omega
   have hd:decide ((j:Int) < (rows.length:Int))=true:=decide_eq_true hdi;have hd2:decide ((j:Int) < 105)=true:=decide_eq_true hdi2;have hjw:IntKind.i64.wrap ((j:Int)+1)=(j:Int)+1:=IntWalk.i64_in _ (by omega);obtain ⟨b1,o1,cap1,e1,-,hc⟩:=hR.out.get 36 zej (by decide) hjr;injection e1 with e1 _ e3
   subst e1 e3;obtain ⟨p,hp⟩:∃ p,p=rows[j]:=⟨_,rfl⟩;have hAp:=hA.out rows[j] (List.getElem_mem _);have hbp:=hbr.out rows[j] (List.getElem_mem _);have hms:=zkg shP rows hjr;rw [<- hp] at hc hAp hbp hms;obtain ⟨sv,a⟩:=p;simp only at hAp hbp;obtain ⟨a1,n1,c1,a2,n2,c2,a3,n3,c3,a4,n4,c4,a5,n5,c5,rfl⟩:=zbF hAp;obtain ⟨V,hV⟩:∃ V,V=acA a1 n1 c1 a2 n2 c2 a3 n3 c3 a4 n4 c4 a5 n5 c5 a:=⟨_,rfl⟩;have hr:wr.rangeAt b1 (o1+j*36) V.toList:=fun i u hu=>by
    have hu':(acC (⟨⟨.slice a1 n1 c1,.slice a2 n2 c2,.slice a3 n3 c3⟩,.slice a4 n4 c4,.slice a5 n5 c5⟩,a))[i]?=some u:=by rw [hV] at hu;exact hu
    exact hx.out.cell (hc i u (List.getElem?_eq_some_iff.1 hu').1 hu') (fun h=>h)
   have hVs:V.size=36:=by rw [hV];rfl
   have hVi:(Tryz.prog.info? 32).map (·.size)=some V.size:=by rw [hVs];kernel_rfl
   have hsh:=short_any a1 n1 c1 a2 n2 c2 a3 n3 c3 a4 n4 c4 a5 n5 c5 a wr (hAp.ext hx.out) hbp.1 hbp.2;rw [<- hV] at hsh;obtain ⟨U,hU⟩:∃ U,U=acA a1 n1 c1 a2 (min n2 5) c2 a3 n3 c3 a4 (min n4 70) c4 a5 (min n5 70) c5 (shA a):=⟨_,rfl⟩;rw [<- hU] at hsh;have hUs:Hid (U.size=36):=hid (by rw [hU];rfl);obtain ⟨X,hX⟩:∃ X,X=shP (⟨⟨.slice a1 n1 c1,.slice a2 n2 c2,.slice a3 n3 c3⟩,.slice a4 n4 c4,.slice a5 n5 c5⟩,a):=⟨_,rfl⟩;have hXU:acC X=U.toList:=by rw [hX,hU];rfl
   have h1c:Hid (∀ y ∈ [X],∀ u ∈ acC y,u.oneCell'=true):=hid (fun y hy u hu=>by simp only [List.mem_singleton] at hy;subst hy;rw [hX] at hu;exact zjV u hu);have hAX:=zl9 (p:=(⟨⟨.slice a1 n1 c1,.slice a2 n2 c2,.slice a3 n3 c3⟩,.slice a4 n4 c4,.slice a5 n5 c5⟩,a)) hAp;rw [<- hX] at hms hAX;replace hAX:=hid hAX;replace hms:=hid hms;replace hsh:=hid hsh;replace hr:=hid hr;replace hVi:=hid hVi;replace hVs:=hid hVs;replace hV:=hid hV;replace hU:=hid hU;replace hX:=hid hX;replace hXU:=hid hXU;replace hj:=hid hj;clear hc hAp hbp hp;go_wp2_with (refine zaC (by rfl) 32 _ rfl b1 (o1+j*36) V _ rfl hr.out Tryz.underlying32 rfl hVi.out ?_)
   refine hsh.out.mono ?_;rintro e w2 ⟨rfl,-,hx2⟩;have hxa:=hx2.alloc (.cells U 32);have hO2:=hid (hO.out.ext hxa);have hx02:=hid (hx.out.trans hxa)
   have hrowU:Hid (zaR (w2.alloc (.cells U 32)) (some ⟨w2.heap.size,0,none⟩) ([X].flatMap acC)):=hid (by
    have hh:=zaR.new w2 U.toList 32;rw [show U.toList.toArray=U from by simp] at hh;rw [show [X].flatMap acC=U.toList from by simp [hXU.out]]
    exact hh)
   have hsz2:w.heap.size<=w2.heap.size:=by have:=hx2.size;omega
   have hl1:Hid (((rows.take j).map shP).length+[X].length<=137438953472):=hid (by simp;omega);clear hsh hx2 hxa;go_wp2_with (first | (refine zdr rfl _ _ rfl Tryz.underlying37 elA (by decide) U rfl hUs.out ?_) | (at_builtin;refine zaX rfl _ _ _ rfl Tryz.underlying37 elA rfl hO2.out _ 1 1 rfl [X] rfl hrowU.out zej h1c.out hl1.out (by rw [World.size_alloc];omega) (fun e=>nomatch e) (fun v6 w6 H6=>?_);skip))
   obtain ⟨hO6,hm6⟩:=H6.out;have hx6:=hid (zbC hx02.out hO2.out (Nat.le_refl _) hm6);rw [<- hms.out] at hO6;obtain ⟨av6,cv6,rfl,-⟩:=hO6.row;have hl6:((rows.take (j+1)).map shP).length=j+1:=by rw [List.length_map,List.length_take];omega
   rw [hl6];rw [hl6] at hO6;clear H6 hm6 hl6;replace hO6:=hid hO6;go_wp2_with fail
   go_roundg (gk - 1)
   case measure=>have:=hj.out;omega
   case rel=>exact ⟨j+1,av6,cv6,by have:=hj.out;omega,by go_num,rfl,hO6.out,hx6.out⟩
  ·have hjN:j=N:=by omega
   subst hjN;have hrow:=zbM hO.out (by rw [List.length_map,List.length_take];omega);have hfin:zbK (fun k=>k < wr.heap.size) wr (.slice av j cv) LL:=by
    refine ⟨(rows.take j).map shP,hres.out,zai.mono hrow (fun k hk=>hk.2),fun p hp=>?_⟩;obtain ⟨q,hq,rfl⟩:=List.mem_map.1 hp;exact ((zl9 (hA.out q (List.mem_of_mem_take hq))).ext hx.out).mono (fun k hk=>by omega)
   have hlj:LL.length=j:=by rw [<- hres.out];simp;omega
   replace hfin:=hid hfin;replace hlj:=hid hlj;clear hrow
   by_cases hjr:j < rows.length
   ·have h105:j=105:=by omega
    have hdi:(j:Int) < (rows.length:Int):=by omega
    have hdi2:¬ (j:Int) < 105:=by omega
    have hd:decide ((j:Int) < (rows.length:Int))=true:=decide_eq_true hdi;have hd2:decide ((j:Int) < 105)=false:=decide_eq_false hdi2;replace h105:=hid h105;replace hj:=hid hj;go_wp2_with fail
    go_ret;exact ⟨av,cv,by rw [hlj.out];rfl,by rw [hlj.out];exact hfin.out,hx.out⟩
   ·have hdi:¬ (j:Int) < (rows.length:Int):=by omega
    have hd:decide ((j:Int) < (rows.length:Int))=false:=decide_eq_false hdi;replace hj:=hid hj;go_wp2_with fail
    go_ret;exact ⟨av,cv,by rw [hlj.out];rfl,by rw [hlj.out];exact hfin.out,hx.out⟩
end Go.Proofs.YtjjfphalcibjfaaGreatDoor
