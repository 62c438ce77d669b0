import Derived.Test.YtjjfphalcibjfaaGreatDoorB5
import Derived.Test.YtjjfphalcibjfaaGreatDoorB12
import Derived.Test.YtjjfphalcibjfaaGreatDoorD24
import Derived.Test.YtjjfphalcibjfaaGreatDoorH0
import Derived.Test.YtjjfphalcibjfaaGreatDoorC4
set_option maxRecDepth 100000
set_option maxHeartbeats 16000000
namespace Go.Proofs.YtjjfphalcibjfaaGreatDoor
open Go.Shelf Go.RowKit Cdk Scr
theorem zll {w:World} {B cv:Nat} {ao:Option Addr} {fs:List Int} (h:Cdk.Own w B 3 1 zcZ (.slice ao fs.length cv) fs) (hl:fs.length=6):∃ (g:Nat) (x1 x2 x3 x4 x5 x6:Int),fs=[x1,x2,x3,x4,x5,x6]/\ao=some ⟨g,0,none⟩/\w.cell? ⟨g,0,none⟩=some (.int .i64 x1)/\w.cell? ⟨g,1,none⟩=some (.int .i64 x2)/\w.cell? ⟨g,2,none⟩=some (.int .i64 x3)/\w.cell? ⟨g,3,none⟩=some (.int .i64 x4)/\w.cell? ⟨g,4,none⟩=some (.int .i64 x5)/\w.cell? ⟨g,5,none⟩=some (.int .i64 x6):=by
 match fs,hl with
 | [x1,x2,x3,x4,x5,x6],_=>
  rcases h.2 with ⟨hv,hn⟩ | ⟨g,cap,cur,hv,-⟩
  ·simp at hn
  ·injection hv with h1 h2 h3
   subst h1;have hc:=fun j u hu=>World.ownsRow.cells h (g:=g) rfl j u hu
   refine ⟨g,x1,x2,x3,x4,x5,x6,rfl,rfl,?_,?_,?_,?_,?_,?_⟩
   ·simpa [Addr.add_lit] using hc 0 (.int .i64 x1) rfl
   ·simpa [Addr.add_lit] using hc 1 (.int .i64 x2) rfl
   ·simpa [Addr.add_lit] using hc 2 (.int .i64 x3) rfl
   ·simpa [Addr.add_lit] using hc 3 (.int .i64 x4) rfl
   ·simpa [Addr.add_lit] using hc 4 (.int .i64 x5) rfl
   ·simpa [Addr.add_lit] using hc 5 (.int .i64 x6) rfl
theorem zmA {r da u:Bs} (h:zhj r=some (da,u)):da.length<=65536:=by
 have:=znp (.ok r);simpa [mS,mR,rbS,h] using this
theorem zfW (s:Bs) (hs:s.length<=1000000) (w:World):Calls Tryz.prog 86 #[.string ⟨s.toArray⟩] w (MsP w s):=by
 obtain ⟨U,hU⟩:∃ U,U=w.heap.size:=⟨_,rfl⟩;have hwU:w.heap.size<=U:=Nat.le_of_eq hU.symm;have hx0:=(Mod.refl (fun k=>U<=k) w).alloc (.cells #[.int .i64 0,.int .i64 0,.int .i64 0,.int .i64 0,.int .i64 0,.int .i64 0,.string ⟨#[]⟩] 30);have hUc:(w.alloc (.cells #[.int .i64 0,.int .i64 0,.int .i64 0,.int .i64 0,.int .i64 0,.int .i64 0,.string ⟨#[]⟩] 30)).heap[U]?=some (.cells #[.int .i64 0,.int .i64 0,.int .i64 0,.int .i64 0,.int .i64 0,.int .i64 0,.string ⟨#[]⟩] 30 (0,0)):=by rw [hU];exact heap_alloc_new w _
 have hsz0:(w.alloc (.cells #[.int .i64 0,.int .i64 0,.int .i64 0,.int .i64 0,.int .i64 0,.int .i64 0,.string ⟨#[]⟩] 30)).heap.size=U+1:=by rw [World.size_alloc,hU]
 obtain ⟨D,hD⟩:∃ D,D=zkl s:=⟨_,rfl⟩;have hMs:Hid (∀ e w',MsP w s e w'=(Ext w w'/\MsE e D)):=Y (fun e w'=>by rw [hD];rfl);rw [zlT] at hD;have hi0:=Y (zeV s 0 (Nat.zero_le _) hs (w.alloc (.cells #[.int .i64 0,.int .i64 0,.int .i64 0,.int .i64 0,.int .i64 0,.int .i64 0,.string ⟨#[]⟩] 30)));replace hUc:=Y hUc;replace hx0:=Y hx0;replace hD:=Y hD;have hss:Hid ((⟨s.toArray⟩:ByteArray).size=s.length):=Y rfl;go_enter Tryz.func86,Tryz.ntmps86;go_wp2_with fail
 try rw [<- hU]
 generalize (w.alloc (.cells #[.int .i64 0,.int .i64 0,.int .i64 0,.int .i64 0,.int .i64 0,.int .i64 0,.string ⟨#[]⟩] 30))=w0 at hUc hx0 hi0 hsz0 ⊢;replace hU:=Y hU;replace hsz0:=Y hsz0;refine hi0.o.mono ?_;rintro e w1 ⟨hi,hx1⟩;unfold zjo zlP at hi;rw [List.drop_zero] at hi;have U1:=Y (hx1.at hUc.o id);have M1:=Y (hx0.o.trans (hx1.mono (fun _ h=>h.elim)));have hsz1:U+1<=w1.heap.size:=by have:=hsz0.o;have:=hx1.size;omega
 clear hi0 hUc hx0 hx1;cases hg:zdt s with
 | none=>
  rw [hg] at hi;simp only at hi;subst hi;have hDz:=Y (show D=.error 10 by rw [hD.o,hg]);replace hg:=Y hg;go_wp2_with (refine zab rfl 30 _ _ rfl U _ _ 30 rfl rfl U1.o rfl (by kernel_rfl) rfl (fun WS HS=>?_))
  refine bodyPost_ret (zaf rfl _ _ U _ _ _ _ rfl HS.o.1 Tryz.underlying30 rfl (by kernel_rfl)) rfl ?_;rw [hMs.o,hDz.o];exact ⟨zao (B:=U) hwU (M1.o.trans (HS.o.2.mono (fun k hk=>by omega))),10,by decide,rfl⟩
 | some x=>
  obtain ⟨sum,r⟩:=x;rw [hg] at hi;simp only at hi;obtain ⟨b,hb0,hbl,hrb,rfl⟩:=hi;have hD2:=Y (show D=if sum ≠ crc r then .error 200 else zeX 6 [] r by rw [hD.o,hg]);have hex:(⟨s.toArray⟩:ByteArray).extract b s.length=⟨r.toArray⟩:=by rw [zdD,List.take_length,hrb]
  have hbi:(b:Int)<=(s.length:Int):=by omega
  have hrl:r.length<=1000000:=by rw [hrb,List.length_drop];omega
  replace hg:=Y hg;replace hrb:=Y hrb;go_wp2_with fail
  refine (zjQ r w1 hrl).mono ?_;rintro e w2 ⟨rfl,rfl⟩
  by_cases hsum:sum=crc r
  ·have hDz:=Y (show D=zeX 6 [] r by rw [hD2.o,if_neg (fun h=>h hsum)])
   have s1:(crc r !=sum)=false:=by rw [hsum];simp
   have s2:(crc r==sum)=true:=by rw [hsum];simp
   replace hsum:=Y hsum;go_wp2_with fail
   go_loopg [5,7,8] 6 (fun g av lv iv wr=>∃ (j a:Nat) (fs:List Int) (ao:Option Addr) (cv:Nat),j+g=6/\fs.length=j/\a<=s.length/\av=.int .i64 a/\iv=.int .i64 j/\lv=.slice ao fs.length cv/\D=zeX g fs (s.drop a)/\Cdk.Own wr (U+1) 3 1 zcZ (.slice ao fs.length cv) fs/\wr.heap[U]?=some (.cells #[.int .i64 0,.int .i64 0,.int .i64 0,.int .i64 0,.int .i64 0,.int .i64 0,.string ⟨#[]⟩] 30 (0,0))/\Mod (fun k=>U<=k) w wr/\U+1<=wr.heap.size)
   case atStart=>exact ⟨0,b,[],none,0,by omega,rfl,hbl,rfl,rfl,rfl,by rw [hDz.o,<- hrb.o],Own.nil _ _ _ _ _,U1.o,M1.o,hsz1⟩
   case round=>
    clear hDz U1 M1 hD2 hbi hrl hex hsz1;obtain ⟨j,a,fs,ao,cv,hj,hfl,hal,rfl,rfl,rfl,hDj,hO,hUr,hMr,hszr⟩:=hrel
    by_cases hlt:j < 6
    ·obtain ⟨g,rfl⟩:∃ g,gk=g+1:=⟨gk - 1,by omega⟩
     have hd:decide ((j:Int) < (6:Int))=true:=decide_eq_true (by omega);have hdi:(j:Int) < (6:Int):=by omega
     have hjw:IntKind.i64.wrap ((j:Int)+1)=(j:Int)+1:=IntWalk.i64_in _ (by omega);rw [zeX] at hDj;have hin:=Y (zeV s a hal hs wr);replace hDj:=Y hDj;replace hO:=Y hO;replace hUr:=Y hUr;replace hMr:=Y hMr;replace hj:=Y hj;replace hfl:=Y hfl;go_wp2_with fail
     refine hin.o.mono ?_;rintro e w2 ⟨hi,hx2⟩;unfold zjo zlP at hi;have U2:=Y (hx2.at hUr.o id);have M2:=Y (hMr.o.trans (hx2.mono (fun _ h=>h.elim)));have O2:=Y (hO.o.ext hx2);have hsz2:U+1<=w2.heap.size:=Nat.le_trans hszr hx2.size;clear hin hUr hMr hO hx2;cases hg2:zdt (s.drop a) with
     | none=>
      rw [hg2] at hi;simp only at hi;subst hi;have hDe:=Y (show D=.error 10 by rw [hDj.o,hg2]);replace hg2:=Y hg2;clear hDj;go_wp2_with (refine zab rfl 30 _ _ rfl U _ _ 30 rfl rfl U2.o rfl (by kernel_rfl) rfl (fun WS HS=>?_))
      refine bodyPost_ret (zaf rfl _ _ U _ _ _ _ rfl HS.o.1 Tryz.underlying30 rfl (by kernel_rfl)) rfl ?_;rw [hMs.o,hDe.o];exact ⟨zao (B:=U) hwU (M2.o.trans (HS.o.2.mono (fun k hk=>by omega))),10,by decide,rfl⟩
     | some x=>
      obtain ⟨x,u⟩:=x;rw [hg2] at hi;simp only at hi;obtain ⟨c,hc0,hcl,hcb,rfl⟩:=hi;have hDe:=Y (show D=zeX g (fs++[x]) (s.drop c) by rw [hDj.o,hg2];simp only;rw [hcb]);have hxa:=Mod.alloc (Mod.refl (fun _=>False) w2) (.cells #[.int .i64 x] 3);replace hg2:=Y hg2;replace hcb:=Y hcb;clear hDj;go_wp2_with (at_builtin;refine zaI rfl _ _ _ rfl Tryz.underlying24 elI rfl (O2.o.ext hxa) _ 1 1 rfl [x] rfl (by exact zaJ.new _ _ _) zbv (fun y hy u hu=>by simp only [List.mem_singleton] at hy;subst hy;simp [zcZ] at hu;subst hu;rfl) (by have:=hfl.o;simp only [List.length_singleton];omega) (by rw [World.size_alloc];omega) (fun e=>nomatch e) (fun v6 w6 H6=>?_);skip)
      obtain ⟨hO6,hm6⟩:=H6.o;have hmx:Mod (fun k=>(Value.slice ao fs.length cv).ownBlock=some k) w2 w6:=(hxa.mono (fun _ h=>h.elim)).trans hm6;have U6:=Y (hmx.at U2.o (fun e=>by have:=(O2.o.block _ e).1;omega));have M6:=Y (M2.o.trans (hmx.mono (fun k hk=>by have:=(O2.o.block _ hk).1;omega)));have hsz6:U+1<=w6.heap.size:=Nat.le_trans hsz2 hmx.size;obtain ⟨av6,cv6,rfl,-⟩:=hO6.row;have hl6:(fs++[x]).length=fs.length+1:=by simp
      rw [hl6];rw [hl6] at hO6;clear H6 hm6 hmx hxa;replace hO6:=Y hO6;go_wp2_with fail
      go_roundg g
      case measure=>omega
      case rel=>exact ⟨j+1,c,fs++[x],av6,cv6,by have:=hj.o;omega,by rw [hl6,hfl.o],hcl,rfl,by go_num,by rw [hl6],hDe.o,by rw [hl6];exact hO6.o,U6.o,M6.o,hsz6⟩
    ·obtain rfl:gk=0:=by omega
     obtain rfl:j=6:=by omega
     rw [zeX] at hDj;have hin:=Y (zfb s a hal hs wr);obtain ⟨gB,x1,x2,x3,x4,x5,x6,hfs,rfl,c1,c2,c3,c4,c5,c6⟩:=zll hO hfl;have hd:decide (((6:Nat):Int) < (6:Int))=false:=by decide
     have hdi:¬ ((6:Nat):Int) < (6:Int):=by decide
     rw [hfl];replace hDj:=Y hDj;replace hfl:=Y hfl;replace hfs:=Y hfs;replace hUr:=Y hUr;replace hMr:=Y hMr;replace hO:=Y hO;replace c1:=Y c1;replace c2:=Y c2;replace c3:=Y c3;replace c4:=Y c4;replace c5:=Y c5;replace c6:=Y c6;go_wp2_with fail
     refine hin.o.mono ?_;rintro e w2 ⟨hi,hx2⟩;unfold znq znX at hi;have U2:=Y (hx2.at hUr.o id);have M2:=Y (hMr.o.trans (hx2.mono (fun _ h=>h.elim)));have hsz2:U+1<=w2.heap.size:=Nat.le_trans hszr hx2.size;replace c1:=Y (hx2.cell c1.o id);replace c2:=Y (hx2.cell c2.o id);replace c3:=Y (hx2.cell c3.o id);replace c4:=Y (hx2.cell c4.o id);replace c5:=Y (hx2.cell c5.o id);replace c6:=Y (hx2.cell c6.o id);clear hin hUr hMr hO hx2;cases hg2:zhj (s.drop a) with
     | none=>
      rw [hg2] at hi;simp only at hi;subst hi;have hDe:=Y (show D=.error 10 by rw [hDj.o,hg2]);replace hg2:=Y hg2;clear hDj;go_wp2_with (refine zab rfl 30 _ _ rfl U _ _ 30 rfl rfl U2.o rfl (by kernel_rfl) rfl (fun WS HS=>?_))
      refine bodyPost_ret (zaf rfl _ _ U _ _ _ _ rfl HS.o.1 Tryz.underlying30 rfl (by kernel_rfl)) rfl ?_;rw [hMs.o,hDe.o];exact ⟨zao (B:=U) hwU (M2.o.trans (HS.o.2.mono (fun k hk=>by omega))),10,by decide,rfl⟩
     | some x=>
      obtain ⟨da,u⟩:=x;rw [hg2] at hi;simp only at hi;obtain ⟨c,hc0,hcl,hcb,rfl⟩:=hi;have hda:=zmA hg2;have hDe:=show D=if !u.isEmpty then .error 10 else if vMs (mkM fs da) then .ok (mkM fs da) else .error 200 by rw [hDj.o,hg2]
      rw [hcb] at hDe;replace hg2:=Y hg2;replace hcb:=Y hcb;clear hDj
      by_cases hend:c=s.length
      ·subst hend
       rw [List.drop_length,hfs.o] at hDe;have hDe:=Y (show D=if vMs ⟨x1,x2,x3,x4,x5,x6,da⟩ then .ok ⟨x1,x2,x3,x4,x5,x6,da⟩ else .error 200 from hDe);go_upto_region 18 with (fail)
       refine zbz (fun Wx=>Ext w2 Wx) [(0,true),(1,true),(2,true),(3,true),(4,true),(5,true),(6,true),(7,true),(8,true),(9,true),(10,true),(11,true),(12,true),(13,true),(14,true),(15,true),(16,true),(17,true),(18,true),(19,true),(20,false),(21,false)] (by as_aux_lemma=>kernel_rfl) (by as_aux_lemma=>kernel_rfl) (by as_aux_lemma=>kernel_rfl) (by decide) (Mod.drew0 (fun _=>False) w2) ?_;simp only [zah,List.map_cons,List.map_nil,List.getD_cons_zero,List.getD_cons_succ];have hy0:=Y (Mod.drew0 (fun _=>False) w2);generalize w2.drew=w3 at hy0 ⊢;repeat (first | (refine zia (by rfl) (by rfl) ?_ (fun w' hC=>?_) ?_;rotate_left;(have q1:=hC.cell c1.o id;have q2:=hC.cell c2.o id;have q3:=hC.cell c3.o id;have q4:=hC.cell c4.o id;have q5:=hC.cell c5.o id;have q6:=hC.cell c6.o id;go_simp;first | done | with_reducible rfl | exact rfl);try simp only [Act.put,sA,sZ,sS]) | (refine ziJ (by rfl) (by rfl) ?_ (fun w' hC=>?_) ?_;rotate_left;(go_simp;first | done | with_reducible rfl | exact rfl);try simp only [Act.put,sA,sZ,sS]))
       refine zdF (by rfl) (fun K hK=>?_);go_simp;have hxA:=Mod.alloc (Mod.refl (fun _=>False) w3) (.cells #[.int .i64 0,.int .i64 0,.int .i64 0,.int .i64 0,.int .i64 0,.int .i64 0,.string ⟨#[]⟩] 30);have hFc:=heap_alloc_new w3 (.cells #[.int .i64 0,.int .i64 0,.int .i64 0,.int .i64 0,.int .i64 0,.int .i64 0,.string ⟨#[]⟩] 30);obtain ⟨F,hF⟩:∃ F,F=w3.heap.size:=⟨_,rfl⟩;rw [<- hF] at hFc ⊢;have hUF:U+1<=F:=by have:=hy0.o.size;omega
       have hy4:=Y (hy0.o.trans hxA);refine hK.o _ _ hy4.o ?_;generalize (w3.alloc (.cells #[.int .i64 0,.int .i64 0,.int .i64 0,.int .i64 0,.int .i64 0,.int .i64 0,.string ⟨#[]⟩] 30))=w4 at hFc hy4 ⊢;clear hK K hxA;replace hF:=Y hF;replace hFc:=Y hFc;try simp only [Act.put,sA,sZ,sS]
       refine zkd (by rfl) (fun K hK=>?_);refine zbf 30 _ _ rfl F _ #[.int .i64 x1,.int .i64 x2,.int .i64 x3,.int .i64 x4,.int .i64 x5,.int .i64 x6,.string ⟨da.toArray⟩] 30 rfl rfl hFc.o rfl (by kernel_rfl) rfl (fun WF HF=>?_);refine hK.o _ _ ?_;clear hK K;have U5:=Y (HF.o.2.at (hy4.o.at U2.o id) (by omega));have M5:=Y ((M2.o.trans (hy4.o.mono (fun _ h=>h.elim))).trans (HF.o.2.mono (fun k hk=>by omega)));have F5:=Y HF.o.1;have hV:=Y (zcL ⟨x1,x2,x3,x4,x5,x6,da⟩ WF (by show da.length<=_;omega));clear HF hFc;unfold msC zb0 at hV;try simp only at hV
       go_wp2_with (refine zae (by rfl) 30 _ rfl F _ _ _ _ rfl F5.o Tryz.underlying30 rfl (by kernel_rfl) ?_)
       refine hV.o.mono ?_;rintro e W6 ⟨rfl,hx6⟩;have U6:=Y (hx6.at U5.o id);have F6:=Y (hx6.at F5.o id);have M6:=Y (M5.o.trans (hx6.mono (fun _ h=>h.elim)));clear hV hx6 U5 F5 M5;cases hv:vMs ⟨x1,x2,x3,x4,x5,x6,da⟩ with
       | true=>
        have hDz:=Y (show D=.ok ⟨x1,x2,x3,x4,x5,x6,da⟩ by rw [hDe.o,hv];rfl);replace hv:=Y hv;go_wp2_with (first | (refine zae (by rfl) 30 _ rfl F _ _ _ _ rfl F6.o Tryz.underlying30 rfl (by kernel_rfl) ?_) | (refine zab rfl 30 _ _ rfl U _ _ 30 rfl rfl U6.o rfl (by kernel_rfl) rfl (fun WS HS=>?_)))
        refine bodyPost_ret (zaf rfl _ _ U _ _ _ _ rfl HS.o.1 Tryz.underlying30 rfl (by kernel_rfl)) rfl ?_;rw [hMs.o,hDz.o];exact ⟨zao (B:=U) hwU (M6.o.trans (HS.o.2.mono (fun k hk=>by omega))),rfl⟩
       | false=>
        have hDz:=Y (show D=.error 200 by rw [hDe.o,hv];rfl);replace hv:=Y hv;go_wp2_with (refine zab rfl 30 _ _ rfl U _ _ 30 rfl rfl U6.o rfl (by kernel_rfl) rfl (fun WS HS=>?_))
        refine bodyPost_ret (zaf rfl _ _ U _ _ _ _ rfl HS.o.1 Tryz.underlying30 rfl (by kernel_rfl)) rfl ?_;rw [hMs.o,hDz.o];exact ⟨zao (B:=U) hwU (M6.o.trans (HS.o.2.mono (fun k hk=>by omega))),200,by decide,rfl⟩
      ·have hne:s.drop c ≠ []:=by
        intro h;have:=congrArg List.length h;rw [List.length_drop] at this;simp at this;omega
       have hDe:=Y (show D=.error 10 by rw [hDe];cases hh:s.drop c with | nil=>exact absurd hh hne | cons _ _=>rfl);have hci:¬ (c:Int)=(s.length:Int):=by omega
       have e1:((c:Int) !=(s.length:Int))=true:=by rw [bne_iff_ne];exact hci
       have e2:((c:Int)==(s.length:Int))=false:=by rw [beq_eq_false_iff_ne];exact hci
       replace hne:=Y hne;go_wp2_with (refine zab rfl 30 _ _ rfl U _ _ 30 rfl rfl U2.o rfl (by kernel_rfl) rfl (fun WS HS=>?_))
       refine bodyPost_ret (zaf rfl _ _ U _ _ _ _ rfl HS.o.1 Tryz.underlying30 rfl (by kernel_rfl)) rfl ?_;rw [hMs.o,hDe.o];exact ⟨zao (B:=U) hwU (M2.o.trans (HS.o.2.mono (fun k hk=>by omega))),10,by decide,rfl⟩
  ·have hDz:=Y (show D=.error 200 by rw [hD2.o,if_pos hsum])
   have hsum':¬ crc r=sum:=fun h=>hsum h.symm
   have s1:(crc r !=sum)=true:=by rw [bne_iff_ne];exact hsum'
   have s2:(crc r==sum)=false:=by rw [beq_eq_false_iff_ne];exact hsum'
   replace hsum:=Y hsum;go_wp2_with (refine zab rfl 30 _ _ rfl U _ _ 30 rfl rfl U1.o rfl (by kernel_rfl) rfl (fun WS HS=>?_))
   refine bodyPost_ret (zaf rfl _ _ U _ _ _ _ rfl HS.o.1 Tryz.underlying30 rfl (by kernel_rfl)) rfl ?_;rw [hMs.o,hDz.o];exact ⟨zao (B:=U) hwU (M1.o.trans (HS.o.2.mono (fun k hk=>by omega))),200,by decide,rfl⟩
end Go.Proofs.YtjjfphalcibjfaaGreatDoor
namespace Scr
def zat (c:UInt8):Nat -> Bs -> List Bs
 | 0,s=>[s]
 | k+1,s=>if (zby c s).2.2 then (zby c s).1::zat c k (zby c s).2.1 else [s]
theorem zfI {c:UInt8}:∀ (l:List Bs) (x:Bs),(∀ y ∈ l,c ∉ y) -> zat c l.length (join c (l++[x]))=l++[x]
 | [],x,_=>rfl
 | y::l,x,h=>by
  have hy:c ∉ y:=h y (by simp);have ih:=zfI l x (fun z hz=>h z (List.mem_cons_of_mem _ hz));have hj:join c (y::l++[x])=y++c::join c (l++[x]):=by
   cases l with
   | nil=>rfl
   | cons z l=>rfl
  rw [hj,List.length_cons,zat,zdl _ hy];simp only [if_true,List.cons_append];rw [ih]
theorem zdx {c:UInt8}:∀ (k:Nat) (l:List Bs),l ≠ [] -> (∀ y ∈ l,c ∉ y) -> l.length<=k+1 -> zat c k (join c l)=l
 | _,[],h,_,_=>absurd rfl h
 | 0,[x],_,_,_=>rfl
 | k+1,[x],_,h,_=>by
  show zat c (k+1) x=[x]
  rw [zat,zen (h x (by simp))];simp
 | k+1,x::y::l,_,h,hl=>by
  show zat c (k+1) (x++c::join c (y::l))=_
  rw [zat,zdl _ (h x (by simp))];simp only [if_true];rw [zdx k (y::l) (by simp) (fun z hz=>h z (List.mem_cons_of_mem _ hz)) (by simp at hl ⊢;omega)]
 | 0,x::y::l,_,_,hl=>by simp at hl
def zco:Int -> Bs -> Int
 | n,[]=>n
 | n,c::s=>zco (10*n+c.toNat - 48) s
def zbu (s:Bs):Int:=match s with
 | []=>0
 | c::r=>if c=45 then - zco 0 (r.take 10) else zco 0 (s.take 10)
theorem zha:∀ (a:Bs) (n:Int) (b:Bs),zco n (a++b)=zco (zco n a) b
 | [],_,_=>rfl
 | c::a,n,b=>by simp only [List.cons_append,zco];exact zha a _ b
theorem zgJ:∀ (f n:Nat),n < 10 ^ f -> 0 < f -> zco 0 (zcT f n)=n
 | f+1,n,h,_=>by
  rw [zcT];split
  ·simp only [zco];rw [zdA (by assumption)];omega
  ·rename_i hn
   cases f with
   | zero=>omega
   | succ f=>
    rw [zha,zgJ (f+1) (n / 10) (by rw [Nat.div_lt_iff_lt_mul (by decide)];rw [Nat.pow_succ] at h;exact h) (by omega)];simp only [zco];rw [zdA (by omega)];omega
theorem zex:∀ (k f n:Nat),n < 10 ^ k -> 0 < k -> (zcT f n).length<=k
 | k+1,0,n,_,_=>by simp [zcT]
 | k+1,f+1,n,h,_=>by
  rw [zcT];split
  ·simp
  ·cases k with
   | zero=>omega
   | succ k=>
    have:=zex (k+1) f (n / 10) (by rw [Nat.div_lt_iff_lt_mul (by decide)];rw [Nat.pow_succ] at h;exact h) (by omega);simp only [List.length_append,List.length_cons,List.length_nil];omega
theorem zl0 {f n:Nat} (hf:0 < f):∃ c r,zcT f n=c::r/\c ≠ 45:=by
 cases h:zcT f n with
 | nil=>exact absurd h (zgG f n hf)
 | cons c r=>
  refine ⟨c,r,rfl,fun e=>?_⟩;have:=zeo f n c (by rw [h];simp);subst e;unfold zmf at this;simp at this
theorem zau {n:Int} (h1:-9999999999<=n) (h2:n<=9999999999):zbu (itoa n)=n:=by
 unfold itoa;split
 ·rename_i hn
  simp only [zbu,if_true];rw [List.take_of_length_le (zex 10 20 _ (by omega) (by decide)),zgJ 20 _ (by omega) (by decide)];omega
 ·rename_i hn
  obtain ⟨c,r,he,hc⟩:=zl0 (f:=20) (n:=n.toNat) (by decide);rw [he];simp only [zbu,if_neg hc];rw [<- he,List.take_of_length_le (zex 10 20 _ (by omega) (by decide)),zgJ 20 _ (by omega) (by decide)];omega
def zbI (s:Bs):List Bs:=if s=[42] then [] else zat 44 99 s
def zep (s:Bs):List Int:=(zbI s).map zbu
def zc8 (s:Bs):Lb:=match zat 47 4 s with
 | [a,b,c,d]=>⟨zbu a,zep b,zbu c,zbu d⟩
 | _=>Lb.zero
def dgR (c:UInt8):Nat:=match hexV c with | some n=>n | none=>0
def zcz:Bs -> Bs
 | a::b::r=>UInt8.ofNat (16*dgR a+dgR b)::zcz r
 | _=>[]
def zbJ (s:Bs):Bs:=if s=[42] then [] else zcz s
theorem zeB {l:List Bs} (hl:l.length<=100) (h:∀ x ∈ l,(44:UInt8) ∉ x/\(42:UInt8) ∉ x/\x ≠ []):zbI (listW l)=l:=by
 unfold listW zbI;cases l with
 | nil=>simp
 | cons x l=>
  simp only [List.isEmpty_cons,Bool.false_eq_true,if_false];rw [if_neg (ze0 (by simp) (fun y hy=>(h y hy).2)),zdx 99 _ (by simp) (fun y hy=>(h y hy).1) hl]
theorem zdH {l:List Int} (hl:l.length<=100) (h:∀ x ∈ l,-9999999999<=x/\x<=9999999999):zep (listW (l.map itoa))=l:=by
 unfold zep
 rw [zeB (by simpa using hl) (fun x hx=>by
  obtain ⟨n,-,rfl⟩:=List.mem_map.1 hx
  exact ⟨za3 n (by decide),za3 n (by decide),zlv n⟩)]
 rw [List.map_map];conv=>rhs;rw [<- List.map_id l]
 exact List.map_congr_left (fun x hx=>zau (h x hx).1 (h x hx).2)
theorem zhd {l:List Bs} (h:vTp l=true):zbI (listW l)=l:=
 zeB (by have:=(zcm h).1;omega) (fun x hx=>⟨zfu ((zcm h).2 x hx) (by decide),zfu ((zcm h).2 x hx) (by decide),(zfG ((zcm h).2 x hx)).1⟩)
theorem zdN {l:Lb} (h:vLb l=true):zc8 (labelW l)=l:=by
 have hg:=h;unfold vLb at hg;simp only [Bool.and_eq_true,zam] at hg;obtain ⟨h1,h2,h3,h4⟩:=hg;unfold labelW;split
 ·rename_i hz
  obtain ⟨a,b,c,d⟩:=l;simp only at hz;obtain ⟨rfl,rfl,rfl,rfl⟩:=hz
  rfl
 ·have hw:=zdx (c:=47) 4 [itoa l.til,listW (l.aft.map itoa),itoa l.app,itoa l.den] (by simp) (fun y hy=>by
   simp only [List.mem_cons,List.not_mem_nil,or_false] at hy;rcases hy with rfl | rfl | rfl | rfl
   ·exact za3 _ (by decide)
   ·exact zd1 _ (by decide)
   ·exact za3 _ (by decide)
   ·exact za3 _ (by decide)) (by simp)
  unfold zc8;rw [hw];simp only;rw [zau (by omega) (by omega),zau (by omega) (by omega),zau (by omega) (by omega),zdH (by have:=zhf h4 (by decide);omega) (fun x hx=>by have:=zg0 h4 x hx;omega)]
theorem zjz {n:Nat} (h:n < 16):dgR (hexD n)=n:=by unfold dgR;rw [zfi h]
theorem zfN:∀ s:Bs,zcz (zk6 s)=s
 | []=>rfl
 | c::s=>by
  show zcz (hexD (c.toNat / 16)::hexD (c.toNat % 16)::zk6 s)=_
  rw [zcz,zjz (by have:=c.toNat_lt;omega),zjz (by omega),zfN s];congr 1;have:16*(c.toNat / 16)+c.toNat % 16=c.toNat:=by omega
  rw [this];exact UInt8.ofNat_toNat
theorem zdw (s:Bs):zbJ (hexW s)=s:=by
 by_cases h:s=[]
 ·subst h;rfl
 ·obtain ⟨h1,h2⟩:=zd5 h
  unfold zbJ;rw [if_neg h2,h1,zfN]
def ziv:Nat -> Nat
 | 0=>10 | 1=>3 | 2=>3 | 3=>6 | 4=>3 | 5=>2 | 6=>3 | 7=>4 | 8=>3 | 9=>2 | 10=>2 | 11=>2 | 12=>2 | 13=>3 | 14=>1 | 15=>3 | 16=>4 | 17=>2 | _=>0
def zeO (s:Bs):List Bk:=match zdm s with | .ok l=>l | .error _=>[]
def zdy (s:Bs):Ms:=match zkl s with | .ok m=>m | .error _=>Ms.zero
def zg2 (f:Fc):Ac:={ Ac.zero with kd:=1,fc:=f }
def zce (w:List Bs):Nat -> Ac
 | 0=>zg2 { Fc.zero with kd:=1,st:=zbu (w.getD 1 []),lg:=w.getD 2 [],rv:=zbu (w.getD 3 []),bs:=zbu (w.getD 4 []),au:=w.getD 5 [],tp:=zbI (w.getD 6 []),lb:=zc8 (w.getD 7 []),bl:=zeO (zbJ (w.getD 8 [])),ti:=w.getD 9 [] }
 | 1=>zg2 { Fc.zero with kd:=2,st:=zbu (w.getD 1 []),ed:=zbu (w.getD 2 []) }
 | 2=>zg2 { Fc.zero with kd:=3,st:=zbu (w.getD 1 []),lb:=zc8 (w.getD 2 []) }
 | 3=>zg2 { Fc.zero with kd:=4,st:=zbu (w.getD 1 []),lg:=w.getD 2 [],bk:=zbu (w.getD 3 []),se:=zbu (w.getD 4 []),tx:=w.getD 5 [] }
 | 4=>zg2 { Fc.zero with kd:=5,st:=zbu (w.getD 1 []),tx:=w.getD 2 [] }
 | 5=>zg2 { Fc.zero with kd:=6,st:=zbu (w.getD 1 []) }
 | 6=>zg2 { Fc.zero with kd:=7,nm:=w.getD 1 [],tx:=zbJ (w.getD 2 []) }
 | 7=>zg2 { Fc.zero with kd:=8,pa:=zbu (w.getD 1 []),cl:=zbu (w.getD 2 []),un:=zbu (w.getD 3 []) }
 | 8=>zg2 { Fc.zero with kd:=9,pa:=zbu (w.getD 1 []),un:=zbu (w.getD 2 []) }
 | 9=>{ Ac.zero with kd:=2,n:=zbu (w.getD 1 []) }
 | 10=>{ Ac.zero with kd:=3,n:=zbu (w.getD 1 []) }
 | 11=>{ Ac.zero with kd:=10,n:=zbu (w.getD 1 []) }
 | 12=>{ Ac.zero with kd:=4,fa:=zep (w.getD 1 []) }
 | 13=>{ Ac.zero with kd:=5,n:=zbu (w.getD 1 []),ke:=zep (w.getD 2 []) }
 | 14=>{ Ac.zero with kd:=9 }
 | 15=>{ Ac.zero with kd:=6,cl:=zbu (w.getD 1 []),tx:=w.getD 2 [] }
 | 16=>{ Ac.zero with kd:=7,cl:=zbu (w.getD 1 []),n:=zbu (w.getD 2 []),tx:=w.getD 3 [] }
 | 17=>{ Ac.zero with kd:=8,ms:=zdy (zbJ (w.getD 1 [])) }
 | _=>Ac.zero
def zhK (s:Bs):Option Ac:=match zbt (zby 32 s).1 0 forms with
 | none=>none
 | some (j,_)=>if (zat 32 (ziv j - 1) s).length=ziv j then some (zce (zat 32 (ziv j - 1) s) j) else none
def ofR (s:Bs):Option Ac:=match zhK s with
 | none=>none
 | some a=>if vAc a && decide (line a=s) then some a else none
theorem zot:∀ y ∈ ([]:List Bs),(32:UInt8) ∉ y:=fun y h=>by cases h
theorem znA {x:Bs} {l:List Bs} (h:(32:UInt8) ∉ x) (hl:∀ y ∈ l,(32:UInt8) ∉ y):∀ y ∈ x::l,(32:UInt8) ∉ y:=fun y hy=>by
 rcases List.mem_cons.1 hy with rfl | hy
 ·exact h
 ·exact hl y hy
theorem zaY {a:Ac} (W:List Bs) (l:Bs) (j:Nat) (f:Fm) (hf:zcW a.kd a.fc.kd 0 forms=some (j,f)) (hw:f.wd::zal j a=W++[l]) (hc:zce (W++[l]) j=a)
  (hno:∀ y ∈ W,(32:UInt8) ∉ y:=by repeat (first | exact zot | refine znA (by first | decide | exact za3 _ (by decide) | exact zfu (by assumption) (by decide) | exact zge (by assumption) (by decide) (by decide) (by decide) | exact zet _ (by decide) | exact zgY _ (by decide) | exact zd1 _ (by decide)) ?_)) (hj:zbt f.wd 0 forms=some (j,f):=by rfl) (hn:ziv j=W.length+1:=by rfl) (hnm:(32:UInt8) ∉ f.wd:=by decide):zhK (line a)=some a:=by
 have e:line a=join 32 (f.wd::zal j a):=by unfold line;simp only [hf]
 have hcut:(zby 32 (line a)).1=f.wd:=by
  rw [e];cases zal j a with
  | nil=>simp only [join];rw [zen hnm]
  | cons x r=>simp only [join];rw [zdl _ hnm]
 have hws:zat 32 (ziv j - 1) (line a)=W++[l]:=by rw [e,hw,hn];exact zfI W l hno
 unfold zhK;rw [hcut,hj];simp only;rw [hws,if_pos (by rw [hn];simp),hc]
theorem zkb {l:List Bk} (h:zec l=true):zeO (zcl l)=l:=by unfold zeO;rw [zfj h]
theorem zlz {m:Ms} (h:vMs m=true):zdy (zf1 m)=m:=by unfold zdy;rw [zh1 h]
theorem zkP {a:Ac} (h:vAc a=true):zhK (line a)=some a:=by
 obtain ⟨kd,fc,n,cl,tx,fa,ke,ms⟩:=a;unfold vAc at h;simp only [Bool.and_eq_true,decide_eq_true_eq] at h;obtain ⟨h,he⟩:=h;unfold zaS at h;unfold zfE at he;simp only at h he;repeat' split at h
 all_goals rename_i hk
 rotate_right
 ·cases h
 all_goals (subst hk;simp (config:={ decide:=true }) only [if_true,if_false,Ac.mk.injEq,Ac.zero,true_and,and_true] at he)
 all_goals (try simp only [Bool.and_eq_true,zam,decide_eq_true_eq,Bool.not_eq_true',decide_eq_false_iff_not] at h)
 ·obtain ⟨rfl,rfl,rfl,rfl,rfl,rfl⟩:=he
  obtain ⟨h1,h2,h3,h4⟩:=h;obtain ⟨n,tm,kd,st,lg,rv,bs,ti,au,tp,bl,lb,ed,bk,se,tx,nm,pa,cl,un⟩:=fc;simp only at h1 h2 h3;subst h1 h2;unfold vFc zaO at h4;simp only [Bool.and_eq_true,zam,decide_eq_true_eq] at h4;obtain ⟨-,-,hv,hz⟩:=h4;repeat' split at hv
  all_goals rename_i hq
  rotate_right
  ·cases hv
  all_goals (first | replace hq:=hq.resolve_right h3 | skip)
  all_goals subst hq
  all_goals (simp (config:={ decide:=true }) only [Bool.and_eq_true,zam,if_true,if_false,Fc.mk.injEq,Fc.zero,true_and,and_true] at hv hz)
  ·obtain ⟨hst,hlg,hrv,hbs,hti,hau,htp,hbl,hlb⟩:=hv
   obtain ⟨rfl,rfl,rfl,rfl,rfl,rfl,rfl,rfl⟩:=hz;exact zaY [fRevise,itoa st,lg,itoa rv,itoa bs,au,listW tp,labelW lb,hexW (zcl bl)] (ti) _ _ rfl rfl (by simp only [zce,List.cons_append,List.nil_append,List.getD_cons_succ,List.getD_cons_zero];rw [zau (n:=st) (by omega) (by omega),zau (n:=rv) (by omega) (by omega),zau (n:=bs) (by omega) (by omega),zhd htp,zdN hlb,zdw,zkb hbl];rfl)
  ·obtain ⟨hst,hed⟩:=hv
   obtain ⟨rfl,rfl,rfl,rfl,rfl,rfl,rfl,rfl,rfl,rfl,rfl,rfl,rfl,rfl,rfl⟩:=hz;exact zaY [fApprove,itoa st] (itoa ed) _ _ rfl rfl (by simp only [zce,List.cons_append,List.nil_append,List.getD_cons_succ,List.getD_cons_zero];rw [zau (n:=st) (by omega) (by omega),zau (n:=ed) (by omega) (by omega)];rfl)
  ·obtain ⟨hst,hlb⟩:=hv
   obtain ⟨rfl,rfl,rfl,rfl,rfl,rfl,rfl,rfl,rfl,rfl,rfl,rfl,rfl,rfl,rfl⟩:=hz;exact zaY [fPublish,itoa st] (labelW lb) _ _ rfl rfl (by simp only [zce,List.cons_append,List.nil_append,List.getD_cons_succ,List.getD_cons_zero];rw [zau (n:=st) (by omega) (by omega),zdN hlb];rfl)
  ·obtain ⟨hst,hlg,hbk,hse,htx⟩:=hv
   obtain ⟨rfl,rfl,rfl,rfl,rfl,rfl,rfl,rfl,rfl,rfl,rfl,rfl⟩:=hz;exact zaY [fCorrect,itoa st,lg,itoa bk,itoa se] (tx) _ _ rfl rfl (by simp only [zce,List.cons_append,List.nil_append,List.getD_cons_succ,List.getD_cons_zero];rw [zau (n:=st) (by omega) (by omega),zau (n:=bk) (by omega) (by omega),zau (n:=se) (by omega) (by omega)];rfl)
  ·obtain ⟨hst,htx⟩:=hv
   obtain ⟨rfl,rfl,rfl,rfl,rfl,rfl,rfl,rfl,rfl,rfl,rfl,rfl,rfl,rfl,rfl⟩:=hz;exact zaY [fRetract,itoa st] (tx) _ _ rfl rfl (by simp only [zce,List.cons_append,List.nil_append,List.getD_cons_succ,List.getD_cons_zero];rw [zau (n:=st) (by omega) (by omega)];rfl)
  ·have hst:=hv
   obtain ⟨rfl,rfl,rfl,rfl,rfl,rfl,rfl,rfl,rfl,rfl,rfl,rfl,rfl,rfl,rfl,rfl⟩:=hz;exact zaY [fTakedown] (itoa st) _ _ rfl rfl (by simp only [zce,List.cons_append,List.nil_append,List.getD_cons_succ,List.getD_cons_zero];rw [zau (n:=st) (by omega) (by omega)];rfl)
  ·obtain ⟨hnm,hso⟩:=hv
   obtain ⟨rfl,rfl,rfl,rfl,rfl,rfl,rfl,rfl,rfl,rfl,rfl,rfl,rfl,rfl,rfl⟩:=hz;exact zaY [fTemplate,nm] (hexW tx) _ _ rfl rfl (by simp only [zce,List.cons_append,List.nil_append,List.getD_cons_succ,List.getD_cons_zero];rw [zdw];rfl)
  ·obtain ⟨⟨hpa,hun⟩,hcl⟩:=hv
   obtain ⟨rfl,rfl,rfl,rfl,rfl,rfl,rfl,rfl,rfl,rfl,rfl,rfl,rfl,rfl⟩:=hz;exact zaY [fPartner,itoa pa,itoa cl] (itoa un) _ _ rfl rfl (by simp only [zce,List.cons_append,List.nil_append,List.getD_cons_succ,List.getD_cons_zero];rw [zau (n:=pa) (by omega) (by omega),zau (n:=cl) (by omega) (by omega),zau (n:=un) (by omega) (by omega)];rfl)
  ·obtain ⟨hpa,hun⟩:=hv
   obtain ⟨rfl,rfl,rfl,rfl,rfl,rfl,rfl,rfl,rfl,rfl,rfl,rfl,rfl,rfl,rfl⟩:=hz;exact zaY [fLease,itoa pa] (itoa un) _ _ rfl rfl (by simp only [zce,List.cons_append,List.nil_append,List.getD_cons_succ,List.getD_cons_zero];rw [zau (n:=pa) (by omega) (by omega),zau (n:=un) (by omega) (by omega)];rfl)
 ·obtain ⟨rfl,rfl,rfl,rfl,rfl,rfl⟩:=he
  exact zaY [fTick] (itoa n) _ _ rfl rfl (by simp only [zce,List.cons_append,List.nil_append,List.getD_cons_succ,List.getD_cons_zero];rw [zau (n:=n) (by omega) (by omega)];rfl)
 ·obtain ⟨rfl,rfl,rfl,rfl,rfl,rfl⟩:=he
  exact zaY [fClock] (itoa n) _ _ rfl rfl (by simp only [zce,List.cons_append,List.nil_append,List.getD_cons_succ,List.getD_cons_zero];rw [zau (n:=n) (by omega) (by omega)];rfl)
 ·obtain ⟨rfl,rfl,rfl,rfl,rfl,rfl⟩:=he
  have hm:=zeF h;exact zaY [fFates] (listW (fa.map itoa)) _ _ rfl rfl (by simp only [zce,List.cons_append,List.nil_append,List.getD_cons_succ,List.getD_cons_zero];rw [zdH (by have:=hm.1;omega) (fun x hx=>by have:=hm.2 x hx;omega)];rfl)
 ·obtain ⟨rfl,rfl,rfl,rfl,rfl⟩:=he
  have hm:=zeF h.2;exact zaY [fCrash,itoa n] (listW (ke.map itoa)) _ _ rfl rfl (by simp only [zce,List.cons_append,List.nil_append,List.getD_cons_succ,List.getD_cons_zero];rw [zau (n:=n) (by omega) (by omega),zdH (by have:=hm.1;omega) (fun x hx=>by have:=hm.2 x hx;omega)];rfl)
 ·obtain ⟨rfl,rfl,rfl,rfl,rfl⟩:=he
  exact zaY [fGet,itoa cl] (tx) _ _ rfl rfl (by simp only [zce,List.cons_append,List.nil_append,List.getD_cons_succ,List.getD_cons_zero];rw [zau (n:=cl) (by omega) (by omega)];rfl)
 ·obtain ⟨rfl,rfl,rfl,rfl⟩:=he
  exact zaY [fSearch,itoa cl,itoa n] (tx) _ _ rfl rfl (by simp only [zce,List.cons_append,List.nil_append,List.getD_cons_succ,List.getD_cons_zero];rw [zau (n:=cl) (by omega) (by omega),zau (n:=n) (by omega) (by omega)];rfl)
 ·obtain ⟨rfl,rfl,rfl,rfl,rfl,rfl⟩:=he
  exact zaY [fForge] (hexW (zf1 ms)) _ _ rfl rfl (by simp only [zce,List.cons_append,List.nil_append,List.getD_cons_succ,List.getD_cons_zero];rw [zdw,zlz h];rfl)
 ·obtain ⟨rfl,rfl,rfl,rfl,rfl,rfl,rfl⟩:=he
  exact zaY [] (fCheck) _ _ rfl rfl (by simp only [zce];rfl)
 ·obtain ⟨rfl,rfl,rfl,rfl,rfl,rfl⟩:=he
  exact zaY [fCut] (itoa n) _ _ rfl rfl (by simp only [zce,List.cons_append,List.nil_append,List.getD_cons_succ,List.getD_cons_zero];rw [zau (n:=n) (by omega) (by omega)];rfl)
theorem zlN (s:Bs):ofR s=zbd s:=by
 cases h:zbd s with
 | some a=>
  obtain ⟨hv,rfl⟩:=zcG h;unfold ofR;rw [zkP hv];simp [hv]
 | none=>
  unfold ofR;cases hc:zhK s with
  | none=>rfl
  | some a=>
   simp only
   by_cases hv:vAc a=true
   ·have:=ziA.1 h a hv
    simp [this]
   ·simp [hv]
theorem zj9 {c:UInt8} {X r:Bs} (m:Nat) (h:c ∉ X):zat c (m+1) (X++c::r)=X::zat c m r:=by
 rw [zat,zdl r h];simp
theorem zko {c:UInt8} {X:Bs} (m:Nat) (h:0 < m -> c ∉ X):zat c m X=[X]:=by
 cases m with
 | zero=>rfl
 | succ m=>rw [zat,zen (h (by omega))];simp
structure WdP (t:Bs) (c:UInt8) (K:Nat) (pre:List Bs) (k j:Nat):Prop where
 eq:zat c K t=pre++zat c (K - pre.length) (t.drop k)
 le:k<=j
 len:pre.length<=K
 no:pre.length < K -> c ∉ (t.drop k).take (j - k)
theorem WdP.start (t:Bs) (c:UInt8) (K:Nat):WdP t c K [] 0 0:=⟨by simp,Nat.le_refl _,Nat.zero_le _,fun _=>by simp⟩
theorem WdP.cut {t:Bs} {c:UInt8} {K:Nat} {pre:List Bs} {k j:Nat} (h:WdP t c K pre k j) (hj:j < t.length) (hc:t[j]=c) (hp:pre.length < K):WdP t c K (pre++[(t.drop k).take (j - k)]) (j+1) (j+1):=by
 obtain ⟨h1,h2,h3,h4⟩:=h;have e:t.drop k=(t.drop k).take (j - k)++c::t.drop (j+1):=by
  have e1:(t.drop k).drop (j - k)=c::t.drop (j+1):=by
   rw [List.drop_drop,show k+(j - k)=j by omega,List.drop_eq_getElem_cons hj,hc]
  rw [<- e1,List.take_append_drop]
 refine ⟨?_,Nat.le_refl _,by simp;omega,fun _=>by simp⟩;obtain ⟨m,hm⟩:∃ m,K - pre.length=m+1:=⟨K - pre.length - 1,by omega⟩;rw [h1,e,hm,zj9 m (h4 hp),<- e];have:K - (pre++[(t.drop k).take (j - k)]).length=m:=by rw [List.length_append];simp only [List.length_cons,List.length_nil];omega
 rw [this];simp
theorem WdP.pass {t:Bs} {c:UInt8} {K:Nat} {pre:List Bs} {k j:Nat} (h:WdP t c K pre k j) (hj:j < t.length) (hc:t[j] ≠ c \/ ¬ pre.length < K):WdP t c K pre k (j+1):=by
 obtain ⟨h1,h2,h3,h4⟩:=h;refine ⟨h1,by omega,h3,fun hp=>?_⟩;have hc:=hc.resolve_right (fun h=>h hp);have hjk:j - k < (t.drop k).length:=by rw [List.length_drop];omega
 rw [show j+1 - k=(j - k)+1 by omega,List.take_succ_eq_append_getElem hjk];simp only [List.mem_append,List.mem_singleton,not_or];refine ⟨h4 hp,fun e=>hc ?_⟩;rw [List.getElem_drop] at e;have e2:k+(j - k)=j:=by omega
 simp only [e2] at e;exact e.symm
theorem WdP.last {t:Bs} {c:UInt8} {K:Nat} {pre:List Bs} {k:Nat} (h:WdP t c K pre k t.length):zat c K t=pre++[t.drop k]:=by
 obtain ⟨h1,h2,h3,h4⟩:=h;rw [h1,zko _ (fun hm=>?_)];have:=h4 (by omega)
 rwa [List.take_of_length_le (by rw [List.length_drop];exact Nat.le_refl _)] at this
theorem zed (c:UInt8):∀ (K:Nat) (t:Bs),(zat c K t).length<=K+1/\(zat c K t).length<=t.length+1
 | 0,t=>by simp [zat]
 | K+1,t=>by
  rw [zat];split
  ·rename_i h
   have ih:=zed c K (zby c t).2.1;rcases zbU (c:=c) t with ⟨-,h2,-⟩ | ⟨h2,-⟩
   ·have:=congrArg List.length h2
    simp only [List.length_append,List.length_cons] at this ⊢;omega
   ·rw [h2] at h;cases h
  ·simp
theorem zcs (c:UInt8):∀ (K:Nat) (t:Bs),∀ x ∈ zat c K t,x.length<=t.length
 | 0,t,x,hx=>by simp only [zat,List.mem_singleton] at hx;subst hx;exact Nat.le_refl _
 | K+1,t,x,hx=>by
  rw [zat] at hx;split at hx
  ·rename_i h
   rcases zbU (c:=c) t with ⟨-,h2,-⟩ | ⟨h2,-⟩
   ·have e:=congrArg List.length h2
    simp only [List.length_append,List.length_cons] at e;rcases List.mem_cons.1 hx with rfl | hx
    ·omega
    ·have:=zcs c K _ x hx
     omega
   ·rw [h2] at h;cases h
  ·simp only [List.mem_singleton] at hx;subst hx;exact Nat.le_refl _
theorem zhv (n:Int) (l:Bs) (x:UInt8):zco n (l++[x])=10*zco n l+x.toNat - 48:=by rw [zha];rfl
theorem zgl:∀ (l:Bs) (n:Int) (p:Nat),-(23*p:Nat)+23<=n -> n<=(23*p:Nat) - 23 -> -(23*(10 ^ l.length*p):Nat)+23<=zco n l/\zco n l<=(23*(10 ^ l.length*p):Nat) - 23
 | [],n,p,h1,h2=>by simp only [List.length_nil,Nat.pow_zero,Nat.one_mul,zco];exact ⟨h1,h2⟩
 | c::l,n,p,h1,h2=>by
  have hc:=c.toNat_lt;have ih:=zgl l (10*n+c.toNat - 48) (10*p) (by omega) (by omega);simp only [zco,List.length_cons,Nat.pow_succ];rw [show 10 ^ l.length*10*p=10 ^ l.length*(10*p) by rw [Nat.mul_assoc]];exact ih
theorem zg9 {l:Bs} (h:l.length<=10):-230000000000<=zco 0 l/\zco 0 l<=230000000000:=by
 have h1:=zgl l 0 1 (by omega) (by omega);have h2:10 ^ l.length<=10 ^ 10:=Nat.pow_le_pow_right (by decide) h;have h3:(10:Nat) ^ 10=10000000000:=by decide
 generalize 10 ^ l.length=q at h1 h2;omega
theorem zjc {s:Bs} {j:Nat} (h:j+1 < s.length):zcz (s.drop j)=UInt8.ofNat (16*dgR s[j]+dgR s[j+1])::zcz (s.drop (j+2)):=by
 rw [List.drop_eq_getElem_cons (by omega:j < s.length),List.drop_eq_getElem_cons h]
 rfl
theorem zkK {s:Bs} {j:Nat} (h:¬ j+1 < s.length):zcz (s.drop j)=[]:=by
 rcases hs:s.drop j with _ | ⟨a,_ | ⟨b,r⟩⟩
 ·rfl
 ·rfl
 ·have:=congrArg List.length hs
  rw [List.length_drop] at this;simp only [List.length_cons] at this;omega
theorem zni (c:UInt8):dgR c < 16:=by
 unfold dgR;cases h:hexV c with
 | none=>decide
 | some x=>exact ziD h
def zjV (s:Bs):Nat:=match zbt s 0 forms with
 | none=>0
 | some (j,_)=>ziv j
theorem zb6:∀ (l:List Fm) (x:Bs) (k j:Nat) (f:Fm),zbt x k l=some (j,f) -> f ∈ l/\f.wd=x/\k<=j/\j < k+l.length
 | [],_,_,_,_,h=>by cases h
 | g::r,x,k,j,f,h=>by
  rw [zbt] at h;split at h
  ·rename_i e
   injection h with h;injection h with h1 h2
   subst h1 h2;exact ⟨by simp,e,Nat.le_refl _,by simp⟩
  ·obtain ⟨h1,h2,h3,h4⟩:=zb6 r x (k+1) j f h
   exact ⟨List.mem_cons_of_mem _ h1,h2,by omega,by simp only [List.length_cons];omega⟩
theorem zgm {x:Bs} {j:Nat} {f:Fm} (h:zbt x 0 forms=some (j,f)):zjV x=ziv j/\1<=ziv j/\ziv j<=10/\(ziv j=1 -> j=14)/\(32:UInt8) ∉ x:=by
 obtain ⟨h1,h2,-,h4⟩:=zb6 _ _ _ _ _ h;have h18:j < 18:=by have e:forms.length=18:=rfl;omega
 have hc:∀ j < 18,1<=ziv j/\ziv j<=10/\(ziv j=1 -> j=14):=by decide
 have hs:∀ f ∈ forms,(32:UInt8) ∉ f.wd:=by decide
 obtain ⟨c1,c2,c3⟩:=hc j h18;exact ⟨by unfold zjV;rw [h],c1,c2,c3,h2 ▸ hs f h1⟩
theorem zod (x:Bs):zjV x<=10:=by
 unfold zjV;split
 ·omega
 ·rename_i j f h
  exact (zgm h).2.2.1
theorem zhP (c:UInt8) (K:Nat) (t:Bs):zat c K t ≠ []:=by
 cases K with
 | zero=>simp [zat]
 | succ K=>rw [zat];split <;> simp
theorem zdI (c:UInt8) (K:Nat) (t:Bs):(zat c (K+1) t).headD []=(zby c t).1:=by
 rw [zat];split
 ·rfl
 ·rename_i h
  rcases zbU (c:=c) t with ⟨h2,-⟩ | ⟨-,h2,-⟩
  ·exact absurd h2 h
  ·rw [h2];rfl
def zcf (W:List Bs):Ac:=match zbt (W.headD []) 0 forms with
 | some (j,_)=>zce W j
 | none=>Ac.zero
theorem zlC {t:Bs} {c:Nat} (hc:zjV (zby 32 t).1=c) (hc0:c ≠ 0) (hl:(zat 32 (c - 1) t).length=c) {j:Nat} {f:Fm} (h:zbt ((zat 32 (c - 1) t).headD []) 0 forms=some (j,f)):(zat 32 (c - 1) t).length=ziv j/\zbt (zby 32 t).1 0 forms=some (j,f):=by
 have key:(zat 32 (c - 1) t).headD []=(zby 32 t).1:=by
  by_cases h1:c=1
  ·subst h1
   have hno:=(zgm h).2.2.2.2;have e:(zat 32 (1 - 1) t).headD []=t:=rfl;rw [e] at hno ⊢;rw [zen hno]
  ·obtain ⟨K,rfl⟩:∃ K,c=K+2:=⟨c - 2,by omega⟩
   exact zdI 32 K t
 rw [key] at h;exact ⟨by rw [hl,<- hc];exact (zgm h).1,h⟩
theorem zpF {t:Bs} (hc:zjV (zby 32 t).1=0):zbd t=none:=by
 rw [<- zlN];unfold ofR zhK;cases h:zbt (zby 32 t).1 0 forms with
 | none=>rfl
 | some q=>obtain ⟨j,f⟩:=q;have:=zgm h;omega
theorem zor {t:Bs} {c:Nat} (hc:zjV (zby 32 t).1=c) (hl:(zat 32 (c - 1) t).length ≠ c):zbd t=none:=by
 rw [<- zlN];unfold ofR zhK;cases h:zbt (zby 32 t).1 0 forms with
 | none=>rfl
 | some q=>
  obtain ⟨j,f⟩:=q;have:=(zgm h).1;simp only;rw [if_neg (by rw [<- this,hc];exact hl)]
theorem znx {t:Bs} {c:Nat} (hc:zjV (zby 32 t).1=c) (hc0:c ≠ 0) (hl:(zat 32 (c - 1) t).length=c):zbd t=if vAc (zcf (zat 32 (c - 1) t)) && decide (line (zcf (zat 32 (c - 1) t))=t) then some (zcf (zat 32 (c - 1) t)) else none:=by
 have hR:=zlN t;unfold ofR zhK at hR;cases h:zbt (zby 32 t).1 0 forms with
 | none=>exfalso;unfold zjV at hc;rw [h] at hc;exact hc0 hc.symm
 | some q=>
  obtain ⟨j,f⟩:=q;obtain ⟨h1,h2,-,h3,-⟩:=zgm h;rw [h] at hR;simp only at hR;rw [<- h1,hc,if_pos hl] at hR;simp only at hR;rw [<- hR];unfold zcf;cases hw:zbt ((zat 32 (c - 1) t).headD []) 0 forms with
  | some q2=>
   obtain ⟨j2,f2⟩:=q2;have h4:=(zlC hc hc0 hl hw).2;rw [h] at h4;injection h4 with h4;injection h4 with h4 _
   subst h4
   rfl
  | none=>
   simp only;have hz:vAc Ac.zero=false:=by decide
   rw [hz];simp only [Bool.false_and,Bool.false_eq_true,if_false];have hc1:c=1:=by
    by_cases e:c=1
    ·exact e
    ·exfalso
     obtain ⟨K,rfl⟩:∃ K,c=K+2:=⟨c - 2,by omega⟩;rw [show K+2 - 1=K+1 by omega,zdI,h] at hw;cases hw
   have hj:j=14:=h3 (by omega);subst hc1;subst hj;rw [if_neg];intro hh;simp only [Bool.and_eq_true,decide_eq_true_eq] at hh;have e2:t=fCheck:=hh.2.symm;rw [e2] at hw;have:zbt ((zat 32 (1 - 1) fCheck).headD []) 0 forms ≠ none:=by decide+kernel
   exact this hw
def zom (l:List Bs):Option Fc:=match zbt (l.headD []) 0 forms with
 | some (j,_)=>if j < 9 then some (zce l j).fc else none
 | none=>none
theorem zfd:∀ (l:List Fm) (x:Bs) (k j:Nat) (f:Fm),zbt x k l=some (j,f) -> l[j - k]?=some f
 | [],_,_,_,_,h=>by cases h
 | g::r,x,k,j,f,h=>by
  rw [zbt] at h;split at h
  ·injection h with h;injection h with h1 h2
   subst h1 h2;simp
  ·have h3:=(zb6 r x (k+1) j f h).2.2.1
   have:=zfd r x (k+1) j f h;rw [show j - k=(j - (k+1))+1 by omega];simpa using this
theorem zlc {l:List Bs} {x:Bs} (hx:x=l.headD []) (g1:x ≠ fRevise) (g2:x ≠ fApprove) (g3:x ≠ fPublish) (g4:x ≠ fCorrect) (g5:x ≠ fRetract) (g6:x ≠ fTakedown) (g7:x ≠ fTemplate) (g8:x ≠ fPartner) (g9:x ≠ fLease):zom l=none:=by
 unfold zom;rw [<- hx];cases h:zbt x 0 forms with
 | none=>rfl
 | some q=>
  obtain ⟨j,f⟩:=q;simp only
  by_cases hj:j < 9
  ·exfalso
   have h1:=(zb6 _ _ _ _ _ h).2.1;have h2:=zfd _ _ _ _ _ h;rw [Nat.sub_zero] at h2;have:j=0 \/ j=1 \/ j=2 \/ j=3 \/ j=4 \/ j=5 \/ j=6 \/ j=7 \/ j=8:=by omega
   rcases this with rfl | rfl | rfl | rfl | rfl | rfl | rfl | rfl | rfl <;> (injection h2 with h2;subst h2)
   ·exact g1 h1.symm
   ·exact g2 h1.symm
   ·exact g3 h1.symm
   ·exact g4 h1.symm
   ·exact g5 h1.symm
   ·exact g6 h1.symm
   ·exact g7 h1.symm
   ·exact g8 h1.symm
   ·exact g9 h1.symm
  ·rw [if_neg hj]
def zmJ (l:List Bs):Ac:=match zom l with
 | some f=>{ Ac.zero with kd:=1,fc:=f }
 | none=>Ac.zero
theorem zly {l:List Bs} (h:∀ j f,zbt (l.headD []) 0 forms=some (j,f) -> ¬ 9<=j):zcf l=zmJ l:=by
 unfold zcf zmJ zom;cases hf:zbt (l.headD []) 0 forms with
 | none=>rfl
 | some q=>
  obtain ⟨j,f⟩:=q;have hj:=h j f hf;simp only;rw [if_pos (by omega)];simp only;have:j=0 \/ j=1 \/ j=2 \/ j=3 \/ j=4 \/ j=5 \/ j=6 \/ j=7 \/ j=8:=by omega
  rcases this with rfl | rfl | rfl | rfl | rfl | rfl | rfl | rfl | rfl <;> rfl
theorem zlg {l:List Bs} {x:Bs} (hx:x=l.headD []) (g1:x ≠ fTick) (g2:x ≠ fClock) (g3:x ≠ fCut) (g4:x ≠ fFates) (g5:x ≠ fCrash) (g6:x ≠ fCheck) (g7:x ≠ fGet) (g8:x ≠ fSearch) (g9:x ≠ fForge):zcf l=zmJ l:=by
 refine zly (fun j f h hj=>?_);rw [<- hx] at h;have h1:=zb6 _ _ _ _ _ h;have h2:=zfd _ _ _ _ _ h;rw [Nat.sub_zero] at h2;have e:forms.length=18:=rfl;have:j=9 \/ j=10 \/ j=11 \/ j=12 \/ j=13 \/ j=14 \/ j=15 \/ j=16 \/ j=17:=by omega
 rcases this with rfl | rfl | rfl | rfl | rfl | rfl | rfl | rfl | rfl <;> (injection h2 with h2;subst h2)
 ·exact g1 h1.2.1.symm
 ·exact g2 h1.2.1.symm
 ·exact g3 h1.2.1.symm
 ·exact g4 h1.2.1.symm
 ·exact g5 h1.2.1.symm
 ·exact g6 h1.2.1.symm
 ·exact g7 h1.2.1.symm
 ·exact g8 h1.2.1.symm
 ·exact g9 h1.2.1.symm
end Scr
namespace Go.Proofs.YtjjfphalcibjfaaGreatDoor
open Go.Shelf Go.RowKit Cdk Scr
theorem zlM (s:Bs) (w:World):Calls Tryz.prog 82 #[.string ⟨s.toArray⟩] w fun e w'=>e=.returned (.int .i64 (zjV s))/\w=w':=by
 obtain ⟨T,hT⟩:∃ T:ByteArray,T=⟨s.toArray⟩:=⟨_,rfl⟩;obtain ⟨n,hn⟩:∃ n:Nat,n=zjV s:=⟨_,rfl⟩;rw [<- hT,<- hn];have hTl:T.toList=s:=by rw [hT,ByteArray.toList_eq]
 clear hT;replace hTl:=Y hTl;go_enter Tryz.func82,Tryz.ntmps82
 by_cases g0:s=[114,101,118,105,115,101]
 ·have pb:(T.toList==[114,101,118,105,115,101])=true:=by rw [hTl.o,g0];simp
  have hn2:n=10:=by rw [hn,g0];decide+kernel
  subst hn2;replace g0:=Y g0;clear hn;go_wp2_with fail
  go_ret;exact ⟨rfl,rfl⟩
 have mb0:(T.toList==[114,101,118,105,115,101])=false:=by rw [hTl.o,beq_eq_false_iff_ne];exact g0
 have g0:=Y g0
 by_cases g1:s=[99,111,114,114,101,99,116]
 ·have pb:(T.toList==[99,111,114,114,101,99,116])=true:=by rw [hTl.o,g1];simp
  have hn2:n=6:=by rw [hn,g1];decide+kernel
  subst hn2;replace g1:=Y g1;clear hn;go_wp2_with fail
  go_ret;exact ⟨rfl,rfl⟩
 have mb1:(T.toList==[99,111,114,114,101,99,116])=false:=by rw [hTl.o,beq_eq_false_iff_ne];exact g1
 have g1:=Y g1
 by_cases g2:s=[112,97,114,116,110,101,114]
 ·have pb:(T.toList==[112,97,114,116,110,101,114])=true:=by rw [hTl.o,g2];simp
  have hn2:n=4:=by rw [hn,g2];decide+kernel
  subst hn2;replace g2:=Y g2;clear hn;go_wp2_with fail
  go_ret;exact ⟨rfl,rfl⟩
 have mb2:(T.toList==[112,97,114,116,110,101,114])=false:=by rw [hTl.o,beq_eq_false_iff_ne];exact g2
 have g2:=Y g2
 by_cases g3:s=[115,101,97,114,99,104]
 ·have pb:(T.toList==[115,101,97,114,99,104])=true:=by rw [hTl.o,g3];simp
  have hn2:n=4:=by rw [hn,g3];decide+kernel
  subst hn2;replace g3:=Y g3;clear hn;go_wp2_with fail
  go_ret;exact ⟨rfl,rfl⟩
 have mb3:(T.toList==[115,101,97,114,99,104])=false:=by rw [hTl.o,beq_eq_false_iff_ne];exact g3
 have g3:=Y g3
 by_cases g4:s=[97,112,112,114,111,118,101]
 ·have pb:(T.toList==[97,112,112,114,111,118,101])=true:=by rw [hTl.o,g4];simp
  have hn2:n=3:=by rw [hn,g4];decide+kernel
  subst hn2;replace g4:=Y g4;clear hn;go_wp2_with fail
  go_ret;exact ⟨rfl,rfl⟩
 have mb4:(T.toList==[97,112,112,114,111,118,101])=false:=by rw [hTl.o,beq_eq_false_iff_ne];exact g4
 have g4:=Y g4
 by_cases g5:s=[112,117,98,108,105,115,104]
 ·have pb:(T.toList==[112,117,98,108,105,115,104])=true:=by rw [hTl.o,g5];simp
  have hn2:n=3:=by rw [hn,g5];decide+kernel
  subst hn2;replace g5:=Y g5;clear hn;go_wp2_with fail
  go_ret;exact ⟨rfl,rfl⟩
 have mb5:(T.toList==[112,117,98,108,105,115,104])=false:=by rw [hTl.o,beq_eq_false_iff_ne];exact g5
 have g5:=Y g5
 by_cases g6:s=[114,101,116,114,97,99,116]
 ·have pb:(T.toList==[114,101,116,114,97,99,116])=true:=by rw [hTl.o,g6];simp
  have hn2:n=3:=by rw [hn,g6];decide+kernel
  subst hn2;replace g6:=Y g6;clear hn;go_wp2_with fail
  go_ret;exact ⟨rfl,rfl⟩
 have mb6:(T.toList==[114,101,116,114,97,99,116])=false:=by rw [hTl.o,beq_eq_false_iff_ne];exact g6
 have g6:=Y g6
 by_cases g7:s=[116,101,109,112,108,97,116,101]
 ·have pb:(T.toList==[116,101,109,112,108,97,116,101])=true:=by rw [hTl.o,g7];simp
  have hn2:n=3:=by rw [hn,g7];decide+kernel
  subst hn2;replace g7:=Y g7;clear hn;go_wp2_with fail
  go_ret;exact ⟨rfl,rfl⟩
 have mb7:(T.toList==[116,101,109,112,108,97,116,101])=false:=by rw [hTl.o,beq_eq_false_iff_ne];exact g7
 have g7:=Y g7
 by_cases g8:s=[108,101,97,115,101]
 ·have pb:(T.toList==[108,101,97,115,101])=true:=by rw [hTl.o,g8];simp
  have hn2:n=3:=by rw [hn,g8];decide+kernel
  subst hn2;replace g8:=Y g8;clear hn;go_wp2_with fail
  go_ret;exact ⟨rfl,rfl⟩
 have mb8:(T.toList==[108,101,97,115,101])=false:=by rw [hTl.o,beq_eq_false_iff_ne];exact g8
 have g8:=Y g8
 by_cases g9:s=[99,114,97,115,104]
 ·have pb:(T.toList==[99,114,97,115,104])=true:=by rw [hTl.o,g9];simp
  have hn2:n=3:=by rw [hn,g9];decide+kernel
  subst hn2;replace g9:=Y g9;clear hn;go_wp2_with fail
  go_ret;exact ⟨rfl,rfl⟩
 have mb9:(T.toList==[99,114,97,115,104])=false:=by rw [hTl.o,beq_eq_false_iff_ne];exact g9
 have g9:=Y g9
 by_cases g10:s=[103,101,116]
 ·have pb:(T.toList==[103,101,116])=true:=by rw [hTl.o,g10];simp
  have hn2:n=3:=by rw [hn,g10];decide+kernel
  subst hn2;replace g10:=Y g10;clear hn;go_wp2_with fail
  go_ret;exact ⟨rfl,rfl⟩
 have mb10:(T.toList==[103,101,116])=false:=by rw [hTl.o,beq_eq_false_iff_ne];exact g10
 have g10:=Y g10
 by_cases g11:s=[116,97,107,101,100,111,119,110]
 ·have pb:(T.toList==[116,97,107,101,100,111,119,110])=true:=by rw [hTl.o,g11];simp
  have hn2:n=2:=by rw [hn,g11];decide+kernel
  subst hn2;replace g11:=Y g11;clear hn;go_wp2_with fail
  go_ret;exact ⟨rfl,rfl⟩
 have mb11:(T.toList==[116,97,107,101,100,111,119,110])=false:=by rw [hTl.o,beq_eq_false_iff_ne];exact g11
 have g11:=Y g11
 by_cases g12:s=[116,105,99,107]
 ·have pb:(T.toList==[116,105,99,107])=true:=by rw [hTl.o,g12];simp
  have hn2:n=2:=by rw [hn,g12];decide+kernel
  subst hn2;replace g12:=Y g12;clear hn;go_wp2_with fail
  go_ret;exact ⟨rfl,rfl⟩
 have mb12:(T.toList==[116,105,99,107])=false:=by rw [hTl.o,beq_eq_false_iff_ne];exact g12
 have g12:=Y g12
 by_cases g13:s=[99,108,111,99,107]
 ·have pb:(T.toList==[99,108,111,99,107])=true:=by rw [hTl.o,g13];simp
  have hn2:n=2:=by rw [hn,g13];decide+kernel
  subst hn2;replace g13:=Y g13;clear hn;go_wp2_with fail
  go_ret;exact ⟨rfl,rfl⟩
 have mb13:(T.toList==[99,108,111,99,107])=false:=by rw [hTl.o,beq_eq_false_iff_ne];exact g13
 have g13:=Y g13
 by_cases g14:s=[102,97,116,101,115]
 ·have pb:(T.toList==[102,97,116,101,115])=true:=by rw [hTl.o,g14];simp
  have hn2:n=2:=by rw [hn,g14];decide+kernel
  subst hn2;replace g14:=Y g14;clear hn;go_wp2_with fail
  go_ret;exact ⟨rfl,rfl⟩
 have mb14:(T.toList==[102,97,116,101,115])=false:=by rw [hTl.o,beq_eq_false_iff_ne];exact g14
 have g14:=Y g14
 by_cases g15:s=[102,111,114,103,101]
 ·have pb:(T.toList==[102,111,114,103,101])=true:=by rw [hTl.o,g15];simp
  have hn2:n=2:=by rw [hn,g15];decide+kernel
  subst hn2;replace g15:=Y g15;clear hn;go_wp2_with fail
  go_ret;exact ⟨rfl,rfl⟩
 have mb15:(T.toList==[102,111,114,103,101])=false:=by rw [hTl.o,beq_eq_false_iff_ne];exact g15
 have g15:=Y g15
 by_cases g16:s=[99,117,116]
 ·have pb:(T.toList==[99,117,116])=true:=by rw [hTl.o,g16];simp
  have hn2:n=2:=by rw [hn,g16];decide+kernel
  subst hn2;replace g16:=Y g16;clear hn;go_wp2_with fail
  go_ret;exact ⟨rfl,rfl⟩
 have mb16:(T.toList==[99,117,116])=false:=by rw [hTl.o,beq_eq_false_iff_ne];exact g16
 have g16:=Y g16
 by_cases g17:s=[99,104,101,99,107]
 ·have pb:(T.toList==[99,104,101,99,107])=true:=by rw [hTl.o,g17];simp
  have hn2:n=1:=by rw [hn,g17];decide+kernel
  subst hn2;replace g17:=Y g17;clear hn;go_wp2_with fail
  go_ret;exact ⟨rfl,rfl⟩
 have mb17:(T.toList==[99,104,101,99,107])=false:=by rw [hTl.o,beq_eq_false_iff_ne];exact g17
 have g17:=Y g17;have hn2:zbt s 0 forms=none:=by
  unfold forms;simp only [zbt,fTemplate,fPartner,fLease,fTick,fClock,fCut,fFates,fCrash,fCheck,fGet,fSearch,fForge];refine (if_neg (fun h=>g0.o h.symm)).trans ?_;refine (if_neg (fun h=>g4.o h.symm)).trans ?_;refine (if_neg (fun h=>g5.o h.symm)).trans ?_;refine (if_neg (fun h=>g1.o h.symm)).trans ?_;refine (if_neg (fun h=>g6.o h.symm)).trans ?_;refine (if_neg (fun h=>g11.o h.symm)).trans ?_;refine (if_neg (fun h=>g7.o h.symm)).trans ?_;refine (if_neg (fun h=>g2.o h.symm)).trans ?_;refine (if_neg (fun h=>g8.o h.symm)).trans ?_;refine (if_neg (fun h=>g12.o h.symm)).trans ?_;refine (if_neg (fun h=>g13.o h.symm)).trans ?_;refine (if_neg (fun h=>g16.o h.symm)).trans ?_;refine (if_neg (fun h=>g14.o h.symm)).trans ?_;refine (if_neg (fun h=>g9.o h.symm)).trans ?_;refine (if_neg (fun h=>g17.o h.symm)).trans ?_;refine (if_neg (fun h=>g10.o h.symm)).trans ?_;refine (if_neg (fun h=>g3.o h.symm)).trans ?_;refine (if_neg (fun h=>g15.o h.symm)).trans ?_
  rfl
 have hn3:n=0:=by rw [hn];unfold zjV;rw [hn2]
 subst hn3;clear hn hn2;go_wp2_with fail
 go_ret;exact ⟨rfl,rfl⟩
end Go.Proofs.YtjjfphalcibjfaaGreatDoor
