import Derived.Test.YtjjfphalcibjfaaGreatDoorH2
import Derived.Test.YtjjfphalcibjfaaGreatDoorB5
set_option maxRecDepth 100000
set_option maxHeartbeats 16000000
namespace Go.Proofs.YtjjfphalcibjfaaGreatDoor
open Go.Shelf Go.RowKit Cdk Scr
theorem zgR (v:Value) (l:List Bk) (w:World) (h:zaD (fun k=>k < w.heap.size) w v l) (hv:zdt l=true):
  Calls Tryz.prog 154 #[v] w fun e w'=>e=.returned (.tuple #[.string ⟨(zcL l).toArray⟩,.int .i64 0])/\Ext w w':=by
 obtain ⟨tz,htz⟩:∃ tz,tz=zcL l:=⟨_,rfl⟩;rw [<- htz];have hgood:=hid (zdn hv);have hl24:=hgood.out.1;have hvl:=hid (zcU v l w h (fun b hb=>by have:=(hgood.out.2 b hb).tx;unfold maxS;omega));rw [hv] at hvl;replace htz:tz=zbs l.length++l.flatMap zgP:=by rw [htz,zcL,if_pos hv]
 obtain ⟨ao,cap,rfl⟩:=h.slice;obtain ⟨n,hn⟩:∃ n,n=l.length:=⟨_,rfl⟩;rw [<- hn] at h hl24 htz hvl ⊢;have hnn:=hid (fun W=>za7 (n:Int) W);have hpl:=zau (n:Int);replace hn:=hid hn;replace h:=hid h;generalize zbs (n:Int)=tn at htz hnn hpl;replace htz:=hid htz;go_enter Tryz.func154,Tryz.ntmps154;go_wp2_with fail
 refine hvl.out.mono ?_;rintro e w1 ⟨rfl,hx1⟩;replace hx1:=hid hx1;clear hvl;go_wp2_with fail
 refine (hnn.out _).mono ?_;rintro e w2 ⟨rfl,hx2⟩;replace hx2:=hid (hx1.out.trans hx2);clear hnn hx1;go_wp2_with fail
 go_loopg [5,6] n (fun g o i wr=>∃ (j:Nat) (ty:Bs),j+g=n/\i=.int .i64 j/\o=.string ⟨ty.toArray⟩/\Ext w wr/\tz=ty++(l.drop j).flatMap zgP/\ty.length<=10+2000*j)
 case atStart=>exact ⟨0,tn,by omega,rfl,rfl,hx2.out,htz.out,by omega⟩
 case round=>
  clear htz hx2;obtain ⟨j,ty,hj,rfl,rfl,hx,ht,hlen⟩:=hrel;replace hj:=hid hj
  by_cases hlt:j < n
  ·have hdi:(j:Int) < (n:Int):=by omega
   have hd:decide ((j:Int) < (n:Int))=true:=decide_eq_true hdi;have hjl:j < l.length:=by have:=hn.out;omega
   obtain ⟨b1,o1,a1,m1,c1,rfl,-,hF1,hI1,g0,g1,g2,g3,g4,g5,g6,g7,g8⟩:=(h.out.ext hx).cells hjl;have hgb:=hgood.out.2 l[j] (List.getElem_mem _);rw [List.drop_eq_getElem_cons hjl] at ht;generalize l[j]=bb at g0 g1 g2 g3 g4 g5 g7 g8 hI1 hgb ht;obtain ⟨i1,k1,x1,s1,r1,t1,y1,p1,q1⟩:=bb;simp only at g0 g1 g2 g3 g4 g5 g6 g7 g8 hI1;have hm1:m1=y1.length:=by
    obtain ⟨_,_,e⟩:=hI1.slice;injection e
   obtain ⟨hg1,hg2,hg3,hg4,hg5,⟨hg6,hg7,hg8,hg9,hg10⟩⟩:=hgb;simp only at hg1 hg2 hg3 hg4 hg5 hg6 hg7 hg8 hg9 hg10;have hm64:m1<=64:=by omega
   have hmy:Hid (m1=y1.length):=hid hm1;have ht2:tz=(((ty++zbs i1++zbs k1++zeL x1++zbs s1++zbs r1)++zbs t1++zbs (m1:Int))++zaE y1++zbs p1++zbs q1)++(l.drop (j+1)).flatMap zgP:=by
    rw [ht,hm1];simp [zgP,zaE]
   clear ht;have hy64:y1.length<=64:=by omega
   clear hm1;have l4:=zaI y1;have hly:(zaE y1).length<=640:=by omega
   have hjn:j < 24:=by omega
   have hty:ty.length<=48100:=by omega
   have nI:=hid (fun W=>za7 i1 W);have nK:=hid (fun W=>za7 k1 W);have nS:=hid (fun W=>za7 s1 W);have nR:=hid (fun W=>za7 r1 W);have nT:=hid (fun W=>za7 t1 W);have nM:=hid (fun W=>za7 (m1:Int) W);have nP:=hid (fun W=>za7 p1 W);have nQ:=hid (fun W=>za7 q1 W);have nX:=hid (fun W=>zcS x1 (by omega) W);have zI:=zau i1;have zK:=zau k1;have zS:=zau s1;have zR:=zau r1;have zT:=zau t1;have zM:=zau (m1:Int);have zP:=zau p1;have zQ:=zau q1;have zX:=zbS x1;have nN:Hid (∀ (k:Nat) (hk:k < y1.length) W,Calls Tryz.prog 196 #[.int .i64 y1[k]] W fun e w'=>e=.returned (.string ⟨(zbs y1[k]).toArray⟩)/\Ext W w'):=hid (fun k hk W=>za7 y1[k] W);generalize zbs i1=tI at nI zI ht2;generalize zbs k1=tK at nK zK ht2;generalize zbs s1=tS at nS zS ht2;generalize zbs r1=tR at nR zR ht2;generalize zbs t1=tT at nT zT ht2;generalize zbs (m1:Int)=tM at nM zM ht2;generalize zbs p1=tP at nP zP ht2;generalize zbs q1=tQ at nQ zQ ht2;generalize zeL x1=tX at nX zX ht2;replace ht2:=hid ht2;replace hlen:=hid hlen;clear hg1 hg2 hg4 hg5 hg6 hg7 hg8 hg9 hg10;have hz:=hid (heap_alloc_new wr (.cells #[.int .i64 0,.int .i64 0,.string ⟨#[]⟩,.int .i64 0,.int .i64 0,.int .i64 0,.slice none 0 0,.int .i64 0,.int .i64 0] 118));have hxz:=hid (Mod.alloc (Mod.refl (fun _=>False) wr) (.cells #[.int .i64 0,.int .i64 0,.string ⟨#[]⟩,.int .i64 0,.int .i64 0,.int .i64 0,.slice none 0 0,.int .i64 0,.int .i64 0] 118));replace hx:=hid hx;obtain ⟨R,hR⟩:∃ R,R=wr.heap.size:=⟨_,rfl⟩;have hwR:w.heap.size<=R:=by rw [hR];exact hx.out.size
   replace hI1:=hid hI1;go_upto_region 9 with (refine zab rfl 118 _ _ rfl wr.heap.size _ _ 118 rfl rfl hz.out rfl (by kernel_rfl) rfl (fun W1 H1=>?_))
   rw [<- hR] at H1 ⊢;have hT:=hid H1.out.1;have hI2:=hid ((hI1.out.ext hxz.out).mod H1.out.2 (fun k h1 h2=>by have:=hx.out.size;omega));have hm0:=hid (((hx.out.trans hxz.out).mono (T:=fun k=>w.heap.size<=k) (fun _ h=>h.elim)).then H1.out.2 (fun k _ e=>by omega));clear H1 hz hxz hI1 hx g0 g1 g2 g3 g4 g5 g6 g7 g8;replace hR:=hid hR;have b0:=hid (show W1.cell? ⟨R,0,none⟩=some (.int .i64 i1) from zaa hT.out 0);have b1:=hid (show W1.cell? ⟨R,1,none⟩=some (.int .i64 k1) from zaa hT.out 1);have b2:=hid (show W1.cell? ⟨R,2,none⟩=some (.string ⟨x1.toArray⟩) from zaa hT.out 2);have b3:=hid (show W1.cell? ⟨R,3,none⟩=some (.int .i64 s1) from zaa hT.out 3);have b4:=hid (show W1.cell? ⟨R,4,none⟩=some (.int .i64 r1) from zaa hT.out 4);have b5:=hid (show W1.cell? ⟨R,5,none⟩=some (.int .i64 t1) from zaa hT.out 5);have b6:=hid (show W1.cell? ⟨R,6,none⟩=some (.slice a1 m1 c1) from zaa hT.out 6);have b7:=hid (show W1.cell? ⟨R,7,none⟩=some (.int .i64 p1) from zaa hT.out 7);have b8:=hid (show W1.cell? ⟨R,8,none⟩=some (.int .i64 q1) from zaa hT.out 8);have q2:=b2.out;go_upto_region 10 with fail
   refine (nX.out _).mono ?_;rintro e WX ⟨rfl,hxn⟩;have hI3:=hid (hI2.out.ext hxn);have hmX:=hid (hm0.out.then hxn (fun _ _ h=>h.elim));replace hT:=hid (hxn.at hT.out (fun h=>h));clear hxn hI2 hm0 q2 b0 b1 b2 b3 b4 b5 b6 b7 b8;have b0:=hid (show WX.cell? ⟨R,0,none⟩=some (.int .i64 i1) from zaa hT.out 0);have b1:=hid (show WX.cell? ⟨R,1,none⟩=some (.int .i64 k1) from zaa hT.out 1);have b2:=hid (show WX.cell? ⟨R,2,none⟩=some (.string ⟨x1.toArray⟩) from zaa hT.out 2);have b3:=hid (show WX.cell? ⟨R,3,none⟩=some (.int .i64 s1) from zaa hT.out 3);have b4:=hid (show WX.cell? ⟨R,4,none⟩=some (.int .i64 r1) from zaa hT.out 4);have b5:=hid (show WX.cell? ⟨R,5,none⟩=some (.int .i64 t1) from zaa hT.out 5);have b6:=hid (show WX.cell? ⟨R,6,none⟩=some (.slice a1 m1 c1) from zaa hT.out 6);have b7:=hid (show WX.cell? ⟨R,7,none⟩=some (.int .i64 p1) from zaa hT.out 7);have b8:=hid (show WX.cell? ⟨R,8,none⟩=some (.int .i64 q1) from zaa hT.out 8);obtain ⟨O0,hO0⟩:∃ O:ByteArray,O=⟨ty.toArray⟩:=⟨_,rfl⟩;obtain ⟨BI,hBI⟩:∃ O:ByteArray,O=⟨tI.toArray⟩:=⟨_,rfl⟩;obtain ⟨BK,hBK⟩:∃ O:ByteArray,O=⟨tK.toArray⟩:=⟨_,rfl⟩;obtain ⟨BX,hBX⟩:∃ O:ByteArray,O=⟨tX.toArray⟩:=⟨_,rfl⟩;obtain ⟨BS,hBS⟩:∃ O:ByteArray,O=⟨tS.toArray⟩:=⟨_,rfl⟩;obtain ⟨BR,hBR⟩:∃ O:ByteArray,O=⟨tR.toArray⟩:=⟨_,rfl⟩;rw [<- hO0,<- hBX];rw [<- hBI] at nI;rw [<- hBK] at nK;rw [<- hBS] at nS;rw [<- hBR] at nR;have y0:O0.size<=48100:=by rw [hO0];exact hty
   have yI:BI.size<=10:=by rw [hBI];exact zI
   have yK:BK.size<=10:=by rw [hBK];exact zK
   have yX:BX.size<=310:=by rw [hBX];show tX.length<=_;omega
   have yS:BS.size<=10:=by rw [hBS];exact zS
   have yR:BR.size<=10:=by rw [hBR];exact zR
   have c1s:¬ 9223372036854775807 < O0.size+BI.size:=by omega
   have c2s:¬ 9223372036854775807 < O0.size+BI.size+BK.size:=by omega
   have c2sb:¬ 9223372036854775807 < (O0++BI).size+BK.size:=by simp only [ByteArray.size_append];omega
   have c3s:¬ 9223372036854775807 < O0.size+BI.size+BK.size+BX.size:=by omega
   have c3sb:¬ 9223372036854775807 < (O0++BI++BK).size+BX.size:=by simp only [ByteArray.size_append];omega
   have c4s:¬ 9223372036854775807 < O0.size+BI.size+BK.size+BX.size+BS.size:=by omega
   have c4sb:¬ 9223372036854775807 < (O0++BI++BK++BX).size+BS.size:=by simp only [ByteArray.size_append];omega
   have c5s:¬ 9223372036854775807 < O0.size+BI.size+BK.size+BX.size+BS.size+BR.size:=by omega
   have c5sb:¬ 9223372036854775807 < (O0++BI++BK++BX++BS).size+BR.size:=by simp only [ByteArray.size_append];omega
   have hO1:Hid (O0++BI++BK++BX++BS++BR=⟨(ty++tI++tK++tX++tS++tR).toArray⟩):=hid (by rw [hO0,hBI,hBK,hBX,hBS,hBR];simp only [zba]);clear y0 yI yK yX yS yR hO0 hBI hBK hBX hBS hBR;go_upto_region 10 with fail
   try simp only [List.append_eq,List.cons_append,List.nil_append]
   refine zad (fun Wx=>Ext WX Wx) [(0,true),(1,true),(2,true),(5,true),(6,true),(9,true),(11,true),(12,true),(15,true),(16,true),(3,false),(4,true),(7,false),(8,true),(10,true),(13,false),(14,true),(17,false),(18,true),(19,true)]
    (by as_aux_lemma=>kernel_rfl) (by as_aux_lemma=>kernel_rfl) (by as_aux_lemma=>kernel_rfl) (by decide) (Mod.drew0 (fun _=>False) WX) ?_
   simp only [zak,List.map_cons,List.map_nil,List.getD_cons_zero,List.getD_cons_succ];have hy0:=hid (Mod.drew0 (fun _=>False) WX)
   iterate 10 (refine zaB (by rfl) ?_ (fun w' hC=>?_) ?_;rotate_left;(have q_b0:=hC.cell b0.out (fun h=>h);have q_b1:=hC.cell b1.out (fun h=>h);have q_b3:=hC.cell b3.out (fun h=>h);have q_b4:=hC.cell b4.out (fun h=>h);go_simp;try with_reducible rfl);try simp only [Act.put,sA,sZ,sS])
   refine zaj (by rfl) (fun K hK=>?_);go_simp;refine (nI.out _).mono ?_;rintro e v1 ⟨rfl,hxn⟩;refine hK.out _ _ (hy0.out.trans hxn) ?_;have hy1:=hid (hy0.out.trans hxn);clear hK K hxn;try simp only [Act.put,sA,sZ,sS]
   refine zaB (by rfl) ?_ (fun w' hC=>?_) ?_;rotate_left;(have q_b0:=hC.cell b0.out (fun h=>h);have q_b1:=hC.cell b1.out (fun h=>h);have q_b3:=hC.cell b3.out (fun h=>h);have q_b4:=hC.cell b4.out (fun h=>h);go_simp;try with_reducible rfl);try simp only [Act.put,sA,sZ,sS]
   refine zaj (by rfl) (fun K hK=>?_);go_simp;refine (nK.out _).mono ?_;rintro e v2 ⟨rfl,hxn⟩;refine hK.out _ _ (hy1.out.trans hxn) ?_;have hy2:=hid (hy1.out.trans hxn);clear hK K hxn;try simp only [Act.put,sA,sZ,sS]
   iterate 2 (refine zaB (by rfl) ?_ (fun w' hC=>?_) ?_;rotate_left;(have q_b0:=hC.cell b0.out (fun h=>h);have q_b1:=hC.cell b1.out (fun h=>h);have q_b3:=hC.cell b3.out (fun h=>h);have q_b4:=hC.cell b4.out (fun h=>h);go_simp;try with_reducible rfl);try simp only [Act.put,sA,sZ,sS])
   refine zaj (by rfl) (fun K hK=>?_);go_simp;refine (nS.out _).mono ?_;rintro e v3 ⟨rfl,hxn⟩;refine hK.out _ _ (hy2.out.trans hxn) ?_;have hy3:=hid (hy2.out.trans hxn);clear hK K hxn;try simp only [Act.put,sA,sZ,sS]
   refine zaB (by rfl) ?_ (fun w' hC=>?_) ?_;rotate_left;(have q_b0:=hC.cell b0.out (fun h=>h);have q_b1:=hC.cell b1.out (fun h=>h);have q_b3:=hC.cell b3.out (fun h=>h);have q_b4:=hC.cell b4.out (fun h=>h);go_simp;try with_reducible rfl);try simp only [Act.put,sA,sZ,sS]
   refine zaj (by rfl) (fun K hK=>?_);go_simp;refine (nR.out _).mono ?_;rintro e v4 ⟨rfl,hxn⟩;refine hK.out _ _ (hy3.out.trans hxn) ?_;have hy4:=hid (hy3.out.trans hxn);clear hK K hxn;try simp only [Act.put,sA,sZ,sS]
   iterate 2 (refine zaB (by rfl) ?_ (fun w' hC=>?_) ?_;rotate_left;(have q_b0:=hC.cell b0.out (fun h=>h);have q_b1:=hC.cell b1.out (fun h=>h);have q_b3:=hC.cell b3.out (fun h=>h);have q_b4:=hC.cell b4.out (fun h=>h);go_simp;try with_reducible rfl);try simp only [Act.put,sA,sZ,sS])
   refine zas ?_;rw [hO1.out];clear c1s c2s c3s c4s c5s c2sb c3sb c4sb c5sb hO1 nI nK nS nR nX;have hty2:(ty++tI++tK++tX++tS++tR).length<=48450:=by simp only [List.length_append];omega
   generalize hO2:ty++tI++tK++tX++tS++tR=ty2 at hty2 ht2 ⊢;replace hO2:=hid hO2;have hT2:=hid (hy4.out.at hT.out (fun h=>h));have hI4:=hid (hI3.out.ext hy4.out);have hm4:=hid (hmX.out.then hy4.out (fun _ _ h=>h.elim));clear hT hI3 hmX hy0 hy1 hy2 hy3 hy4 b0 b1 b2 b3 b4 b5 b6 b7 b8;have e5:=hid (show v4.cell? ⟨R,5,none⟩=some (.int .i64 t1) from zaa hT2.out 5);have e6:=hid (show v4.cell? ⟨R,6,none⟩=some (.slice a1 m1 c1) from zaa hT2.out 6);obtain ⟨O0,hO0⟩:∃ O:ByteArray,O=⟨ty2.toArray⟩:=⟨_,rfl⟩;obtain ⟨BT,hBT⟩:∃ O:ByteArray,O=⟨tT.toArray⟩:=⟨_,rfl⟩;obtain ⟨BM,hBM⟩:∃ O:ByteArray,O=⟨tM.toArray⟩:=⟨_,rfl⟩;rw [<- hO0];rw [<- hBT] at nT;rw [<- hBM] at nM;have y0:O0.size<=48450:=by rw [hO0];exact hty2
   have yT:BT.size<=10:=by rw [hBT];exact zT
   have yM:BM.size<=10:=by rw [hBM];exact zM
   have c1s:¬ 9223372036854775807 < O0.size+BT.size:=by omega
   have c2s:¬ 9223372036854775807 < O0.size+BT.size+BM.size:=by omega
   have c2sb:¬ 9223372036854775807 < (O0++BT).size+BM.size:=by simp only [ByteArray.size_append];omega
   have hO1:Hid (O0++BT++BM=⟨(ty2++tT++tM).toArray⟩):=hid (by rw [hO0,hBT,hBM];simp only [zba]);clear y0 yT yM hO0 hBT hBM;go_upto_region 11 with fail
   try simp only [List.append_eq,List.cons_append,List.nil_append]
   refine zad (fun Wx=>Ext v4 Wx) [(0,true),(1,true),(2,true),(3,true),(6,true),(7,true),(8,true),(9,true),(4,false),(5,true),(10,false),(11,true),(12,true)]
    (by as_aux_lemma=>kernel_rfl) (by as_aux_lemma=>kernel_rfl) (by as_aux_lemma=>kernel_rfl) (by decide) (Mod.drew0 (fun _=>False) v4) ?_
   simp only [zak,List.map_cons,List.map_nil,List.getD_cons_zero,List.getD_cons_succ];have hz0:=hid (Mod.drew0 (fun _=>False) v4)
   iterate 8 (refine zaB (by rfl) ?_ (fun w' hC=>?_) ?_;rotate_left;(have q_e5:=hC.cell e5.out (fun h=>h);have q_e6:=hC.cell e6.out (fun h=>h);go_simp;try with_reducible rfl);try simp only [Act.put,sA,sZ,sS])
   refine zaj (by rfl) (fun K hK=>?_);go_simp;refine (nT.out _).mono ?_;rintro e u1 ⟨rfl,hxn⟩;refine hK.out _ _ (hz0.out.trans hxn) ?_;have hz1:=hid (hz0.out.trans hxn);clear hK K hxn;try simp only [Act.put,sA,sZ,sS]
   refine zaB (by rfl) ?_ (fun w' hC=>?_) ?_;rotate_left;(have q_e5:=hC.cell e5.out (fun h=>h);have q_e6:=hC.cell e6.out (fun h=>h);go_simp;try with_reducible rfl);try simp only [Act.put,sA,sZ,sS]
   refine zaj (by rfl) (fun K hK=>?_);go_simp;refine (nM.out _).mono ?_;rintro e u2 ⟨rfl,hxn⟩;refine hK.out _ _ (hz1.out.trans hxn) ?_;have hz2:=hid (hz1.out.trans hxn);clear hK K hxn;try simp only [Act.put,sA,sZ,sS]
   iterate 2 (refine zaB (by rfl) ?_ (fun w' hC=>?_) ?_;rotate_left;(have q_e5:=hC.cell e5.out (fun h=>h);have q_e6:=hC.cell e6.out (fun h=>h);go_simp;try with_reducible rfl);try simp only [Act.put,sA,sZ,sS])
   refine zas ?_;rw [hO1.out];clear c1s c2s c2sb hO1 nT nM;have hty3:(ty2++tT++tM).length<=48470:=by simp only [List.length_append];omega
   generalize hO3:ty2++tT++tM=ty3 at hty3 ht2 ⊢;replace hO3:=hid hO3;have hT3:=hid (hz2.out.at hT2.out (fun h=>h));have hI5:=hid (hI4.out.ext hz2.out);have hm5:=hid (hm4.out.then hz2.out (fun _ _ h=>h.elim));clear hT2 hI4 hm4 hz0 hz1 hz2 e5 e6;replace ht2:=hid ht2;go_wp2_with fail
   obtain ⟨J,rfl⟩:∃ J,J=j:=⟨_,rfl⟩;obtain ⟨G,rfl⟩:∃ G,G=gk:=⟨_,rfl⟩;go_loopg [5,10] m1 (fun g o k wi=>∃ (i:Nat) (tt:Bs),i+g=m1/\k=.int .i64 i/\o=.string ⟨tt.toArray⟩/\tt=ty3++zaE (y1.take i)/\Ext u2 wi)
   case atStart=>exact ⟨0,ty3,by omega,rfl,rfl,by simp [zaE],Mod.refl _ _⟩
   case round=>
    obtain ⟨i,tt,hi,rfl,rfl,htt,hxi⟩:=hrel;replace hi:=hid hi;have hTi:=hid (hxi.at hT3.out (fun h=>h));have f6:wr.cell? ⟨R,6,none⟩=some (.slice a1 m1 c1):=zaa hTi.out 6;have httl:tt.length<=49200:=by
     rw [htt];have:=zaI (y1.take i);have h2:(y1.take i).length<=64:=by rw [List.length_take];omega
     simp only [List.length_append];omega
    by_cases hlti:i < m1
    ·have hdk:(i:Int) < (m1:Int):=by omega
     have hdd:decide ((i:Int) < (m1:Int))=true:=decide_eq_true hdk;have hiy:i < y1.length:=by have:=hmy.out;omega
     have hIi:=hI5.out.ext hxi;rw [hmy.out] at hIi;obtain ⟨b2,o2,rfl,cI⟩:=zbA hIi hiy;have nNi:=hid (nN.out i hiy);have zN:=zau y1[i];have htk:zaE (y1.take (i+1))=zaE (y1.take i)++zbs y1[i]:=by
      rw [List.take_succ_eq_append_getElem hiy,zgG];simp [zaE]
     generalize y1[i]=yi at cI nNi zN htk;generalize zbs yi=tN at nNi zN htk;have hnx:Hid (tt++tN=ty3++zaE (y1.take (i+1))):=hid (by rw [htk,htt,List.append_assoc]);have hc1:(⟨tt.toArray⟩:ByteArray).size+(⟨tN.toArray⟩:ByteArray).size<=1000000:=by rw [zaS,zaS];omega
     have hfin:Hid ((⟨tt.toArray⟩:ByteArray)++⟨tN.toArray⟩=⟨(tt++tN).toArray⟩):=hid (zba _ _);replace htt:=hid htt;replace htk:=hid htk;replace hxi:=hid hxi;clear hIi;go_wp2_with fail
     refine (nNi.out _).mono ?_;rintro e wn ⟨rfl,hxn⟩;have hxi2:=hid (hxi.out.trans hxn);clear hxn hxi hTi f6;go_wp2_with fail
     go_roundg (gk - 1)
     case measure=>have:=hi.out;omega
     case rel=>exact ⟨i+1,tt++tN,by have:=hi.out;omega,by go_num,by rw [hfin.out],hnx.out,hxi2.out⟩
    ·obtain rfl:i=m1:=by have:=hi.out;omega
     have hdk:¬ (i:Int) < (i:Int):=by omega
     have hdd:decide ((i:Int) < (i:Int))=false:=decide_eq_false hdk;rw [List.take_of_length_le (by have:=hmy.out;omega)] at htt;replace htt:=hid htt;go_upto_region 16 with fail
     have e7:=hid (show wr.cell? ⟨R,7,none⟩=some (.int .i64 p1) from zaa hTi.out 7);have e8:=hid (show wr.cell? ⟨R,8,none⟩=some (.int .i64 q1) from zaa hTi.out 8);obtain ⟨O0,hO0⟩:∃ O:ByteArray,O=⟨tt.toArray⟩:=⟨_,rfl⟩;obtain ⟨BP,hBP⟩:∃ O:ByteArray,O=⟨tP.toArray⟩:=⟨_,rfl⟩;obtain ⟨BQ,hBQ⟩:∃ O:ByteArray,O=⟨tQ.toArray⟩:=⟨_,rfl⟩;rw [<- hO0];rw [<- hBP] at nP;rw [<- hBQ] at nQ;have y0:O0.size<=49200:=by rw [hO0];exact httl
     have yP:BP.size<=10:=by rw [hBP];exact zP
     have yQ:BQ.size<=10:=by rw [hBQ];exact zQ
     have c1s:¬ 9223372036854775807 < O0.size+BP.size:=by omega
     have c2s:¬ 9223372036854775807 < O0.size+BP.size+BQ.size:=by omega
     have c2sb:¬ 9223372036854775807 < (O0++BP).size+BQ.size:=by simp only [ByteArray.size_append];omega
     have hO1:Hid (O0++BP++BQ=⟨(tt++tP++tQ).toArray⟩):=hid (by rw [hO0,hBP,hBQ];simp only [zba]);clear y0 yP yQ hO0 hBP hBQ;replace hxi:=hid hxi;clear f6;go_upto_region 16 with fail
     try simp only [List.append_eq,List.cons_append,List.nil_append]
     refine zad (fun Wx=>Ext wr Wx) [(0,true),(1,true),(2,true),(3,true),(6,true),(7,true),(8,true),(4,false),(5,true),(9,false),(10,true),(11,true)]
      (by as_aux_lemma=>kernel_rfl) (by as_aux_lemma=>kernel_rfl) (by as_aux_lemma=>kernel_rfl) (by decide) (Mod.drew0 (fun _=>False) wr) ?_
     simp only [zak,List.map_cons,List.map_nil,List.getD_cons_zero,List.getD_cons_succ];have ho0:=hid (Mod.drew0 (fun _=>False) wr)
     iterate 7 (refine zaB (by rfl) ?_ (fun w' hC=>?_) ?_;rotate_left;(have q_e7:=hC.cell e7.out (fun h=>h);have q_e8:=hC.cell e8.out (fun h=>h);go_simp;try with_reducible rfl);try simp only [Act.put,sA,sZ,sS])
     refine zaj (by rfl) (fun K hK=>?_);go_simp;refine (nP.out _).mono ?_;rintro e x1 ⟨rfl,hxn⟩;refine hK.out _ _ (ho0.out.trans hxn) ?_;have ho1:=hid (ho0.out.trans hxn);clear hK K hxn;try simp only [Act.put,sA,sZ,sS]
     refine zaB (by rfl) ?_ (fun w' hC=>?_) ?_;rotate_left;(have q_e7:=hC.cell e7.out (fun h=>h);have q_e8:=hC.cell e8.out (fun h=>h);go_simp;try with_reducible rfl);try simp only [Act.put,sA,sZ,sS]
     refine zaj (by rfl) (fun K hK=>?_);go_simp;refine (nQ.out _).mono ?_;rintro e x2 ⟨rfl,hxn⟩;refine hK.out _ _ (ho1.out.trans hxn) ?_;have ho2:=hid (ho1.out.trans hxn);clear hK K hxn;try simp only [Act.put,sA,sZ,sS]
     iterate 2 (refine zaB (by rfl) ?_ (fun w' hC=>?_) ?_;rotate_left;(have q_e7:=hC.cell e7.out (fun h=>h);have q_e8:=hC.cell e8.out (fun h=>h);go_simp;try with_reducible rfl);try simp only [Act.put,sA,sZ,sS])
     refine zas ?_;rw [hO1.out];have hxf:=hid (hxi.out.trans ho2.out);have htz2:Hid (tz=(tt++tP++tQ)++(l.drop (J+1)).flatMap zgP):=hid (by rw [ht2.out,htt.out])
     have hlf:Hid ((tt++tP++tQ).length<=10+2000*(J+1)):=hid (by
      have e1:=hlen.out;have e2:=congrArg List.length hO2.out;have e3:=congrArg List.length hO3.out;rw [htt.out];simp only [List.length_append] at e2 e3 ⊢
      omega)
     clear c1s c2s c2sb hO1 ho0 ho1 hTi;go_wp2_with fail
     go_roundg (G - 1)
     case measure=>have:=hj.out;omega
     case rel=>exact ⟨J+1,tt++tP++tQ,by have:=hj.out;omega,by go_num,by simp,(hm5.out.then hxf.out (fun _ _ h=>h.elim)).mono' (fun k h1 h2=>by omega),htz2.out,hlf.out⟩
  ·obtain rfl:j=n:=by have:=hj.out;omega
   have hdi:¬ (j:Int) < (j:Int):=by omega
   have hd:decide ((j:Int) < (j:Int))=false:=decide_eq_false hdi;rw [List.drop_eq_nil_of_le (by have:=hn.out;omega)] at ht;replace ht:=hid ht;replace hx:=hid hx;go_wp2_with fail
   go_ret2
   exact ⟨by rw [ht.out];simp,hx.out⟩
end Go.Proofs.YtjjfphalcibjfaaGreatDoor
