import Derived.Test.YtjjfphalcibjfaaGreatDoorH2
import Derived.Test.YtjjfphalcibjfaaGreatDoorB5
import Derived.Test.YtjjfphalcibjfaaGreatDoorB12
set_option maxRecDepth 100000
set_option maxHeartbeats 16000000
namespace Go.Proofs.YtjjfphalcibjfaaGreatDoor
open Go.Shelf Go.RowKit Cdk Scr
theorem zi0 (v:Value) (l:List Bk) (w:World) (h:zaE (fun k=>k < w.heap.size) w v l) (hv:zec l=true):
  Calls Tryz.prog 154 #[v] w fun e w'=>e=.returned (.tuple #[.string ⟨(zcl l).toArray⟩,.int .i64 0])/\Ext w w':=by
 obtain ⟨tz,htz⟩:∃ tz,tz=zcl l:=⟨_,rfl⟩;rw [<- htz];have hgood:=Y (zcp hv);have hl24:=hgood.o.1;have hvl:=Y (zbR v l w h (fun b hb=>by have:=(hgood.o.2 b hb).tx;unfold maxS;omega));rw [hv] at hvl;replace htz:tz=zbc l.length++l.flatMap zgR:=by rw [htz,zcl,if_pos hv]
 obtain ⟨ao,cap,rfl⟩:=h.slice;obtain ⟨n,hn⟩:∃ n,n=l.length:=⟨_,rfl⟩;rw [<- hn] at h hl24 htz hvl ⊢;have hnn:=Y (fun W=>za5 (n:Int) W);have hpl:=zay (n:Int);replace hn:=Y hn;replace h:=Y h;generalize zbc (n:Int)=tn at htz hnn hpl;replace htz:=Y htz;go_enter Tryz.func154,Tryz.ntmps154;go_wp2_with fail
 refine hvl.o.mono ?_;rintro e w1 ⟨rfl,hx1⟩;replace hx1:=Y hx1;clear hvl;go_wp2_with fail
 refine (hnn.o _).mono ?_;rintro e w2 ⟨rfl,hx2⟩;replace hx2:=Y (hx1.o.trans hx2);clear hnn hx1;go_wp2_with fail
 go_loopg [5,6] n (fun g o i wr=>∃ (j:Nat) (ty:Bs),j+g=n/\i=.int .i64 j/\o=.string ⟨ty.toArray⟩/\Ext w wr/\tz=ty++(l.drop j).flatMap zgR/\ty.length<=10+2000*j)
 case atStart=>exact ⟨0,tn,by omega,rfl,rfl,hx2.o,htz.o,by omega⟩
 case round=>
  clear htz hx2;obtain ⟨j,ty,hj,rfl,rfl,hx,ht,hlen⟩:=hrel;replace hj:=Y hj
  by_cases hlt:j < n
  ·have hdi:(j:Int) < (n:Int):=by omega
   have hd:decide ((j:Int) < (n:Int))=true:=decide_eq_true hdi;have hjl:j < l.length:=by have:=hn.o;omega
   obtain ⟨b1,o1,a1,m1,c1,rfl,-,hF1,hI1,g0,g1,g2,g3,g4,g5,g6,g7,g8⟩:=(h.o.ext hx).cells hjl;have hgb:=hgood.o.2 l[j] (List.getElem_mem _);rw [List.drop_eq_getElem_cons hjl] at ht;generalize l[j]=bb at g0 g1 g2 g3 g4 g5 g7 g8 hI1 hgb ht;obtain ⟨i1,k1,x1,s1,r1,t1,y1,p1,q1⟩:=bb;simp only at g0 g1 g2 g3 g4 g5 g6 g7 g8 hI1;have hm1:m1=y1.length:=by
    obtain ⟨_,_,e⟩:=hI1.slice;injection e
   obtain ⟨hg1,hg2,hg3,hg4,hg5,⟨hg6,hg7,hg8,hg9,hg10⟩⟩:=hgb;simp only at hg1 hg2 hg3 hg4 hg5 hg6 hg7 hg8 hg9 hg10;have hm64:m1<=64:=by omega
   have hmy:Hid (m1=y1.length):=Y hm1;have ht2:tz=(((ty++zbc i1++zbc k1++zeQ x1++zbc s1++zbc r1)++zbc t1++zbc (m1:Int))++zaB y1++zbc p1++zbc q1)++(l.drop (j+1)).flatMap zgR:=by
    rw [ht,hm1];simp [zgR,zaB]
   clear ht;have hy64:y1.length<=64:=by omega
   clear hm1;have l4:=zaH y1;have hly:(zaB y1).length<=640:=by omega
   have hjn:j < 24:=by omega
   have hty:ty.length<=48100:=by omega
   have nI:=Y (fun W=>za5 i1 W);have nK:=Y (fun W=>za5 k1 W);have nS:=Y (fun W=>za5 s1 W);have nR:=Y (fun W=>za5 r1 W);have nT:=Y (fun W=>za5 t1 W);have nM:=Y (fun W=>za5 (m1:Int) W);have nP:=Y (fun W=>za5 p1 W);have nQ:=Y (fun W=>za5 q1 W);have nX:=Y (fun W=>zdp x1 (by omega) W);have zI:=zay i1;have zK:=zay k1;have zS:=zay s1;have zR:=zay r1;have zT:=zay t1;have zM:=zay (m1:Int);have zP:=zay p1;have zQ:=zay q1;have zX:=zb3 x1;have nN:Hid (∀ (k:Nat) (hk:k < y1.length) W,Calls Tryz.prog 196 #[.int .i64 y1[k]] W fun e w'=>e=.returned (.string ⟨(zbc y1[k]).toArray⟩)/\Ext W w'):=Y (fun k hk W=>za5 y1[k] W);generalize zbc i1=tI at nI zI ht2;generalize zbc k1=tK at nK zK ht2;generalize zbc s1=tS at nS zS ht2;generalize zbc r1=tR at nR zR ht2;generalize zbc t1=tT at nT zT ht2;generalize zbc (m1:Int)=tM at nM zM ht2;generalize zbc p1=tP at nP zP ht2;generalize zbc q1=tQ at nQ zQ ht2;generalize zeQ x1=tX at nX zX ht2;replace ht2:=Y ht2;replace hlen:=Y hlen;clear hg1 hg2 hg4 hg5 hg6 hg7 hg8 hg9 hg10;have hz:=Y (heap_alloc_new wr (.cells #[.int .i64 0,.int .i64 0,.string ⟨#[]⟩,.int .i64 0,.int .i64 0,.int .i64 0,.slice none 0 0,.int .i64 0,.int .i64 0] 118));have hxz:=Y (Mod.alloc (Mod.refl (fun _=>False) wr) (.cells #[.int .i64 0,.int .i64 0,.string ⟨#[]⟩,.int .i64 0,.int .i64 0,.int .i64 0,.slice none 0 0,.int .i64 0,.int .i64 0] 118));replace hx:=Y hx;obtain ⟨R,hR⟩:∃ R,R=wr.heap.size:=⟨_,rfl⟩;have hwR:w.heap.size<=R:=by rw [hR];exact hx.o.size
   replace hI1:=Y hI1;go_upto_region 9 with (refine zab rfl 118 _ _ rfl wr.heap.size _ _ 118 rfl rfl hz.o rfl (by kernel_rfl) rfl (fun W1 H1=>?_))
   rw [<- hR] at H1 ⊢;have hT:=Y H1.o.1;have hI2:=Y ((hI1.o.ext hxz.o).mod H1.o.2 (fun k h1 h2=>by have:=hx.o.size;omega));have hm0:=Y (((hx.o.trans hxz.o).mono (T:=fun k=>w.heap.size<=k) (fun _ h=>h.elim)).then H1.o.2 (fun k _ e=>by omega));clear H1 hz hxz hI1 hx g0 g1 g2 g3 g4 g5 g6 g7 g8;replace hR:=Y hR;have b0:=Y (show W1.cell? ⟨R,0,none⟩=some (.int .i64 i1) from zaa hT.o 0);have b1:=Y (show W1.cell? ⟨R,1,none⟩=some (.int .i64 k1) from zaa hT.o 1);have b2:=Y (show W1.cell? ⟨R,2,none⟩=some (.string ⟨x1.toArray⟩) from zaa hT.o 2);have b3:=Y (show W1.cell? ⟨R,3,none⟩=some (.int .i64 s1) from zaa hT.o 3);have b4:=Y (show W1.cell? ⟨R,4,none⟩=some (.int .i64 r1) from zaa hT.o 4);have b5:=Y (show W1.cell? ⟨R,5,none⟩=some (.int .i64 t1) from zaa hT.o 5);have b6:=Y (show W1.cell? ⟨R,6,none⟩=some (.slice a1 m1 c1) from zaa hT.o 6);have b7:=Y (show W1.cell? ⟨R,7,none⟩=some (.int .i64 p1) from zaa hT.o 7);have b8:=Y (show W1.cell? ⟨R,8,none⟩=some (.int .i64 q1) from zaa hT.o 8);have q2:=b2.o;go_upto_region 10 with fail
   refine (nX.o _).mono ?_;rintro e WX ⟨rfl,hxn⟩;have hI3:=Y (hI2.o.ext hxn);have hmX:=Y (hm0.o.then hxn (fun _ _ h=>h.elim));replace hT:=Y (hxn.at hT.o id);clear hxn hI2 hm0 q2 b0 b1 b2 b3 b4 b5 b6 b7 b8;have b0:=Y (show WX.cell? ⟨R,0,none⟩=some (.int .i64 i1) from zaa hT.o 0);have b1:=Y (show WX.cell? ⟨R,1,none⟩=some (.int .i64 k1) from zaa hT.o 1);have b2:=Y (show WX.cell? ⟨R,2,none⟩=some (.string ⟨x1.toArray⟩) from zaa hT.o 2);have b3:=Y (show WX.cell? ⟨R,3,none⟩=some (.int .i64 s1) from zaa hT.o 3);have b4:=Y (show WX.cell? ⟨R,4,none⟩=some (.int .i64 r1) from zaa hT.o 4);have b5:=Y (show WX.cell? ⟨R,5,none⟩=some (.int .i64 t1) from zaa hT.o 5);have b6:=Y (show WX.cell? ⟨R,6,none⟩=some (.slice a1 m1 c1) from zaa hT.o 6);have b7:=Y (show WX.cell? ⟨R,7,none⟩=some (.int .i64 p1) from zaa hT.o 7);have b8:=Y (show WX.cell? ⟨R,8,none⟩=some (.int .i64 q1) from zaa hT.o 8);obtain ⟨O0,hO0⟩:∃ O:ByteArray,O=⟨ty.toArray⟩:=⟨_,rfl⟩;obtain ⟨BI,hBI⟩:∃ O:ByteArray,O=⟨tI.toArray⟩:=⟨_,rfl⟩;obtain ⟨BK,hBK⟩:∃ O:ByteArray,O=⟨tK.toArray⟩:=⟨_,rfl⟩;obtain ⟨BX,hBX⟩:∃ O:ByteArray,O=⟨tX.toArray⟩:=⟨_,rfl⟩;obtain ⟨BS,hBS⟩:∃ O:ByteArray,O=⟨tS.toArray⟩:=⟨_,rfl⟩;obtain ⟨BR,hBR⟩:∃ O:ByteArray,O=⟨tR.toArray⟩:=⟨_,rfl⟩;rw [<- hO0,<- hBX];rw [<- hBI] at nI;rw [<- hBK] at nK;rw [<- hBS] at nS;rw [<- hBR] at nR;have y0:O0.size<=48100:=by rw [hO0];exact hty
   have yI:BI.size<=10:=by rw [hBI];exact zI
   have yK:BK.size<=10:=by rw [hBK];exact zK
   have yX:BX.size<=310:=by rw [hBX];show tX.length<=_;omega
   have yS:BS.size<=10:=by rw [hBS];exact zS
   have yR:BR.size<=10:=by rw [hBR];exact zR
   have c1s:¬ 9223372036854775807 < O0.size+BI.size:=by omega
   have c2s:¬ 9223372036854775807 < O0.size+BI.size+BK.size:=by omega
   have c2sb:¬ 9223372036854775807 < (O0++BI).size+BK.size:=by simp only [ByteArray.size_append];omega
   have c3s:¬ 9223372036854775807 < O0.size+BI.size+BK.size+BX.size:=by omega
   have c3sb:¬ 9223372036854775807 < (O0++BI++BK).size+BX.size:=by simp only [ByteArray.size_append];omega
   have c4s:¬ 9223372036854775807 < O0.size+BI.size+BK.size+BX.size+BS.size:=by omega
   have c4sb:¬ 9223372036854775807 < (O0++BI++BK++BX).size+BS.size:=by simp only [ByteArray.size_append];omega
   have c5s:¬ 9223372036854775807 < O0.size+BI.size+BK.size+BX.size+BS.size+BR.size:=by omega
   have c5sb:¬ 9223372036854775807 < (O0++BI++BK++BX++BS).size+BR.size:=by simp only [ByteArray.size_append];omega
   have hO1:Hid (O0++BI++BK++BX++BS++BR=⟨(ty++tI++tK++tX++tS++tR).toArray⟩):=Y (by rw [hO0,hBI,hBK,hBX,hBS,hBR];simp only [zbl]);clear y0 yI yK yX yS yR hO0 hBI hBK hBX hBS hBR;go_upto_region 10 with fail
   try simp only [List.append_eq,List.cons_append,List.nil_append]
   refine rS (fun Wx=>Ext WX Wx) [(0,true),(1,true),(2,true),(5,true),(6,true),(9,true),(11,true),(12,true),(15,true),(16,true),(3,false),(4,true),(7,false),(8,true),(10,true),(13,false),(14,true),(17,false),(18,true),(19,true)] (Mod.drew0 (fun _=>False) WX) ?_;simp only [zah,List.map_cons,List.map_nil,List.getD_cons_zero,List.getD_cons_succ];have hy0:=Y (Mod.drew0 (fun _=>False) WX)
   iterate 10 (refine zav (by rfl) ?_ (fun w' hC=>?_) ?_;rotate_left;(have q_b0:=hC.cell b0.o id;have q_b1:=hC.cell b1.o id;have q_b3:=hC.cell b3.o id;have q_b4:=hC.cell b4.o id;go_simp;try with_reducible rfl);try simp only [Act.put,sA,sZ,sS])
   refine zak (by rfl) (fun K hK=>?_);go_simp;refine (nI.o _).mono ?_;rintro e v1 ⟨rfl,hxn⟩;refine hK.o _ _ (hy0.o.trans hxn) ?_;have hy1:=Y (hy0.o.trans hxn);clear hK K hxn;try simp only [Act.put,sA,sZ,sS]
   refine zav (by rfl) ?_ (fun w' hC=>?_) ?_;rotate_left;(have q_b0:=hC.cell b0.o id;have q_b1:=hC.cell b1.o id;have q_b3:=hC.cell b3.o id;have q_b4:=hC.cell b4.o id;go_simp;try with_reducible rfl);try simp only [Act.put,sA,sZ,sS]
   refine zak (by rfl) (fun K hK=>?_);go_simp;refine (nK.o _).mono ?_;rintro e v2 ⟨rfl,hxn⟩;refine hK.o _ _ (hy1.o.trans hxn) ?_;have hy2:=Y (hy1.o.trans hxn);clear hK K hxn;try simp only [Act.put,sA,sZ,sS]
   iterate 2 (refine zav (by rfl) ?_ (fun w' hC=>?_) ?_;rotate_left;(have q_b0:=hC.cell b0.o id;have q_b1:=hC.cell b1.o id;have q_b3:=hC.cell b3.o id;have q_b4:=hC.cell b4.o id;go_simp;try with_reducible rfl);try simp only [Act.put,sA,sZ,sS])
   refine zak (by rfl) (fun K hK=>?_);go_simp;refine (nS.o _).mono ?_;rintro e v3 ⟨rfl,hxn⟩;refine hK.o _ _ (hy2.o.trans hxn) ?_;have hy3:=Y (hy2.o.trans hxn);clear hK K hxn;try simp only [Act.put,sA,sZ,sS]
   refine zav (by rfl) ?_ (fun w' hC=>?_) ?_;rotate_left;(have q_b0:=hC.cell b0.o id;have q_b1:=hC.cell b1.o id;have q_b3:=hC.cell b3.o id;have q_b4:=hC.cell b4.o id;go_simp;try with_reducible rfl);try simp only [Act.put,sA,sZ,sS]
   refine zak (by rfl) (fun K hK=>?_);go_simp;refine (nR.o _).mono ?_;rintro e v4 ⟨rfl,hxn⟩;refine hK.o _ _ (hy3.o.trans hxn) ?_;have hy4:=Y (hy3.o.trans hxn);clear hK K hxn;try simp only [Act.put,sA,sZ,sS]
   iterate 2 (refine zav (by rfl) ?_ (fun w' hC=>?_) ?_;rotate_left;(have q_b0:=hC.cell b0.o id;have q_b1:=hC.cell b1.o id;have q_b3:=hC.cell b3.o id;have q_b4:=hC.cell b4.o id;go_simp;try with_reducible rfl);try simp only [Act.put,sA,sZ,sS])
   refine zar ?_;rw [hO1.o];clear c1s c2s c3s c4s c5s c2sb c3sb c4sb c5sb hO1 nI nK nS nR nX;have hty2:(ty++tI++tK++tX++tS++tR).length<=48450:=by simp only [List.length_append];omega
   generalize hO2:ty++tI++tK++tX++tS++tR=ty2 at hty2 ht2 ⊢;replace hO2:=Y hO2;have hT2:=Y (hy4.o.at hT.o id);have hI4:=Y (hI3.o.ext hy4.o);have hm4:=Y (hmX.o.then hy4.o (fun _ _ h=>h.elim));clear hT hI3 hmX hy0 hy1 hy2 hy3 hy4 b0 b1 b2 b3 b4 b5 b6 b7 b8;have e5:=Y (show v4.cell? ⟨R,5,none⟩=some (.int .i64 t1) from zaa hT2.o 5);have e6:=Y (show v4.cell? ⟨R,6,none⟩=some (.slice a1 m1 c1) from zaa hT2.o 6);obtain ⟨O0,hO0⟩:∃ O:ByteArray,O=⟨ty2.toArray⟩:=⟨_,rfl⟩;obtain ⟨BT,hBT⟩:∃ O:ByteArray,O=⟨tT.toArray⟩:=⟨_,rfl⟩;obtain ⟨BM,hBM⟩:∃ O:ByteArray,O=⟨tM.toArray⟩:=⟨_,rfl⟩;rw [<- hO0];rw [<- hBT] at nT;rw [<- hBM] at nM;have y0:O0.size<=48450:=by rw [hO0];exact hty2
   have yT:BT.size<=10:=by rw [hBT];exact zT
   have yM:BM.size<=10:=by rw [hBM];exact zM
   have c1s:¬ 9223372036854775807 < O0.size+BT.size:=by omega
   have c2s:¬ 9223372036854775807 < O0.size+BT.size+BM.size:=by omega
   have c2sb:¬ 9223372036854775807 < (O0++BT).size+BM.size:=by simp only [ByteArray.size_append];omega
   have hO1:Hid (O0++BT++BM=⟨(ty2++tT++tM).toArray⟩):=Y (by rw [hO0,hBT,hBM];simp only [zbl]);clear y0 yT yM hO0 hBT hBM;go_upto_region 11 with fail
   try simp only [List.append_eq,List.cons_append,List.nil_append]
   refine rS (fun Wx=>Ext v4 Wx) [(0,true),(1,true),(2,true),(3,true),(6,true),(7,true),(8,true),(9,true),(4,false),(5,true),(10,false),(11,true),(12,true)] (Mod.drew0 (fun _=>False) v4) ?_;simp only [zah,List.map_cons,List.map_nil,List.getD_cons_zero,List.getD_cons_succ];have hz0:=Y (Mod.drew0 (fun _=>False) v4)
   iterate 8 (refine zav (by rfl) ?_ (fun w' hC=>?_) ?_;rotate_left;(have q_e5:=hC.cell e5.o id;have q_e6:=hC.cell e6.o id;go_simp;try with_reducible rfl);try simp only [Act.put,sA,sZ,sS])
   refine zak (by rfl) (fun K hK=>?_);go_simp;refine (nT.o _).mono ?_;rintro e u1 ⟨rfl,hxn⟩;refine hK.o _ _ (hz0.o.trans hxn) ?_;have hz1:=Y (hz0.o.trans hxn);clear hK K hxn;try simp only [Act.put,sA,sZ,sS]
   refine zav (by rfl) ?_ (fun w' hC=>?_) ?_;rotate_left;(have q_e5:=hC.cell e5.o id;have q_e6:=hC.cell e6.o id;go_simp;try with_reducible rfl);try simp only [Act.put,sA,sZ,sS]
   refine zak (by rfl) (fun K hK=>?_);go_simp;refine (nM.o _).mono ?_;rintro e u2 ⟨rfl,hxn⟩;refine hK.o _ _ (hz1.o.trans hxn) ?_;have hz2:=Y (hz1.o.trans hxn);clear hK K hxn;try simp only [Act.put,sA,sZ,sS]
   iterate 2 (refine zav (by rfl) ?_ (fun w' hC=>?_) ?_;rotate_left;(have q_e5:=hC.cell e5.o id;have q_e6:=hC.cell e6.o id;go_simp;try with_reducible rfl);try simp only [Act.put,sA,sZ,sS])
   refine zar ?_;rw [hO1.o];clear c1s c2s c2sb hO1 nT nM;have hty3:(ty2++tT++tM).length<=48470:=by simp only [List.length_append];omega
   generalize hO3:ty2++tT++tM=ty3 at hty3 ht2 ⊢;replace hO3:=Y hO3;have hT3:=Y (hz2.o.at hT2.o id);have hI5:=Y (hI4.o.ext hz2.o);have hm5:=Y (hm4.o.then hz2.o (fun _ _ h=>h.elim));clear hT2 hI4 hm4 hz0 hz1 hz2 e5 e6;replace ht2:=Y ht2;go_wp2_with fail
   obtain ⟨J,rfl⟩:∃ J,J=j:=⟨_,rfl⟩;obtain ⟨G,rfl⟩:∃ G,G=gk:=⟨_,rfl⟩;go_loopg [5,10] m1 (fun g o k wi=>∃ (i:Nat) (tt:Bs),i+g=m1/\k=.int .i64 i/\o=.string ⟨tt.toArray⟩/\tt=ty3++zaB (y1.take i)/\Ext u2 wi)
   case atStart=>exact ⟨0,ty3,by omega,rfl,rfl,by simp [zaB],Mod.refl _ _⟩
   case round=>
    obtain ⟨i,tt,hi,rfl,rfl,htt,hxi⟩:=hrel;replace hi:=Y hi;have hTi:=Y (hxi.at hT3.o id);have f6:=cS hTi.o 6;have httl:tt.length<=49200:=by
     rw [htt];have:=zaH (y1.take i);have h2:(y1.take i).length<=64:=by rw [List.length_take];omega
     simp only [List.length_append];omega
    by_cases hlti:i < m1
    ·have hdk:(i:Int) < (m1:Int):=by omega
     have hdd:decide ((i:Int) < (m1:Int))=true:=decide_eq_true hdk;have hiy:i < y1.length:=by have:=hmy.o;omega
     have hIi:=hI5.o.ext hxi;rw [hmy.o] at hIi;obtain ⟨b2,o2,rfl,cI⟩:=zbG hIi hiy;have nNi:=Y (nN.o i hiy);have zN:=zay y1[i];have htk:zaB (y1.take (i+1))=zaB (y1.take i)++zbc y1[i]:=by
      rw [List.take_succ_eq_append_getElem hiy,zh3];simp [zaB]
     generalize y1[i]=yi at cI nNi zN htk;generalize zbc yi=tN at nNi zN htk;have hnx:Hid (tt++tN=ty3++zaB (y1.take (i+1))):=Y (by rw [htk,htt,List.append_assoc]);have hc1:(⟨tt.toArray⟩:ByteArray).size+(⟨tN.toArray⟩:ByteArray).size<=1000000:=by rw [za6,za6];omega
     have hfin:Hid ((⟨tt.toArray⟩:ByteArray)++⟨tN.toArray⟩=⟨(tt++tN).toArray⟩):=Y (zbl _ _);replace htt:=Y htt;replace htk:=Y htk;replace hxi:=Y hxi;clear hIi;go_wp2_with fail
     refine (nNi.o _).mono ?_;rintro e wn ⟨rfl,hxn⟩;have hxi2:=Y (hxi.o.trans hxn);clear hxn hxi hTi f6;go_wp2_with fail
     go_roundg (gk - 1)
     case measure=>have:=hi.o;omega
     case rel=>exact ⟨i+1,tt++tN,by have:=hi.o;omega,by go_num,by rw [hfin.o],hnx.o,hxi2.o⟩
    ·obtain rfl:i=m1:=by have:=hi.o;omega
     have hdk:¬ (i:Int) < (i:Int):=by omega
     have hdd:decide ((i:Int) < (i:Int))=false:=decide_eq_false hdk;rw [List.take_of_length_le (by have:=hmy.o;omega)] at htt;replace htt:=Y htt;go_upto_region 16 with fail
     have e7:=Y (show wr.cell? ⟨R,7,none⟩=some (.int .i64 p1) from zaa hTi.o 7);have e8:=Y (show wr.cell? ⟨R,8,none⟩=some (.int .i64 q1) from zaa hTi.o 8);obtain ⟨O0,hO0⟩:∃ O:ByteArray,O=⟨tt.toArray⟩:=⟨_,rfl⟩;obtain ⟨BP,hBP⟩:∃ O:ByteArray,O=⟨tP.toArray⟩:=⟨_,rfl⟩;obtain ⟨BQ,hBQ⟩:∃ O:ByteArray,O=⟨tQ.toArray⟩:=⟨_,rfl⟩;rw [<- hO0];rw [<- hBP] at nP;rw [<- hBQ] at nQ;have y0:O0.size<=49200:=by rw [hO0];exact httl
     have yP:BP.size<=10:=by rw [hBP];exact zP
     have yQ:BQ.size<=10:=by rw [hBQ];exact zQ
     have c1s:¬ 9223372036854775807 < O0.size+BP.size:=by omega
     have c2s:¬ 9223372036854775807 < O0.size+BP.size+BQ.size:=by omega
     have c2sb:¬ 9223372036854775807 < (O0++BP).size+BQ.size:=by simp only [ByteArray.size_append];omega
     have hO1:Hid (O0++BP++BQ=⟨(tt++tP++tQ).toArray⟩):=Y (by rw [hO0,hBP,hBQ];simp only [zbl]);clear y0 yP yQ hO0 hBP hBQ;replace hxi:=Y hxi;clear f6;go_upto_region 16 with fail
     try simp only [List.append_eq,List.cons_append,List.nil_append]
     refine rS (fun Wx=>Ext wr Wx) [(0,true),(1,true),(2,true),(3,true),(6,true),(7,true),(8,true),(4,false),(5,true),(9,false),(10,true),(11,true)] (Mod.drew0 (fun _=>False) wr) ?_;simp only [zah,List.map_cons,List.map_nil,List.getD_cons_zero,List.getD_cons_succ];have ho0:=Y (Mod.drew0 (fun _=>False) wr)
     iterate 7 (refine zav (by rfl) ?_ (fun w' hC=>?_) ?_;rotate_left;(have q_e7:=hC.cell e7.o id;have q_e8:=hC.cell e8.o id;go_simp;try with_reducible rfl);try simp only [Act.put,sA,sZ,sS])
     refine zak (by rfl) (fun K hK=>?_);go_simp;refine (nP.o _).mono ?_;rintro e x1 ⟨rfl,hxn⟩;refine hK.o _ _ (ho0.o.trans hxn) ?_;have ho1:=Y (ho0.o.trans hxn);clear hK K hxn;try simp only [Act.put,sA,sZ,sS]
     refine zav (by rfl) ?_ (fun w' hC=>?_) ?_;rotate_left;(have q_e7:=hC.cell e7.o id;have q_e8:=hC.cell e8.o id;go_simp;try with_reducible rfl);try simp only [Act.put,sA,sZ,sS]
     refine zak (by rfl) (fun K hK=>?_);go_simp;refine (nQ.o _).mono ?_;rintro e x2 ⟨rfl,hxn⟩;refine hK.o _ _ (ho1.o.trans hxn) ?_;have ho2:=Y (ho1.o.trans hxn);clear hK K hxn;try simp only [Act.put,sA,sZ,sS]
     iterate 2 (refine zav (by rfl) ?_ (fun w' hC=>?_) ?_;rotate_left;(have q_e7:=hC.cell e7.o id;have q_e8:=hC.cell e8.o id;go_simp;try with_reducible rfl);try simp only [Act.put,sA,sZ,sS])
     refine zar ?_;rw [hO1.o];have hxf:=Y (hxi.o.trans ho2.o);have htz2:Hid (tz=(tt++tP++tQ)++(l.drop (J+1)).flatMap zgR):=Y (by rw [ht2.o,htt.o])
     have hlf:Hid ((tt++tP++tQ).length<=10+2000*(J+1)):=Y (by
      have e1:=hlen.o;have e2:=congrArg List.length hO2.o;have e3:=congrArg List.length hO3.o;rw [htt.o];simp only [List.length_append] at e2 e3 ⊢
      omega)
     clear c1s c2s c2sb hO1 ho0 ho1 hTi;go_wp2_with fail
     go_roundg (G - 1)
     case measure=>have:=hj.o;omega
     case rel=>exact ⟨J+1,tt++tP++tQ,by have:=hj.o;omega,by go_num,by simp,(hm5.o.then hxf.o (fun _ _ h=>h.elim)).mono' (fun k h1 h2=>by omega),htz2.o,hlf.o⟩
  ·obtain rfl:j=n:=by have:=hj.o;omega
   have hdi:¬ (j:Int) < (j:Int):=by omega
   have hd:decide ((j:Int) < (j:Int))=false:=decide_eq_false hdi;rw [List.drop_eq_nil_of_le (by have:=hn.o;omega)] at ht;replace ht:=Y ht;replace hx:=Y hx;go_wp2_with fail
   go_ret2
   exact ⟨by rw [ht.o];simp,hx.o⟩
def zpW (m:Ms):List Int:=[m.kd,m.pa,m.sq,m.st,m.ba,m.ve]
theorem zkR (m:Ms) (w:World) (hd:m.da.length<=16384):
  Calls Tryz.prog 157 #[.agg (msC m).toArray] w fun e w'=>e=.returned (.string ⟨(zbW m).toArray⟩)/\Ext w w':=by
 obtain ⟨tz,htz⟩:∃ tz,tz=zbW m:=⟨_,rfl⟩;rw [<- htz];obtain ⟨L,hL⟩:∃ L,L=zpW m:=⟨_,rfl⟩;have hL6:L.length=6:=by rw [hL];rfl
 replace htz:Hid (tz=zaB L++zeQ m.da):=Y (by rw [htz,hL];rfl);obtain ⟨T,hT⟩:∃ T,T=w.heap.size:=⟨_,rfl⟩;have hbx:=zaV w #[.int .i64 m.kd,.int .i64 m.pa,.int .i64 m.sq,.int .i64 m.st,.int .i64 m.ba,.int .i64 m.ve,.string ⟨m.da.toArray⟩] #[.int .i64 m.kd,.int .i64 m.pa,.int .i64 m.sq,.int .i64 m.st,.int .i64 m.ba,.int .i64 m.ve] 30 3;have hcs:(#[.int .i64 m.kd,.int .i64 m.pa,.int .i64 m.sq,.int .i64 m.st,.int .i64 m.ba,.int .i64 m.ve]:Array Value)=(L.flatMap zcZ).toArray:=by rw [hL];rfl
 have nX:=Y (fun W=>zdp m.da (by omega) W);have zX:(zeQ m.da).length<=20000:=by have:=zb3 m.da;omega
 obtain ⟨kd,pa,sq,st,ba,ve,da⟩:=m;unfold msC zb0;simp only at hbx hcs htz nX zX ⊢;clear hL hd;replace hbx:=Y hbx;replace hcs:=Y hcs;go_enter Tryz.func157,Tryz.ntmps157;go_wp2_with fail
 have hbx2:=hbx.o;rw [hcs.o] at hbx2 ⊢;obtain ⟨hx0,hA,hB,-⟩:=hbx2;rw [<- hT] at hA hB ⊢;generalize ((w.alloc _).alloc _)=W at hx0 hA hB ⊢;have hsz:=hx0.size;replace hA:=Y hA;replace hB:=Y hB;replace hx0:=Y hx0;replace hT:=Y hT;clear hbx hcs;go_loopg [4,5] 6 (fun g o i wr=>∃ (j:Nat) (tt:Bs),j+g=6/\i=.int .i64 j/\o=.string ⟨tt.toArray⟩/\tt=zaB (L.take j)/\Ext W wr)
 case atStart=>exact ⟨0,[],by omega,rfl,rfl,by simp [zaB],Mod.refl _ _⟩
 case round=>
  obtain ⟨j,tt,hj,rfl,rfl,htt,hx⟩:=hrel;replace hj:=Y hj;have hlt:tt.length<=60:=by
   rw [htt];have:=zaH (L.take j);have h2:(L.take j).length<=6:=by rw [List.length_take];omega
   omega
  by_cases h6:j < 6
  ·have hdi:(j:Int) < 6:=by omega
   have hd:decide ((j:Int) < 6)=true:=decide_eq_true hdi;have hjl:j < L.length:=by omega
   have hRow:=zaJ.block (hx.at hB.o id)
   obtain ⟨b,off,e0,hc⟩:=hRow j (.int .i64 L[j]) (by
    have:=flat_get zcZ 1 zbv L j 0 L[j] (List.getElem?_eq_getElem hjl) (by decide)
    simpa [zcZ] using this)
   injection e0 with e0;injection e0 with e1 e2
   subst e1 e2;simp only [Nat.zero_add] at hc;have nNi:=Y (fun W=>zca L[j] W);have zN:=zay L[j];have htk:zaB (L.take (j+1))=zaB (L.take j)++zbc L[j]:=by
    rw [List.take_succ_eq_append_getElem hjl,zh3];simp [zaB]
   generalize L[j]=yi at hc nNi zN htk;generalize zbc yi=tN at nNi zN htk;generalize ziY yi=eN at nNi;have hnx:Hid (tt++tN=zaB (L.take (j+1))):=Y (by rw [htk,htt]);have hc1:(⟨tt.toArray⟩:ByteArray).size+(⟨tN.toArray⟩:ByteArray).size<=1000000:=by rw [za6,za6];omega
   have hfin:Hid ((⟨tt.toArray⟩:ByteArray)++⟨tN.toArray⟩=⟨(tt++tN).toArray⟩):=Y (zbl _ _);replace htt:=Y htt;replace htk:=Y htk;replace hx:=Y hx;clear hRow;go_wp2_with fail
   refine (nNi.o _).mono ?_;rintro e wn ⟨rfl,hxn⟩;have hx2:=Y (hx.o.trans hxn);clear hxn hx hc;go_wp2_with fail
   go_roundg (gk - 1)
   case measure=>have:=hj.o;omega
   case rel=>exact ⟨j+1,tt++tN,by have:=hj.o;omega,by go_num,by rw [hfin.o],hnx.o,hx2.o⟩
  ·obtain rfl:j=6:=by have:=hj.o;omega
   have hdi:¬ (6:Int) < 6:=by omega
   rw [List.take_of_length_le (by omega)] at htt;have q6:=cS (hx.at hA.o id) 6;replace htt:=Y htt;replace hx:=Y hx;generalize zeQ da=tX at nX zX htz;generalize hda:(⟨da.toArray⟩:ByteArray)=D at nX q6;replace hda:=Y hda;go_wp2_with fail
   refine (nX.o _).mono ?_;rintro e wn ⟨rfl,hxn⟩;have hx2:=Y (hx.o.trans hxn);clear hxn hx q6;have hc1:(⟨tt.toArray⟩:ByteArray).size+(⟨tX.toArray⟩:ByteArray).size<=1000000:=by rw [za6,za6];omega
   have hfin:Hid ((⟨tt.toArray⟩:ByteArray)++⟨tX.toArray⟩=⟨(tt++tX).toArray⟩):=Y (zbl _ _);go_wp2_with fail
   go_ret;exact ⟨by rw [hfin.o,htz.o,htt.o];try rfl,hx0.o.trans hx2.o⟩
theorem zfY (m:Ms) (w:World) (hv:vMs m=true):
  Calls Tryz.prog 76 #[.agg (msC m).toArray] w fun e w'=>e=.returned (.tuple #[.string ⟨(zf1 m).toArray⟩,.int .i64 0])/\Ext w w':=by
 obtain ⟨tz,htz⟩:∃ tz,tz=zf1 m:=⟨_,rfl⟩;rw [<- htz];have hg:=zdh hv;have hda:=hg.da;have cV:=Y (fun W=>zcL m W (by omega));rw [hv] at cV;have cB:=Y (fun W=>zkR m W (by omega));have hbl:(zbW m).length<=20000:=by
  unfold zbW;have h1:=zaH [m.kd,m.pa,m.sq,m.st,m.ba,m.ve];have h2:=zb3 m.da;simp only [List.length_cons,List.length_nil] at h1;rw [List.length_append];omega
 have cS:=Y (fun W=>zjQ (zbW m) W (by omega));have cr:=ziT (zbW m);have cP:=Y (fun W=>zca (crc (zbW m)) W);have hE:ziY (crc (zbW m))=0:=by unfold ziY;rw [if_neg (by omega)]
 have hpl:=zay (crc (zbW m));replace htz:Hid (tz=zbc (crc (zbW m))++zbW m):=Y (by rw [htz,zf1,if_pos hv]);rw [hE] at cP;generalize crc (zbW m)=cc at cS cP htz hpl;generalize zbc cc=tc at cP htz hpl;generalize zbW m=tb at cB cS htz hbl;have hc1:(⟨tc.toArray⟩:ByteArray).size+(⟨tb.toArray⟩:ByteArray).size<=1000000:=by rw [za6,za6];omega
 have hfin:Hid ((⟨tc.toArray⟩:ByteArray)++⟨tb.toArray⟩=⟨(tc++tb).toArray⟩):=Y (zbl _ _);have hz:=heap_alloc_new w (.cells (msC m).toArray 30);have hxz:=Mod.alloc (Mod.refl (fun _=>False) w) (.cells (msC m).toArray 30);clear hg hE cr hda;obtain ⟨kd,pa,sq,st,ba,ve,da⟩:=m;unfold msC zb0 at hz hxz cV cB ⊢;simp only at hz hxz cV cB ⊢;replace hz:=Y hz;replace hxz:=Y hxz;obtain ⟨D,hD⟩:∃ D:ByteArray,D=⟨da.toArray⟩:=⟨_,rfl⟩;rw [<- hD] at hz hxz cV cB ⊢;clear hv;replace hD:=Y hD;go_enter Tryz.func76,Tryz.ntmps76;go_upto_region 1 with fail
 generalize (w.alloc _)=W at hz hxz ⊢;generalize w.heap.size=T at hz ⊢;go_wp2_with (refine zae (by rfl) 30 _ rfl T _ _ _ _ rfl hz.o Tryz.underlying30 rfl (by kernel_rfl) ?_)
 refine (cV.o _).mono ?_;rintro e w1 ⟨rfl,hx1⟩;have hz1:=Y (hx1.at hz.o id);have hx01:=Y (hxz.o.trans hx1);clear hx1;go_wp2_with (refine zae (by rfl) 30 _ rfl T _ _ _ _ rfl hz1.o Tryz.underlying30 rfl (by kernel_rfl) ?_)
 refine (cB.o _).mono ?_;rintro e w2 ⟨rfl,hx2⟩;have hx02:=Y (hx01.o.trans hx2);clear hx2;go_wp2_with fail
 refine (cS.o _).mono ?_;rintro e w3 ⟨rfl,rfl⟩;go_wp2_with fail
 refine (cP.o _).mono ?_;rintro e w4 ⟨rfl,hx4⟩;have hx04:=Y (hx02.o.trans hx4);clear hx4;go_wp2_with fail
 go_ret2
 exact ⟨by rw [hfin.o,htz.o];try rfl,hx04.o⟩
end Go.Proofs.YtjjfphalcibjfaaGreatDoor
