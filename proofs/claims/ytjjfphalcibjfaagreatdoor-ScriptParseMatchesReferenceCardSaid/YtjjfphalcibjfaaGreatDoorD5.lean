import Derived.Test.YtjjfphalcibjfaaGreatDoorD10
import Derived.Test.YtjjfphalcibjfaaGreatDoorAppend
import Derived.Great.BuildSlice
set_option maxRecDepth 100000
set_option maxHeartbeats 16000000
namespace Go.Proofs.YtjjfphalcibjfaaGreatDoor
open Go.Shelf Go.RowKit Cdk Scr
def BkP (w:World) (R:Nat) (t:Bs) (T:Bk × St) (e:Ending) (w':World):Prop:=∃ v,e=.returned (.agg (bkC (v,T.1)).toArray)/\Cdk.Own w' w.heap.size 3 1 zcZ v T.1.lb.aft/\zd2 w' R t T.2/\RdM R w w'
theorem zgF (R:Nat) (t:Bs) (st:St) (hs:t.length<=1000000) (w:World) (h:zd2 w R t st):
  Calls Tryz.prog 209 #[.pointer (some ⟨R,0,none⟩)] w (BkP w R t (mB st)):=by
 have hRlt:=h.lt;obtain ⟨U,hU⟩:∃ U,U=w.heap.size:=⟨_,rfl⟩;have hx0:=((Mod.refl (fun _=>False) w).alloc (.cells #[.int .i64 0,.int .i64 0,.string ⟨#[]⟩,.int .i64 0,.int .i64 0,.int .i64 0,.slice none 0 0,.int .i64 0,.int .i64 0] 118)).alloc (.cells #[.int .i64 0,.int .i64 0,.string ⟨#[]⟩,.int .i64 0,.int .i64 0,.int .i64 0,.slice none 0 0,.int .i64 0,.int .i64 0] 118);have hbU:((w.alloc (.cells #[.int .i64 0,.int .i64 0,.string ⟨#[]⟩,.int .i64 0,.int .i64 0,.int .i64 0,.slice none 0 0,.int .i64 0,.int .i64 0] 118)).alloc (.cells #[.int .i64 0,.int .i64 0,.string ⟨#[]⟩,.int .i64 0,.int .i64 0,.int .i64 0,.slice none 0 0,.int .i64 0,.int .i64 0] 118)).heap[U]?=some (.cells #[.int .i64 0,.int .i64 0,.string ⟨#[]⟩,.int .i64 0,.int .i64 0,.int .i64 0,.slice none 0 0,.int .i64 0,.int .i64 0] 118 (0,0)):=by rw [zaG,World.size_alloc,hU,if_neg (by omega)];exact heap_alloc_new w _
 have hbT:((w.alloc (.cells #[.int .i64 0,.int .i64 0,.string ⟨#[]⟩,.int .i64 0,.int .i64 0,.int .i64 0,.slice none 0 0,.int .i64 0,.int .i64 0] 118)).alloc (.cells #[.int .i64 0,.int .i64 0,.string ⟨#[]⟩,.int .i64 0,.int .i64 0,.int .i64 0,.slice none 0 0,.int .i64 0,.int .i64 0] 118)).heap[U+1]?=some (.cells #[.int .i64 0,.int .i64 0,.string ⟨#[]⟩,.int .i64 0,.int .i64 0,.int .i64 0,.slice none 0 0,.int .i64 0,.int .i64 0] 118 (0,0)):=by rw [hU];have:=heap_alloc_new (w.alloc (.cells #[.int .i64 0,.int .i64 0,.string ⟨#[]⟩,.int .i64 0,.int .i64 0,.int .i64 0,.slice none 0 0,.int .i64 0,.int .i64 0] 118)) (.cells #[.int .i64 0,.int .i64 0,.string ⟨#[]⟩,.int .i64 0,.int .i64 0,.int .i64 0,.slice none 0 0,.int .i64 0,.int .i64 0] 118);rwa [World.size_alloc] at this
 have hb0:=h.ext hx0;have hm0:=RdM.ofExt (R:=R) hx0;go_enter Tryz.func209,Tryz.ntmps209;unfold BkP;go_wp2_with fail
 try simp only [World.size_alloc]
 rw [<- hU];have hwU:w.heap.size<=U:=Nat.le_of_eq hU.symm;have hRU:R < U:=by omega
 generalize ((w.alloc (.cells #[.int .i64 0,.int .i64 0,.string ⟨#[]⟩,.int .i64 0,.int .i64 0,.int .i64 0,.slice none 0 0,.int .i64 0,.int .i64 0] 118)).alloc (.cells #[.int .i64 0,.int .i64 0,.string ⟨#[]⟩,.int .i64 0,.int .i64 0,.int .i64 0,.slice none 0 0,.int .i64 0,.int .i64 0] 118))=w0 at hbU hbT hb0 hm0 ⊢;replace hU:=Y hU;replace hbU:=Y hbU;replace hbT:=Y hbT;replace hm0:=Y hm0;obtain ⟨M,hM⟩:∃ M,M=mB st:=⟨_,rfl⟩;unfold mB at hM;simp only at hM;replace hM:=Y hM;clear hx0 h;have k0:=Y (zbp R t st hs w0 hb0);clear hb0;refine k0.o.mono ?_;rintro e W1 ⟨rfl,hb1,hn⟩;generalize hq0:mI st=q0 at hb1 ⊢;obtain ⟨x0,s1⟩:=q0;simp only at hb1 ⊢;replace hq0:=Y hq0;have bT:=hn.at hbT.o (by omega);have bU:=hn.at hbU.o (by omega);have mm:=hm0.o.trans hn;have ct:=zaa bT 0;have zt:=zad bT;have pT:=zai bT 0 (.int .i64 x0);have pU:=(zan W1 (b:=U+1) (k:=U) 0 (.int .i64 x0) (by omega)).trans bU;have pB:=Y ((hb1.mod (S:=fun k=>k=U+1) ((Mod.refl (fun k=>k=U+1) W1).setCell (a:=⟨U+1,0,none⟩) (fun _=>rfl) (.int .i64 x0)) (by omega)));have pM:=Y (mm.setCell (a:=⟨U+1,0,none⟩) (fun hh=>absurd hh (by show ¬ U+1 < w.heap.size;omega)) (.int .i64 x0));simp at ct;replace bT:=Y bT;replace mm:=Y mm;replace pT:Hid ((W1.setCell ⟨U+1,0,none⟩ (.int .i64 x0)).heap[U+1]?=some (.cells #[.int .i64 x0,.int .i64 0,.string ⟨#[]⟩,.int .i64 0,.int .i64 0,.int .i64 0,.slice none 0 0,.int .i64 0,.int .i64 0] 118 (0,0))):=Y (by simpa using pT);clear hbT hbU bU  hm0 hb1 hn k0;replace pU:=Y pU;go_wp2_with fail
 generalize W1.setCell ⟨U+1,0,none⟩ (.int .i64 x0)=W1s at pT pU pB pM  ⊢;clear ct zt bT mm;have hbT:=pT;have hbU:=pU;have hb1:=pB.o;have hm:=pM
 skip
 clear pT pU pB pM;have k1:=Y (zbp R t s1 hs W1s hb1);clear hb1;refine k1.o.mono ?_;rintro e W2 ⟨rfl,hb2,hn⟩;generalize hq1:mI s1=q1 at hb2 ⊢;obtain ⟨x1,s2⟩:=q1;simp only at hb2 ⊢;replace hq1:=Y hq1;have bT:=hn.at hbT.o (by omega);have bU:=hn.at hbU.o (by omega);have mm:=hm.o.trans hn;have ct:=zaa bT 1;have zt:=zad bT;have pT:=zai bT 1 (.int .i64 x1);have pU:=(zan W2 (b:=U+1) (k:=U) 1 (.int .i64 x1) (by omega)).trans bU;have pB:=Y ((hb2.mod (S:=fun k=>k=U+1) ((Mod.refl (fun k=>k=U+1) W2).setCell (a:=⟨U+1,1,none⟩) (fun _=>rfl) (.int .i64 x1)) (by omega)));have pM:=Y (mm.setCell (a:=⟨U+1,1,none⟩) (fun hh=>absurd hh (by show ¬ U+1 < w.heap.size;omega)) (.int .i64 x1));simp at ct;replace bT:=Y bT;replace mm:=Y mm;replace pT:Hid ((W2.setCell ⟨U+1,1,none⟩ (.int .i64 x1)).heap[U+1]?=some (.cells #[.int .i64 x0,.int .i64 x1,.string ⟨#[]⟩,.int .i64 0,.int .i64 0,.int .i64 0,.slice none 0 0,.int .i64 0,.int .i64 0] 118 (0,0))):=Y (by simpa using pT);clear hbT hbU bU  hm hb2 hn k1;replace pU:=Y pU;go_wp2_with fail
 generalize W2.setCell ⟨U+1,1,none⟩ (.int .i64 x1)=W2s at pT pU pB pM  ⊢;clear ct zt bT mm;have hbT:=pT;have hbU:=pU;have hb2:=pB.o;have hm:=pM
 skip
 clear pT pU pB pM;have k2:=Y (zlw R t s2 hs W2s hb2);clear hb2;refine k2.o.mono ?_;rintro e W3 ⟨rfl,hb3,hn⟩;generalize hq2:mS s2=q2 at hb3 ⊢;obtain ⟨x2,s3⟩:=q2;simp only at hb3 ⊢;replace hq2:=Y hq2;have bT:=hn.at hbT.o (by omega);have bU:=hn.at hbU.o (by omega);have mm:=hm.o.trans hn;have ct:=zaa bT 2;have zt:=zad bT;have pT:=zai bT 2 (.string ⟨x2.toArray⟩);have pU:=(zan W3 (b:=U+1) (k:=U) 2 (.string ⟨x2.toArray⟩) (by omega)).trans bU;have pB:=Y ((hb3.mod (S:=fun k=>k=U+1) ((Mod.refl (fun k=>k=U+1) W3).setCell (a:=⟨U+1,2,none⟩) (fun _=>rfl) (.string ⟨x2.toArray⟩)) (by omega)));have pM:=Y (mm.setCell (a:=⟨U+1,2,none⟩) (fun hh=>absurd hh (by show ¬ U+1 < w.heap.size;omega)) (.string ⟨x2.toArray⟩));simp at ct;replace bT:=Y bT;replace mm:=Y mm;replace pT:Hid ((W3.setCell ⟨U+1,2,none⟩ (.string ⟨x2.toArray⟩)).heap[U+1]?=some (.cells #[.int .i64 x0,.int .i64 x1,.string ⟨x2.toArray⟩,.int .i64 0,.int .i64 0,.int .i64 0,.slice none 0 0,.int .i64 0,.int .i64 0] 118 (0,0))):=Y (by simpa using pT);clear hbT hbU bU  hm hb3 hn k2;replace pU:=Y pU;go_wp2_with fail
 generalize W3.setCell ⟨U+1,2,none⟩ (.string ⟨x2.toArray⟩)=W3s at pT pU pB pM  ⊢;clear ct zt bT mm;have hbT:=pT;have hbU:=pU;have hb3:=pB.o;have hm:=pM
 skip
 clear pT pU pB pM;have k3:=Y (zbp R t s3 hs W3s hb3);clear hb3;refine k3.o.mono ?_;rintro e W4 ⟨rfl,hb4,hn⟩;generalize hq3:mI s3=q3 at hb4 ⊢;obtain ⟨x3,s4⟩:=q3;simp only at hb4 ⊢;replace hq3:=Y hq3;have bT:=hn.at hbT.o (by omega);have bU:=hn.at hbU.o (by omega);have mm:=hm.o.trans hn;have ct:=zaa bT 3;have zt:=zad bT;have pT:=zai bT 3 (.int .i64 x3);have pU:=(zan W4 (b:=U+1) (k:=U) 3 (.int .i64 x3) (by omega)).trans bU;have pB:=Y ((hb4.mod (S:=fun k=>k=U+1) ((Mod.refl (fun k=>k=U+1) W4).setCell (a:=⟨U+1,3,none⟩) (fun _=>rfl) (.int .i64 x3)) (by omega)));have pM:=Y (mm.setCell (a:=⟨U+1,3,none⟩) (fun hh=>absurd hh (by show ¬ U+1 < w.heap.size;omega)) (.int .i64 x3));simp at ct;replace bT:=Y bT;replace mm:=Y mm;replace pT:Hid ((W4.setCell ⟨U+1,3,none⟩ (.int .i64 x3)).heap[U+1]?=some (.cells #[.int .i64 x0,.int .i64 x1,.string ⟨x2.toArray⟩,.int .i64 x3,.int .i64 0,.int .i64 0,.slice none 0 0,.int .i64 0,.int .i64 0] 118 (0,0))):=Y (by simpa using pT);clear hbT hbU bU  hm hb4 hn k3;replace pU:=Y pU;go_wp2_with fail
 generalize W4.setCell ⟨U+1,3,none⟩ (.int .i64 x3)=W4s at pT pU pB pM  ⊢;clear ct zt bT mm;have hbT:=pT;have hbU:=pU;have hb4:=pB.o;have hm:=pM
 skip
 clear pT pU pB pM;have k4:=Y (zbp R t s4 hs W4s hb4);clear hb4;refine k4.o.mono ?_;rintro e W5 ⟨rfl,hb5,hn⟩;generalize hq4:mI s4=q4 at hb5 ⊢;obtain ⟨x4,s5⟩:=q4;simp only at hb5 ⊢;replace hq4:=Y hq4;have bT:=hn.at hbT.o (by omega);have bU:=hn.at hbU.o (by omega);have mm:=hm.o.trans hn;have ct:=zaa bT 4;have zt:=zad bT;have pT:=zai bT 4 (.int .i64 x4);have pU:=(zan W5 (b:=U+1) (k:=U) 4 (.int .i64 x4) (by omega)).trans bU;have pB:=Y ((hb5.mod (S:=fun k=>k=U+1) ((Mod.refl (fun k=>k=U+1) W5).setCell (a:=⟨U+1,4,none⟩) (fun _=>rfl) (.int .i64 x4)) (by omega)));have pM:=Y (mm.setCell (a:=⟨U+1,4,none⟩) (fun hh=>absurd hh (by show ¬ U+1 < w.heap.size;omega)) (.int .i64 x4));simp at ct;replace bT:=Y bT;replace mm:=Y mm;replace pT:Hid ((W5.setCell ⟨U+1,4,none⟩ (.int .i64 x4)).heap[U+1]?=some (.cells #[.int .i64 x0,.int .i64 x1,.string ⟨x2.toArray⟩,.int .i64 x3,.int .i64 x4,.int .i64 0,.slice none 0 0,.int .i64 0,.int .i64 0] 118 (0,0))):=Y (by simpa using pT);clear hbT hbU bU  hm hb5 hn k4;replace pU:=Y pU;go_wp2_with fail
 generalize W5.setCell ⟨U+1,4,none⟩ (.int .i64 x4)=W5s at pT pU pB pM  ⊢;clear ct zt bT mm;have hbT:=pT;have hbU:=pU;have hb5:=pB.o;have hm:=pM
 skip
 clear pT pU pB pM;have k5:=Y (zbp R t s5 hs W5s hb5);clear hb5;refine k5.o.mono ?_;rintro e W6 ⟨rfl,hb6,hn⟩;generalize hq5:mI s5=q5 at hb6 ⊢;obtain ⟨x5,s6⟩:=q5;simp only at hb6 ⊢;replace hq5:=Y hq5;have bT:=hn.at hbT.o (by omega);have bU:=hn.at hbU.o (by omega);have mm:=hm.o.trans hn;have ct:=zaa bT 5;have zt:=zad bT;have pT:=zai bT 5 (.int .i64 x5);have pU:=(zan W6 (b:=U+1) (k:=U) 5 (.int .i64 x5) (by omega)).trans bU;have pB:=Y ((hb6.mod (S:=fun k=>k=U+1) ((Mod.refl (fun k=>k=U+1) W6).setCell (a:=⟨U+1,5,none⟩) (fun _=>rfl) (.int .i64 x5)) (by omega)));have pM:=Y (mm.setCell (a:=⟨U+1,5,none⟩) (fun hh=>absurd hh (by show ¬ U+1 < w.heap.size;omega)) (.int .i64 x5));simp at ct;replace bT:=Y bT;replace mm:=Y mm;replace pT:Hid ((W6.setCell ⟨U+1,5,none⟩ (.int .i64 x5)).heap[U+1]?=some (.cells #[.int .i64 x0,.int .i64 x1,.string ⟨x2.toArray⟩,.int .i64 x3,.int .i64 x4,.int .i64 x5,.slice none 0 0,.int .i64 0,.int .i64 0] 118 (0,0))):=Y (by simpa using pT);clear hbT hbU bU  hm hb6 hn k5;replace pU:=Y pU;go_wp2_with fail
 generalize W6.setCell ⟨U+1,5,none⟩ (.int .i64 x5)=W6s at pT pU pB pM  ⊢;clear ct zt bT mm;have hbT:=pT;have hbU:=pU;have hb6:=pB.o;have hm:=pM
 skip
 clear pT pU pB pM;have k6:=Y (zl6 64 ⟨by decide,by decide⟩ R t s6 hs W6s hb6);clear hb6;refine k6.o.mono ?_;rintro e W7 ⟨v6,rfl,hO,hb7,hn⟩;obtain ⟨av,cv,rfl,-,-⟩:=hO.row;generalize hq6:mL 64 mI s6=q6 at hb7 hO ⊢;obtain ⟨x6,s7⟩:=q6;simp only at hb7 hO ⊢;replace hq6:=Y hq6;have bT:=hn.at hbT.o (by omega);have bU:=hn.at hbU.o (by omega);have mm:=hm.o.trans hn;have ct:=zaa bT 6;have zt:=zad bT;have pT:=zai bT 6 (.slice av x6.length cv);have pU:=(zan W7 (b:=U+1) (k:=U) 6 (.slice av x6.length cv) (by omega)).trans bU;have pB:=Y ((hb7.mod (S:=fun k=>k=U+1) ((Mod.refl (fun k=>k=U+1) W7).setCell (a:=⟨U+1,6,none⟩) (fun _=>rfl) (.slice av x6.length cv)) (by omega)));have pM:=Y (mm.setCell (a:=⟨U+1,6,none⟩) (fun hh=>absurd hh (by show ¬ U+1 < w.heap.size;omega)) (.slice av x6.length cv));have hOt:(Value.slice av x6.length cv).ownBlock ≠ some (U+1):=own_ne hO bT (by decide);have pO:=Y ((hO.weaken (base':=w.heap.size) (by have:=hm.o.size;omega)).mod (S:=fun k=>k=U+1) ((Mod.refl (fun k=>k=U+1) W7).setCell (a:=⟨U+1,6,none⟩) (fun _=>rfl) (.slice av x6.length cv)) (fun k hk e=>hOt (by rw [hk,e])));simp at ct;replace bT:=Y bT;replace mm:=Y mm;replace pT:Hid ((W7.setCell ⟨U+1,6,none⟩ (.slice av x6.length cv)).heap[U+1]?=some (.cells #[.int .i64 x0,.int .i64 x1,.string ⟨x2.toArray⟩,.int .i64 x3,.int .i64 x4,.int .i64 x5,.slice av x6.length cv,.int .i64 0,.int .i64 0] 118 (0,0))):=Y (by simpa using pT);clear hbT hbU bU hO hm hb7 hn k6;replace pU:=Y pU;go_wp2_with fail
 generalize W7.setCell ⟨U+1,6,none⟩ (.slice av x6.length cv)=W7s at pT pU pB pM pO ⊢;clear ct zt bT mm;have hbT:=pT;have hbU:=pU;have hb7:=pB.o;have hm:=pM;have hO:=pO;clear pT pU pB pM pO;have k7:=Y (zbp R t s7 hs W7s hb7);clear hb7;refine k7.o.mono ?_;rintro e W8 ⟨rfl,hb8,hn⟩;generalize hq7:mI s7=q7 at hb8 ⊢;obtain ⟨x7,s8⟩:=q7;simp only at hb8 ⊢;replace hq7:=Y hq7;have bT:=hn.at hbT.o (by omega);have bU:=hn.at hbU.o (by omega);have mm:=hm.o.trans hn;have ct:=zaa bT 7;have zt:=zad bT;have pT:=zai bT 7 (.int .i64 x7);have pU:=(zan W8 (b:=U+1) (k:=U) 7 (.int .i64 x7) (by omega)).trans bU;have pB:=Y ((hb8.mod (S:=fun k=>k=U+1) ((Mod.refl (fun k=>k=U+1) W8).setCell (a:=⟨U+1,7,none⟩) (fun _=>rfl) (.int .i64 x7)) (by omega)));have pM:=Y (mm.setCell (a:=⟨U+1,7,none⟩) (fun hh=>absurd hh (by show ¬ U+1 < w.heap.size;omega)) (.int .i64 x7));have pO:=Y ((hO.o.mod hn (fun k hk e=>by have:=(hO.o.block _ hk).1;omega)).mod (S:=fun k=>k=U+1) ((Mod.refl (fun k=>k=U+1) W8).setCell (a:=⟨U+1,7,none⟩) (fun _=>rfl) (.int .i64 x7)) (fun k hk e=>hOt (by rw [hk,e])));simp at ct;replace bT:=Y bT;replace mm:=Y mm;replace pT:Hid ((W8.setCell ⟨U+1,7,none⟩ (.int .i64 x7)).heap[U+1]?=some (.cells #[.int .i64 x0,.int .i64 x1,.string ⟨x2.toArray⟩,.int .i64 x3,.int .i64 x4,.int .i64 x5,.slice av x6.length cv,.int .i64 x7,.int .i64 0] 118 (0,0))):=Y (by simpa using pT);clear hbT hbU bU hO hm hb8 hn k7;replace pU:=Y pU;go_wp2_with fail
 generalize W8.setCell ⟨U+1,7,none⟩ (.int .i64 x7)=W8s at pT pU pB pM pO ⊢;clear ct zt bT mm;have hbT:=pT;have hbU:=pU;have hb8:=pB.o;have hm:=pM;have hO:=pO;clear pT pU pB pM pO;have k8:=Y (zbp R t s8 hs W8s hb8);clear hb8;refine k8.o.mono ?_;rintro e W9 ⟨rfl,hb9,hn⟩;generalize hq8:mI s8=q8 at hb9 ⊢;obtain ⟨x8,s9⟩:=q8;simp only at hb9 ⊢;replace hq8:=Y hq8;have bT:=hn.at hbT.o (by omega);have bU:=hn.at hbU.o (by omega);have mm:=hm.o.trans hn;have ct:=zaa bT 8;have zt:=zad bT;have pT:=zai bT 8 (.int .i64 x8);have pU:=(zan W9 (b:=U+1) (k:=U) 8 (.int .i64 x8) (by omega)).trans bU;have pB:=Y ((hb9.mod (S:=fun k=>k=U+1) ((Mod.refl (fun k=>k=U+1) W9).setCell (a:=⟨U+1,8,none⟩) (fun _=>rfl) (.int .i64 x8)) (by omega)));have pM:=Y (mm.setCell (a:=⟨U+1,8,none⟩) (fun hh=>absurd hh (by show ¬ U+1 < w.heap.size;omega)) (.int .i64 x8));have pO:=Y ((hO.o.mod hn (fun k hk e=>by have:=(hO.o.block _ hk).1;omega)).mod (S:=fun k=>k=U+1) ((Mod.refl (fun k=>k=U+1) W9).setCell (a:=⟨U+1,8,none⟩) (fun _=>rfl) (.int .i64 x8)) (fun k hk e=>hOt (by rw [hk,e])));simp at ct;replace bT:=Y bT;replace mm:=Y mm;replace pT:Hid ((W9.setCell ⟨U+1,8,none⟩ (.int .i64 x8)).heap[U+1]?=some (.cells #[.int .i64 x0,.int .i64 x1,.string ⟨x2.toArray⟩,.int .i64 x3,.int .i64 x4,.int .i64 x5,.slice av x6.length cv,.int .i64 x7,.int .i64 x8] 118 (0,0))):=Y (by simpa using pT);clear hbT hbU bU hO hm hb9 hn k8;replace pU:=Y pU;go_wp2_with (first | (refine zae (by rfl) 118 _ rfl (U+1) _ _ _ _ rfl pT.o Tryz.underlying118 rfl (by kernel_rfl) ?_) | (refine zab rfl 118 _ _ rfl U _ _ 118 rfl rfl pU.o rfl (by kernel_rfl) rfl (fun WS HS=>?_)))
 refine bodyPost_ret (results_cell_row rfl _ _ U _ _ _ _ rfl HS.o.1 Tryz.underlying118 rfl (by kernel_rfl)) rfl ?_;rw [<- show M=mB st from hM.o];have hMe:M=(⟨x0,x1,x2,x3,x4,⟨x5,x6,x7,x8⟩⟩,s9):=by
  rw [hM.o];simp only [show mI st=(x0,s1) from hq0.o,show mI s1=(x1,s2) from hq1.o,show mS s2=(x2,s3) from hq2.o,show mI s3=(x3,s4) from hq3.o,show mI s4=(x4,s5) from hq4.o,show mI s5=(x5,s6) from hq5.o,show mL 64 mI s6=(x6,s7) from hq6.o,show mI s7=(x7,s8) from hq7.o,show mI s8=(x8,s9) from hq8.o]
 rw [hMe];refine ⟨.slice av x6.length cv,rfl,?_,?_,?_⟩
 ·exact pO.o.mod HS.o.2 (fun k hk e=>own_ne pO.o pU.o (by decide) (by rw [hk,e]))
 ·exact pB.o.mod HS.o.2 (by omega)
 ·exact pM.o.then HS.o.2 (fun k hk e=>by omega)
end Go.Proofs.YtjjfphalcibjfaaGreatDoor
namespace Cdk
open Go Go.RowKit
theorem zmz {s:Nat} (hs:0 < s) (VB cells:Array Value) (hV:VB.size=s) (hc:cells.size=s):
  Instr.fill (fun i=>some (i*s,s)) cells [(0,Value.agg VB)]=some VB:=by
 have h:=Great.fill_whole hs [Value.agg VB] cells (fun v hv=>by simp only [List.mem_singleton] at hv;subst hv;exact hV) (by simp [hc]);have e:([Value.agg VB].flatMap fun v=>v.cells.toList).toArray=VB:=by simp [Value.cells]
 rw [e] at h;exact h
theorem zhw {P:Program} {e:TypeId} {z:Value} {size bytes:Nat} {w:World} {o:Oper} {a:Act} {K:Act -> World -> Prop} {Q:Exit -> Act -> World -> Prop} (t:TypeId) (x:Operand) (ho:o.op=.buildSlice t 1 #[(0,x)])
  (hu:P.underlying t=some (.slice e)) (el:El P e z size bytes) (hsm:size<=1000) (VB:Array Value) (hx:a.eval x=.agg VB) (hV:VB.size=size)
  (h:K (a.put o.dst (.slice (some ⟨w.heap.size,0,none⟩) 1 1)) (w.alloc (.cells VB e))):o.wp P a w K Q:=by
 obtain ⟨i0,hi,hz0,hz1,hz2⟩:=info_parts el.row;have hp:=el.pos;refine wp_buildSlice t e 1 _ ho VB i0 z hu hi hz0 (by rw [hz1];omega) (by rw [hz1];omega) ?_ h;have e1:(#[(0,x)].map fun (p:Nat × Operand)=>(p.1,a.eval p.2)).toList=[(0,Value.agg VB)]:=by simp [hx]
 show Instr.fill _ _ (#[(0,x)].map fun (p:Nat × Operand)=>(p.1,a.eval p.2)).toList=some VB
 rw [e1,hz1];exact zmz hp VB _ hV (by simp)
theorem zcQ {P:Program} {e:TypeId} {z:Value} {size bytes:Nat} {w:World} {ops:Array Oper} {rest:List Oper} {o:Oper} {a:Act} {Q:Exit -> Act -> World -> Prop} (hg:o.guard=none) (t:TypeId) (x:Operand) (ho:o.op=.buildSlice t 1 #[(0,x)])
  (hu:P.underlying t=some (.slice e)) (el:El P e z size bytes) (hsm:size<=1000) (VB:Array Value) (hx:a.eval x=.agg VB) (hV:VB.size=size)
  (h:wpList P ops Q rest (a.put o.dst (.slice (some ⟨w.heap.size,0,none⟩) 1 1)) (w.alloc (.cells VB e))):wpList P ops Q (o::rest) a w:=
 wpList_plain hg fun _ hK=>zhw t x ho hu el hsm VB hx hV (hK _ _ h)
end Cdk
namespace Go.Proofs.YtjjfphalcibjfaaGreatDoor
open Go.Shelf Go.RowKit Cdk Scr
theorem elB:El Tryz.prog 118 (.agg #[.int .i64 0,.int .i64 0,.string ⟨#[]⟩,.int .i64 0,.int .i64 0,.int .i64 0,.slice none 0 0,.int .i64 0,.int .i64 0]) 9 96:=⟨by kernel_rfl,rfl,by decide,by decide⟩
def LkP (w:World) (R:Nat) (t:Bs) (T:List Bk × St) (e:Ending) (w':World):Prop:=∃ v,∃ rows:List (Value × Bk),e=.returned v/\rows.map Prod.snd=T.1/\Cdk.Own w' w.heap.size 118 9 bkC v rows/\(∀ p ∈ rows,Cdk.Own w' w.heap.size 3 1 zcZ p.1 p.2.lb.aft)/\zd2 w' R t T.2/\RdM R w w'
theorem znr {α:Type} (el:St -> α × St):∀ (k:Nat) (st:St),(mN el k st).1.length<=k
 | 0,st=>by simp [mN]
 | k+1,.error e=>by simp [mN]
 | k+1,.ok r=>by
  have:=znr el k (el (.ok r)).2;simp only [mN,List.length_cons];omega
theorem zkT {α:Type} (el:St -> α × St) {most:Int} (h:0<=most) (st:St):((mL most el st).1.length:Int)<=most:=by
 unfold mL;split
 ·simpa using h
 ·split
  ·simpa using h
  ·have:=znr el (mI st).1.toNat (.ok ‹Bs›)
   omega
theorem zne {α:Type} {P:α -> Prop} (el:St -> α × St) (h:∀ st,P (el st).1):∀ (k:Nat) (st:St),∀ x ∈ (mN el k st).1,P x
 | 0,st=>by simp [mN]
 | k+1,.error e=>by simp [mN]
 | k+1,.ok r=>by
  intro x hx;simp only [mN,List.mem_cons] at hx;rcases hx with rfl | hx
  ·exact h _
  ·exact zne el h k _ x hx
theorem zlB {α:Type} {P:α -> Prop} (el:St -> α × St) (h:∀ st,P (el st).1) (most:Int) (st:St):∀ x ∈ (mL most el st).1,P x:=by
 unfold mL;split
 ·simp
 ·split
  ·simp
  ·exact zne el h _ _
theorem zm9 (st:St):(mB st).1.lb.aft.length<=64:=by
 have:=zkT mI (most:=64) (by decide) (mI (mI (mI (mS (mI (mI st).2).2).2).2).2).2;have e:(mB st).1.lb.aft=(mL 64 mI (mI (mI (mI (mS (mI (mI st).2).2).2).2).2).2).1:=rfl;rw [e];omega
theorem zl3 {a:Option Addr} {n c:Nat} {x:Bk}:∀ u ∈ bkC (.slice a n c,x),u.oneCell'=true:=by
 intro u hu;simp only [bkC,zb0,List.mem_cons,List.not_mem_nil,or_false] at hu;rcases hu with rfl | rfl | rfl | rfl | rfl | rfl | rfl | rfl | rfl <;> rfl
theorem zlA (most:Int) (hmost:0<=most/\most<=1000) (R:Nat) (t:Bs) (st:St) (hs:t.length<=1000000) (w:World) (h:zd2 w R t st):
  Calls Tryz.prog 208 #[.pointer (some ⟨R,0,none⟩),.int .i64 most,.func (.func 209) #[] #[]] w (LkP w R t (mL most mB st)):=by
 have hRlt:=h.lt;have h1:=Y (zfA R t st hs w h);have hrng:=zgO st;have hce:=enters_of Tryz.func209 (by kernel_rfl) rfl;obtain ⟨T,hT⟩:∃ T,T=mL most mB st:=⟨_,rfl⟩;rw [<- hT];unfold mL at hT;have hz:=zkV st;generalize (mI st).1=c at h1 hrng hT hz;generalize (mI st).2=s1 at h1 hT hz;have hc1:=hrng.1;have hc2:=hrng.2;clear hrng h;replace hT:=Y hT;replace hz:=Y hz;go_enter Tryz.func208,Tryz.ntmps208;go_wp2_with fail
 refine h1.o.mono ?_;rintro e w1 ⟨rfl,hb1,hm1⟩;clear h1;have c2:=hb1.err;have hsz1:w.heap.size<=w1.heap.size:=hm1.size;cases s1 with
 | error er=>
  have hT2:=Y (show T=([],.error er) from hT.o);obtain rfl:c=0:=hz.o er rfl;have hne:=hb1.ne;have he1:(er==0)=false:=by rw [beq_eq_false_iff_ne];exact hne
  have he2:(er !=0)=true:=by rw [bne_iff_ne];exact hne
  simp only [stE] at c2;replace hb1:=Y hb1;replace hm1:=Y hm1;go_wp2_with fail
  go_loopg [8,9] 1 (fun g l i wr=>wr=w1/\l=.slice none 0 0/\i=.int .i64 0)
  case atStart=>exact ⟨rfl,rfl,rfl⟩
  case round=>
   obtain ⟨rfl,rfl,rfl⟩:=hrel;go_wp2_with fail
   go_ret;rw [hT2.o];exact ⟨_,[],rfl,rfl,Own.nil _ _ _ _ _,(fun p hh=>by cases hh),hb1.o,hm1.o⟩
 | ok r=>
  simp only [stE] at c2
  by_cases hbad:c < 0 \/ most < c
  ·have hT2:=Y (show T=([],.error 30) by rw [hT.o];simp only;rw [if_pos hbad])
   obtain ⟨a,ha,hra,hb2⟩:=hb1;have z2:=zad hb2;have p2:=zai hb2 2 (.int .i64 30);have m2:=Y (hm1.setCell (a:=⟨R,2,none⟩) (fun _=>rfl) (.int .i64 30));have d2:(w1.setCell ⟨R,2,none⟩ (.int .i64 30)).cell? ⟨R,2,none⟩=some (.int .i64 30):=zaa p2 2;have hbb:Hid (zd2 (w1.setCell ⟨R,2,none⟩ (.int .i64 30)) R t (.error 30)):=Y ⟨a,ha,by decide,p2⟩;replace p2:=Y p2;replace hb2:=Y hb2;replace hm1:=Y hm1;clear hT hz hra;have key:True:=trivial
   by_cases hneg:c < 0
   ·have hn1:¬ (0:Int) < c:=by omega
    replace hbad:=Y hbad;go_wp2_with fail
    go_loopg [8,9] 1 (fun g l i wr=>wr=w1.setCell ⟨R,2,none⟩ (.int .i64 30)/\l=.slice none 0 0/\i=.int .i64 0)
    case atStart=>exact ⟨rfl,rfl,rfl⟩
    case round=>
     obtain ⟨rfl,rfl,rfl⟩:=hrel;go_wp2_with fail
     go_ret;rw [hT2.o];exact ⟨_,[],rfl,rfl,Own.nil _ _ _ _ _,(fun p hh=>by cases hh),hbb.o,m2.o⟩
   ·have hm0:=hmost.1
    have hn2:most < c:=by rcases hbad with hb | hb <;> omega
    have hn1:(0:Int) < c:=by omega
    replace hbad:=Y hbad;go_wp2_with fail
    go_loopg [8,9] 1 (fun g l i wr=>wr=w1.setCell ⟨R,2,none⟩ (.int .i64 30)/\l=.slice none 0 0/\i=.int .i64 0)
    case atStart=>exact ⟨rfl,rfl,rfl⟩
    case round=>
     obtain ⟨rfl,rfl,rfl⟩:=hrel;go_wp2_with fail
     go_ret;rw [hT2.o];exact ⟨_,[],rfl,rfl,Own.nil _ _ _ _ _,(fun p hh=>by cases hh),hbb.o,m2.o⟩
  ·have hm1000:=hmost.2
   have hm0:=hmost.1;have hT2:=Y (show T=mN mB c.toNat (.ok r) by rw [hT.o];simp only;rw [if_neg hbad]);have hn1:¬ c < 0:=by omega
   have hn2:¬ most < c:=by omega
   obtain ⟨n,rfl⟩:∃ n:Nat,c=n:=⟨c.toNat,by omega⟩;rw [Int.toNat_natCast] at hT2;replace hb1:=Y hb1;replace hm1:=Y hm1;clear hT hz hbad;go_wp2_with fail
   go_loopg [8,9] n (fun g l i wr=>∃ (j:Nat) (pre:List Bk) (rows:List (Value × Bk)) (av:Option Addr) (cv:Nat) (st':St),j+g=n/\i=.int .i64 j/\l=.slice av rows.length cv/\Cdk.Own wr w.heap.size 118 9 bkC (.slice av rows.length cv) rows/\(∀ p ∈ rows,Cdk.Own wr w.heap.size 3 1 zcZ p.1 p.2.lb.aft)/\rows.map Prod.snd=pre/\zd2 wr R t st'/\RdM R w wr/\T=(pre++(mN mB g st').1,(mN mB g st').2)/\pre.length=j)
   case atStart=>exact ⟨0,[],[],none,0,.ok r,by omega,rfl,rfl,Own.nil _ _ _ _ _,(fun p hh=>by cases hh),rfl,hb1.o,hm1.o,by rw [hT2.o];rfl,rfl⟩
   case round=>
    clear hT2 hm1 hb1 c2;obtain ⟨j,pre,rows,av,cv,st',hj,rfl,rfl,hO,hA,hpre,hb,hm,hTj,hlj⟩:=hrel;have d2:=hb.err
    by_cases hlt:j < n
    ·have hd:decide ((j:Int) < (n:Int))=true:=decide_eq_true (by omega)
     have hdi:(j:Int) < (n:Int):=by omega
     cases st' with
     | error er=>
      have hne:=hb.ne;have he1:(er==0)=false:=by rw [beq_eq_false_iff_ne];exact hne
      simp only [stE] at d2;rw [zh9] at hTj;replace hTj:=Y hTj;replace hO:=Y hO;replace hb:=Y hb;replace hm:=Y hm;replace hj:=Y hj;replace hlj:=Y hlj;replace hA:=Y hA;replace hpre:=Y hpre;go_wp2_with fail
      go_ret;rw [hTj.o];exact ⟨_,rows,rfl,by simpa using hpre.o,hO.o,hA.o,hb.o,hm.o⟩
     | ok u=>
      simp only [stE] at d2;obtain ⟨g,rfl⟩:∃ g,gk=g+1:=⟨gk - 1,by omega⟩;rw [mN] at hTj;have hel:=Y (zgF R t (.ok u) hs wr hb);generalize mB (.ok u)=xs at hel hTj;obtain ⟨x,st2⟩:=xs;simp only at hel hTj;have hszr:w.heap.size<=wr.heap.size:=hm.size;have hpl:rows.length<=9000000000000000000:=by have:=congrArg List.length hpre;rw [List.length_map] at this;omega
      have hjw:IntKind.i64.wrap ((j:Int)+1)=(j:Int)+1:=IntWalk.i64_in _ (by omega);replace hTj:=Y hTj;replace hO:=Y hO;replace hb:=Y hb;replace hm:=Y hm;replace hj:=Y hj;replace hlj:=Y hlj;replace hA:=Y hA;replace hpre:=Y hpre;go_wp2_with fail
      refine hel.o.mono ?_;rintro e w2 ⟨vx,rfl,hOx,hb2,hm2⟩;obtain ⟨ax,cx,rfl,-,-⟩:=hOx.row;have hOx2:=Y (hOx.weaken (base':=w.heap.size) hszr);have hO2:=Y (hO.o.mod hm2 (fun k hk e=>by have:=(hO.o.block _ hk).1;omega));have hA2:=Y (fun p hp=>(hA.o p hp).mod hm2 (fun k hk e=>by have:=((hA.o p hp).block _ hk).1;omega));have hm2:=Y (hm.o.trans hm2);have hsz2:w.heap.size<=w2.heap.size:=hm2.o.size;obtain ⟨VB,hVB⟩:∃ VB,VB=(bkC (.slice ax x.lb.aft.length cx,x)).toArray:=⟨_,rfl⟩;rw [<- hVB];have hVs:Hid (VB.size=9):=Y (by rw [hVB];rfl);have hxa:=Mod.alloc (Mod.refl (fun _=>False) w2) (.cells VB 118);replace hb2:=Y hb2;have hrow:zaJ (w2.alloc (.cells VB 118)) (some ⟨w2.heap.size,0,none⟩) ([((.slice ax x.lb.aft.length cx:Value),x)].flatMap bkC):=by
       rw [show [((.slice ax x.lb.aft.length cx:Value),x)].flatMap bkC=bkC (.slice ax x.lb.aft.length cx,x) from by simp,hVB];exact zaJ.new _ _ _
      have h1c:∀ y ∈ [((.slice ax x.lb.aft.length cx:Value),x)],∀ u ∈ bkC y,u.oneCell'=true:=fun y hy u hu=>by simp only [List.mem_singleton] at hy;subst hy;exact zl3 u hu
      have hlen6:rows.length+[((.slice ax x.lb.aft.length cx:Value),x)].length<=137438953472:=by have:=hlj.o;have hp:=congrArg List.length hpre.o;rw [List.length_map] at hp;simp only [List.length_singleton];omega
      replace hrow:=Y hrow;replace h1c:=Y h1c;replace hlen6:=Y hlen6;replace hVB:=Y hVB;clear hel hO hm hb hA hOx;go_wp2_with (first | (refine zcQ rfl _ _ rfl Tryz.underlying23 elB (by decide) VB rfl hVs.o ?_) | (at_builtin;refine zaI rfl _ _ _ rfl Tryz.underlying23 elB rfl (hO2.o.ext hxa) _ 1 1 rfl [(.slice ax x.lb.aft.length cx,x)] rfl hrow.o zgU h1c.o hlen6.o (by rw [World.size_alloc];omega) (fun e=>nomatch e) (fun v6 w6 H6=>?_);skip))
      obtain ⟨hO6,hm6⟩:=H6.o;have hmx:Mod (fun k=>(Value.slice av rows.length cv).ownBlock=some k) w2 w6:=(hxa.mono (fun _ h=>h.elim)).trans hm6;have hRo:(Value.slice av rows.length cv).ownBlock ≠ some R:=fun e=>by have:=(hO2.o.block _ e).1;omega
      have hb6:=Y (hb2.o.mod hmx hRo)
      have hap:∀ p:Value × Bk,Cdk.Own w2 w.heap.size 3 1 zcZ p.1 p.2.lb.aft -> Cdk.Own w6 w.heap.size 3 1 zcZ p.1 p.2.lb.aft:=fun p hp=>hp.mod hmx (fun k hk e=>by
       obtain ⟨c,hc⟩:=hO2.o.cells e
       exact own_ne hp hc (by decide) hk)
      have hA6:Hid (∀ p ∈ rows++[(.slice ax x.lb.aft.length cx,x)],Cdk.Own w6 w.heap.size 3 1 zcZ p.1 p.2.lb.aft):=Y (fun p hp=>by
       rcases List.mem_append.1 hp with hp | hp
       ·exact hap p (hA2.o p hp)
       ·simp only [List.mem_singleton] at hp
        subst hp
        exact hap _ hOx2.o)
      have hm7:=Y (hm2.o.then hmx (fun k hk e=>by have:=(hO2.o.block _ e).1;omega));obtain ⟨av6,cv6,rfl,-⟩:=hO6.row;have hl6:(rows++[((.slice ax x.lb.aft.length cx:Value),x)]).length=rows.length+1:=by simp
      have hpre6:=Y (show (rows++[((.slice ax x.lb.aft.length cx:Value),x)]).map Prod.snd=pre++[x] by rw [List.map_append,hpre.o];rfl);rw [hl6];rw [hl6] at hO6;clear H6 hm6 hmx hxa hap;replace hO6:=Y hO6;go_wp2_with fail
      go_roundg g
      case measure=>omega
      case rel=>exact ⟨j+1,pre++[x],_,av6,cv6,st2,by have:=hj.o;omega,by go_num,by rw [hl6],by rw [hl6];exact hO6.o,hA6.o,hpre6.o,hb6.o,hm7.o,by rw [hTj.o];simp,by rw [List.length_append,hlj.o];rfl⟩
    ·obtain rfl:gk=0:=by omega
     obtain rfl:j=n:=by omega
     have hdi:¬ (j:Int) < (j:Int):=by omega
     have hd:decide ((j:Int) < (j:Int))=false:=decide_eq_false hdi;replace hTj:=Y hTj;replace hO:=Y hO;replace hb:=Y hb;replace hm:=Y hm;replace hj:=Y hj;replace hlj:=Y hlj;replace hA:=Y hA;replace hpre:=Y hpre;go_wp2_with fail
     go_ret;rw [hTj.o];exact ⟨_,rows,rfl,by simpa [mN] using hpre.o,hO.o,hA.o,hb.o,hm.o⟩
def DbE (w:World) (e:Ending) (w':World) (D:Except Int (List Bk)):Prop:=match D with
 | .ok l=>∃ (ao:Option Addr) (cap:Nat),e=.returned (.tuple #[.slice ao l.length cap,.int .i64 0])/\zaE (fun k=>w.heap.size<=k/\k < w'.heap.size) w' (.slice ao l.length cap) l
 | .error _=>∃ c:Int,c ≠ 0/\e=.returned (.tuple #[.slice none 0 0,.int .i64 c])
def DbP (w:World) (s:Bs) (e:Ending) (w':World):Prop:=Ext w w'/\DbE w e w' (zdm s)
theorem zjx {w':World} {B:Nat} {v:Value} {rows:List (Value × Bk)} {l:List Bk} (hr:rows.map Prod.snd=l) (hO:Cdk.Own w' B 118 9 bkC v rows) (hA:∀ p ∈ rows,Cdk.Own w' B 3 1 zcZ p.1 p.2.lb.aft) (hl:l.length<=1000) (ha:∀ b ∈ l,b.lb.aft.length<=1000):zaE (fun k=>B<=k/\k < w'.heap.size) w' v l:=by
 subst hr;rw [List.length_map] at hl;refine ⟨rows,rfl,zbV hO (by omega),fun p hp=>zbV (hA p hp) ?_⟩;have:=ha p.2 (List.mem_map.2 ⟨p,hp,rfl⟩);omega
theorem decode_any (s:Bs) (hs:s.length<=1000000) (w:World):
  Calls Tryz.prog 183 #[.string ⟨s.toArray⟩] w (DbP w s):=by
 obtain ⟨R,hR⟩:∃ R,R=w.heap.size:=⟨_,rfl⟩;have hx0:=(Mod.refl (fun _=>False) w).alloc (.cells #[.string ⟨s.toArray⟩,.int .i64 0,.int .i64 0] 184);have hnew:=heap_alloc_new w (.cells #[.string ⟨s.toArray⟩,.int .i64 0,.int .i64 0] 184);have hb0:zd2 (w.alloc (.cells #[.string ⟨s.toArray⟩,.int .i64 0,.int .i64 0] 184)) R s (.ok s):=⟨0,Nat.zero_le _,rfl,by rw [hR];exact hnew⟩;have hsz:(w.alloc (.cells #[.string ⟨s.toArray⟩,.int .i64 0,.int .i64 0] 184)).heap.size=R+1:=by rw [World.size_alloc,hR]
 have hsl:Hid ((⟨s.toArray⟩:ByteArray).size=s.length):=Y rfl;go_enter Tryz.func183,Tryz.ntmps183;go_wp2_with fail
 rw [<- hR];generalize (w.alloc (.cells #[.string ⟨s.toArray⟩,.int .i64 0,.int .i64 0] 184))=w0 at hx0 hb0 hsz ⊢;have h1:=Y (zlA 24 ⟨by decide,by decide⟩ R s (.ok s) hs w0 hb0);have hwR:w.heap.size<=R:=Nat.le_of_eq hR.symm;replace hR:=Y hR;clear hnew hb0;refine h1.o.mono ?_;rintro e w1 ⟨v,rows,rfl,hrows,hO,hA,hb1,hm1⟩;clear h1;obtain ⟨av,cv,rfl,-,-⟩:=hO.row;have hx1:Ext w w1:=zao (B:=R) hwR ((hx0.mono (T:=fun k=>R<=k) (fun _ h=>h.elim)).trans (hm1.mono (fun k hk=>by omega)));have hlen:(mL 24 mB (.ok s)).1.length<=1000:=by have:=zkT mB (most:=24) (by decide) (.ok s);omega
 have haft:=zlB (P:=fun b:Bk=>b.lb.aft.length<=1000) mB (fun st=>Nat.le_trans (zm9 st) (by decide)) 24 (.ok s);have hbks:=(zjx hrows hO hA hlen haft).mono (F':=fun k=>w.heap.size<=k/\k < w1.heap.size) (fun k hk=>⟨by omega,hk.2⟩);have hrl:rows.length=(mL 24 mB (.ok s)).1.length:=by rw [<- hrows,List.length_map]
 rw [hrl] at hbks ⊢;have hd:=zlk s;obtain ⟨D,hD⟩:∃ D,D=zdm s:=⟨_,rfl⟩;have hDP:Hid (∀ e w',DbP w s e w'=(Ext w w'/\DbE w e w' D)):=Y (fun e w'=>by rw [hD];rfl);rw [<- hD] at hd;replace hD:=Y hD;have he:=hb1.err;generalize mL 24 mB (.ok s)=T at hd hb1 hbks he hrl hrows;obtain ⟨L,st⟩:=T;simp only at hd hb1 hbks he hrl hrows ⊢;replace hx1:=Y hx1;clear hO hA hm1 hx0 haft hrows;replace hrl:=Y hrl;rcases hd with ⟨l,hT,hv,hDl⟩ | ⟨hT,er,hDe⟩
 ·injection hT with h1 h2
  subst h1 h2;obtain ⟨a,ha,ha2,hb1⟩:=hb1;have hal:a=s.length:=by
   have:=congrArg List.length ha2;rw [List.length_drop] at this;simp at this;omega
  subst hal;have c1:=cS hb1 1;simp only [stE] at he;have hvl:=Y (zb4 _ L w1 hbks);rw [hv] at hvl;have hlt:¬ (s.length:Int) < (s.length:Int):=by omega
  replace hb1:=Y hb1;replace hbks:=Y hbks;replace hDl:=Y hDl;replace hv:=Y hv;clear ha2;go_wp2_with fail
  refine hvl.o.mono ?_;rintro e w2 ⟨rfl,hx2⟩;have hxx:=Y (hx1.o.trans hx2);have hbb:=Y ((hbks.o.ext hx2).mono (F':=fun k=>w.heap.size<=k/\k < w2.heap.size) (fun k hk=>⟨hk.1,Nat.lt_of_lt_of_le hk.2 hx2.size⟩));clear hvl hx2;go_wp2_with fail
  go_ret2
  rw [hDP.o,hDl.o];exact ⟨hxx.o,_,_,rfl,hbb.o⟩
 ·rcases hT with ⟨e1,rfl⟩ | ⟨b,r,rfl⟩ | ⟨rfl,hv⟩
  ·have hne:=hb1.ne
   have hne1:(e1 !=0)=true:=by rw [bne_iff_ne];exact hne
   have hne2:(e1==0)=false:=by rw [beq_eq_false_iff_ne];exact hne
   simp only [stE] at he;replace hb1:=Y hb1;replace hbks:=Y hbks;replace hDe:=Y hDe;go_wp2_with fail
   go_quiet (fail)
   go_wp2_with fail
   go_ret2
   rw [hDP.o,hDe.o];exact ⟨hx1.o.ofDrewN _,e1,hne,rfl⟩
  ·obtain ⟨a,ha,ha2,hb1⟩:=hb1
   have hal:a < s.length:=by
    have:=congrArg List.length ha2;rw [List.length_drop] at this;simp at this;omega
   have c1:=cS hb1 1;simp only [stE] at he;have hlt:(a:Int) < (s.length:Int):=by omega
   have hltd:decide ((a:Int) < (s.length:Int))=true:=decide_eq_true hlt;replace hb1:=Y hb1;replace hbks:=Y hbks;replace hDe:=Y hDe;clear ha2;go_wp2_with fail
   go_ret2
   rw [hDP.o,hDe.o];exact ⟨hx1.o,10,by decide,rfl⟩
  ·obtain ⟨a,ha,ha2,hb1⟩:=hb1
   have hal:a=s.length:=by
    have:=congrArg List.length ha2;rw [List.length_drop] at this;simp at this;omega
   subst hal;have c1:=cS hb1 1;simp only [stE] at he;have hvl:=Y (zb4 _ L w1 hbks);rw [hv] at hvl;have hlt:¬ (s.length:Int) < (s.length:Int):=by omega
   replace hb1:=Y hb1;replace hbks:=Y hbks;replace hDe:=Y hDe;replace hv:=Y hv;clear ha2;go_wp2_with fail
   refine hvl.o.mono ?_;rintro e w2 ⟨rfl,hx2⟩;have hxx:=Y (hx1.o.trans hx2);clear hvl hx2;go_wp2_with fail
   go_ret2
   rw [hDP.o,hDe.o];exact ⟨hxx.o,30,by decide,rfl⟩
attribute [local go_sem] Oper.semAt_some
theorem zfm (s:Bs) (r:Rd):(numsOf s r).2.rest=r.rest:=by
 unfold numsOf;split
 ·rfl
 ·exact zel _ r
theorem zmI (r:Rd):(zfM r).2.rest.length<=r.rest.length:=by
 unfold zfM;rw [zfm];exact (zbb r).2
theorem NmP.after {w w1 w':World} {R:Nat} {l:List Int} {r:Rd} {e:Ending} (h:NmP w1 R l r e w') (hm:RdM R w w1):NmP w R l r e w':=by
 obtain ⟨ao,cap,he,h1,h2,h3⟩:=h;exact ⟨ao,cap,he,zac.mono h1 (fun k hk=>⟨Nat.le_trans hm.size hk.1,hk.2⟩),h2,hm.trans h3⟩
theorem zja (R:Nat) (r:Rd) (w:World) (hG:Gl w) (hR:10<=R) (h:zbE w R r) (hs:r.rest.length<=1000000):
  Calls Tryz.prog 139 #[.pointer (some ⟨R,0,none⟩)] w (NmP w R (zfM r).1 (zfM r).2):=by
 have h1:=Y (zb2 R r w hG h hs);have hl:=Y (zbb r);go_enter Tryz.func139,Tryz.ntmps139;go_wp2_with fail
 refine h1.o.mono ?_;rintro e w1 ⟨rfl,hr1,hm1⟩;have h2:=Y (zeM R (zaL r).2 (zaL r).1 (by have:=hl.o;omega) w1 (hG.rd hR hm1) hR hr1);replace hm1:=Y hm1;clear hr1 h1;go_wp2_with fail
 refine h2.o.mono ?_;rintro e w2 hP;replace hP:=NmP.after hP hm1.o;obtain ⟨ao,cap,rfl,hi,hr2,hm⟩:=hP;replace hi:=Y hi;replace hr2:=Y hr2;replace hm:=Y hm;clear h2;go_wp2_with fail
 go_ret;exact ⟨ao,cap,rfl,hi.o,hr2.o,hm.o⟩
theorem zlt (c:UInt8) (s:Bs) (hs:s.length<=1000000) (w:World) (hG:Gl w):
  Calls Tryz.prog 184 #[.string ⟨s.toArray⟩,.string ⟨#[c]⟩] w fun e w'=>e=.returned (.slice (some ⟨w.heap.size,0,none⟩) (parts c s).length (parts c s).length)/\w'=w.alloc (.cells ((parts c s).map zb0).toArray 9):=by
 obtain ⟨m,hm⟩:=hG.mx;refine (Tryz.strings_Split ⟨s.toArray⟩ ⟨#[c]⟩ m w (by show s.toArray.size < _;simp;omega) hm (Nat.le_refl 1)).mono ?_;rintro e w' ⟨rfl,rfl⟩;have hcnt:Lib.countB ⟨s.toArray⟩ ⟨#[c]⟩=s.count c:=Lib.count_one c s;have hd:=Lib.splitB_data ⟨#[c]⟩ 0 (Lib.countB ⟨s.toArray⟩ ⟨#[c]⟩) ⟨s.toArray⟩;have hp:Lib.splitK [c] 0 (Lib.countB ⟨s.toArray⟩ ⟨#[c]⟩) s=parts c s:=zeD c _ s (by rw [hcnt];exact Nat.le_refl _);have hd2:(Lib.splitB ⟨#[c]⟩ 0 (Lib.countB ⟨s.toArray⟩ ⟨#[c]⟩) ⟨s.toArray⟩).map (·.data.toList)=parts c s:=hd.trans hp;have hn:=Lib.splitB_all ⟨#[c]⟩ (Nat.le_refl 1) 0 _ ⟨s.toArray⟩ rfl;have hl:Lib.countB ⟨s.toArray⟩ ⟨#[c]⟩+1=(parts c s).length:=by rw [<- hd2,List.length_map,hn]
 have hv:(Lib.splitB ⟨#[c]⟩ 0 (Lib.countB ⟨s.toArray⟩ ⟨#[c]⟩) ⟨s.toArray⟩).map Value.string=(parts c s).map zb0:=by
  rw [<- hd2,List.map_map];refine List.map_congr_left (fun x _=>?_);exact (znH x).symm
 rw [hl,hv];exact ⟨rfl,rfl⟩
attribute [local go_sem] Oper.semAt_some
theorem zhU (s:Bs) (r:Rd):(labelOf s r).2.rest=r.rest:=by
 unfold labelOf;split
 ·rfl
 ·split
  ·simp only
   rw [zcE,zcE,zfm,zcE]
  ·rfl
theorem zh4 (r:Rd):(zbK r).2.rest.length<=r.rest.length:=by
 unfold zbK;rw [zhU];exact (zbb r).2
theorem zhS {s a b c d:Bs} (h:s ≠ [42]) (hp:parts 47 s=[a,b,c,d]) (r:Rd):labelOf s r=
  (⟨(zbn a r).1,(numsOf b (zbn a r).2).1,(zbn c (numsOf b (zbn a r).2).2).1,(zbn d (zbn c (numsOf b (zbn a r).2).2).2).1⟩,(zbn d (zbn c (numsOf b (zbn a r).2).2).2).2):=by
 unfold labelOf;rw [if_neg h,hp]
theorem zio {s:Bs} (h:s ≠ [42]) (hp:(parts 47 s).length ≠ 4) (r:Rd):labelOf s r=(Lb.zero,{ r with bad:=true }):=by
 unfold labelOf;rw [if_neg h];split
 ·rename_i e;rw [e] at hp;simp at hp
 ·rfl
theorem zjm (c:UInt8):∀ (s:Bs) (p:Bs),p ∈ parts c s -> p.length<=s.length
 | [],p,h=>by simp only [parts,List.mem_singleton] at h;subst h;simp
 | x::r,p,h=>by
  have ih:=zjm c r;unfold parts at h;split at h
  ·rcases List.mem_cons.1 h with rfl | h
   ·simp
   ·have:=ih p h;simp only [List.length_cons];omega
  ·split at h
   ·simp only [List.mem_singleton] at h;subst h;simp
   ·rename_i q l hq
    rcases List.mem_cons.1 h with rfl | h
    ·have:=ih q (by rw [hq];simp)
     simp only [List.length_cons];omega
    ·have:=ih p (by rw [hq];exact List.mem_cons_of_mem _ h)
     simp only [List.length_cons];omega
def LbP (w:World) (R:Nat) (l:Lb) (r':Rd) (e:Ending) (w':World):Prop:=∃ v:Value,e=.returned (.agg #[.int .i64 l.til,v,.int .i64 l.app,.int .i64 l.den])/\zaF (fun k=>w.heap.size<=k/\k < w'.heap.size) w' v l.aft/\zbE w' R r'/\RdM R w w'
theorem zhF (R:Nat) (r:Rd) (w:World) (hG:Gl w) (hR:10<=R) (h:zbE w R r) (hs:r.rest.length<=1000000):
  Calls Tryz.prog 118 #[.pointer (some ⟨R,0,none⟩)] w (LbP w R (zbK r).1 (zbK r).2):=by
 have hRlt:=h.lt;obtain ⟨L,hL⟩:∃ L,L=w.heap.size:=⟨_,rfl⟩;have hx0:=Mod.alloc (Mod.refl (fun _=>False) w) (.cells #[.int .i64 0,.slice none 0 0,.int .i64 0,.int .i64 0] 26);have hb0:(w.alloc (.cells #[.int .i64 0,.slice none 0 0,.int .i64 0,.int .i64 0] 26)).heap[L]?=some (.cells #[.int .i64 0,.slice none 0 0,.int .i64 0,.int .i64 0] 26 (0,0)):=by rw [hL];exact heap_alloc_new w _
 have h1:=Y (zb2 R r _ (hG.ext hx0) (h.ext hx0) hs);have hl:=Y (zbb r);obtain ⟨w0,hw0⟩:∃ w0,w0=w.alloc (.cells #[.int .i64 0,.slice none 0 0,.int .i64 0,.int .i64 0] 26):=⟨_,rfl⟩;rw [<- hw0] at hx0 hb0 h1;replace hw0:=Y hw0;unfold zbK;generalize zaL r=sq at h1 hl ⊢;obtain ⟨s,rest,more,bad⟩:=sq;obtain ⟨q,hq⟩:∃ q:Rd,q=⟨rest,more,bad⟩:=⟨_,rfl⟩;have hsl:s.length<=1000000:=by have:=hl.o.1;simp only at this;omega
 simp only [<- hq] at h1 ⊢;clear hl;replace hq:=Y hq;go_enter Tryz.func118,Tryz.ntmps118;go_wp2_with fail
 simp only [<- hL,<- hw0.o];have hwL:w.heap.size<=L:=Nat.le_of_eq hL.symm;have hRL:R < L:=by omega
 replace hL:=Y hL;refine h1.o.mono ?_;rintro e w1 ⟨rfl,hr1,hm1⟩;have hb1:=hm1.at hb0 (by omega);have hm01:=Y ((RdM.ofExt hx0).trans hm1);have hG1:=Y (hG.rd hR hm01.o);have hL1:L < w1.heap.size:=zas hb1;replace hr1:=Y hr1;replace hb1:=Y hb1;clear h1 hm1 hx0 hb0
 by_cases hst:s=[42]
 ·subst hst
  go_wp2_with (refine zab rfl 26 _ _ rfl L _ _ 26 rfl rfl hb1.o rfl (by kernel_rfl) rfl (fun WS HS=>?_))
  refine bodyPost_ret (results_cell_row rfl _ _ L _ _ _ _ rfl HS.o.1 Tryz.underlying26 rfl (by kernel_rfl)) rfl ?_;have e0:labelOf [42] q=(Lb.zero,q):=rfl;rw [e0];exact ⟨.slice none 0 0,rfl,zac.nil _ _ _,HS.o.2.at hr1.o (fun e=>by omega),hm01.o.then HS.o.2 (fun k hk e=>by omega)⟩
 ·have hse:(s==[42])=false:=by rw [beq_eq_false_iff_ne];exact hst
  have h2:=Y (zlt 47 s hsl w1 hG1.o);obtain ⟨P,hP⟩:∃ P,P=parts 47 s:=⟨_,rfl⟩;rw [<- hP] at h2;have hpm:Hid (∀ x ∈ P,x.length<=1000000):=Y (fun x hx=>by rw [hP] at hx;have:=zjm 47 s x hx;omega);replace hP:=Y hP;replace hst:=Y hst;go_wp2_with fail
  refine h2.o.mono ?_;rintro e w2 ⟨rfl,hw2⟩;clear h2;have hx2:=Mod.alloc (Mod.refl (fun _=>False) w1) (.cells (P.map zb0).toArray 9);have hnew:=heap_alloc_new w1 (.cells (P.map zb0).toArray 9);rw [<- hw2] at hx2 hnew;obtain ⟨B,hB⟩:∃ B,B=w1.heap.size:=⟨_,rfl⟩;rw [<- hB] at hnew ⊢;have hb2:=Y (hx2.at hb1.o id);have hr2:=Y (hr1.o.ext hx2);have hm02:=Y (hm01.o.then hx2 (fun _ _ h=>h.elim));have hG2:=Y (hG1.o.ext hx2);have hLB:L < B:=by omega
  have hwB:w1.heap.size<=B:=Nat.le_of_eq hB.symm;replace hB:=Y hB;clear hr1 hb1 hm01 hG1 hx2 hw2
  by_cases hn:P.length=4
  ·obtain ⟨a,b,c,d,rfl⟩:∃ a b c d,P=[a,b,c,d]:=by
    match P,hn with
    | [a,b,c,d],_=>exact ⟨a,b,c,d,rfl⟩
   have hla:=hpm.o a (by simp);have hlb:=hpm.o b (by simp);have hlc:=hpm.o c (by simp);have hld:=hpm.o d (by simp);simp only [List.map_cons,List.map_nil] at hnew;replace hnew:w2.heap[B]?=some (.cells #[zb0 a,zb0 b,zb0 c,zb0 d] 9 (0,0)):=hnew;have hlen:([a,b,c,d]:List Bs).length=4:=rfl;rw [hlen];replace hnew:=Y hnew;replace hpm:=Y hpm;clear hlen hn;go_upto_region 8 with (fail)
   refine zbz (fun W=>W.heap[B]?=some (.cells #[zb0 a,zb0 b,zb0 c,zb0 d] 9 (0,0))) [(0,true),(1,true),(2,true),(3,true),(5,true),(6,true),(7,true),(8,true),(9,true),(11,true),(12,true),(13,true),(14,true),(16,true),(17,true),(18,true),(19,true),(4,false),(10,false),(15,false),(20,false),(21,true),(22,false)]
    (by as_aux_lemma=>kernel_rfl) (by as_aux_lemma=>kernel_rfl) (by as_aux_lemma=>kernel_rfl) (by decide) hnew.o ?_
   simp only [zah,List.map_cons,List.map_nil,List.getD_cons_zero,List.getD_cons_succ];have hx3:=Mod.drew0 (fun _=>False) w2;have hG3:=hG2.o.ext hx3;have hr3:=hr2.o.ext hx3;have hm3:=Y (hm02.o.then hx3 (fun _ _ h=>h.elim));have hb3:=Y (hx3.at hb2.o id);have hn3:=hx3.at hnew.o id;generalize w2.drew=w3 at hx3 hG3 hr3 hm3 hb3 hn3 ⊢;have hBl:B < w3.heap.size:=zas hn3;have k1:=Y (zc0 R q a hla w3 hG3 hr3);replace hG3:=Y hG3;replace hn3:=Y hn3;clear hx3 hr3 hr2 hG2 hm02 hb2 hnew;repeat (first | (refine zia (by rfl) (by rfl) ?_ (fun w' hC=>?_) ?_;rotate_left;(have q0:=zaa hC 0;have q1:=zaa hC 1;have q2:=zaa hC 2;have q3:=zaa hC 3;simp [zb0] at q0 q1 q2 q3;go_simp;try with_reducible rfl);try simp only [Act.put,sA,sZ,sS]) | (refine ziJ (by rfl) (by rfl) ?_ (fun w' hC=>?_) ?_;rotate_left;(go_simp;try with_reducible rfl);try simp only [Act.put,sA,sZ,sS]))
   try simp only [Act.put,sA,sZ,sS]
   refine zdF (by rfl) (fun K hK=>?_);go_simp;refine k1.o.mono ?_;rintro e w4 ⟨rfl,hr4,hmc⟩;have hn4:=hmc.at hn3.o (by omega);have hG4:=hG3.o.rd hR hmc;have hm4:=Y (hm3.o.trans hmc);have hb4:=Y (hmc.at hb3.o (by omega));have hs4:w3.heap.size<=w4.heap.size:=hmc.size;refine hK.o _ _ hn4 ?_;have k2:=Y (zeM R (zbn a q).2 b hlb w4 hG4 hR hr4);clear hr4;replace hn4:=Y hn4;replace hG4:=Y hG4;clear hK K hmc k1 hn3 hG3 hm3 hb3;try simp only [Act.put,sA,sZ,sS]
   refine zdF (by rfl) (fun K hK=>?_);go_simp;refine k2.o.mono ?_;rintro e w5 ⟨ao,cap,rfl,hi5,hr5,hmc⟩;have hn5:=hmc.at hn4.o (by omega);have hG5:=hG4.o.rd hR hmc;have hm5:=Y (hm4.o.trans hmc);have hb5:=Y (hmc.at hb4.o (by omega));have hs5:w4.heap.size<=w5.heap.size:=hmc.size;replace hi5:=Y (zac.mono (F':=fun k=>B < k/\k < w5.heap.size) hi5 (fun k hk=>⟨by omega,hk.2⟩));refine hK.o _ _ hn5 ?_;have k3:=Y (zc0 R (numsOf b (zbn a q).2).2 c hlc w5 hG5 hr5);clear hr5;replace hn5:=Y hn5;replace hG5:=Y hG5;clear hK K hmc k2 hn4 hG4 hm4 hb4;try simp only [Act.put,sA,sZ,sS]
   refine zdF (by rfl) (fun K hK=>?_);go_simp;refine k3.o.mono ?_;rintro e w6 ⟨rfl,hr6,hmc⟩;have hn6:=hmc.at hn5.o (by omega);have hG6:=hG5.o.rd hR hmc;have hm6:=Y (hm5.o.trans hmc);have hb6:=Y (hmc.at hb5.o (by omega));have hs6:w5.heap.size<=w6.heap.size:=hmc.size;have hi6:=Y (hi5.o.mod hmc (fun k hk e=>by omega));clear hi5;refine hK.o _ _ hn6 ?_;have k4:=Y (zc0 R (zbn c (numsOf b (zbn a q).2).2).2 d hld w6 hG6 hr6);clear hr6;replace hn6:=Y hn6;replace hG6:=Y hG6;clear hK K hmc k3 hn5 hG5 hm5 hb5;try simp only [Act.put,sA,sZ,sS]
   refine zdF (by rfl) (fun K hK=>?_);go_simp;refine k4.o.mono ?_;rintro e w7 ⟨rfl,hr7,hmc⟩;have hn7:=hmc.at hn6.o (by omega);have hG7:=hG6.o.rd hR hmc;have hm7:=Y (hm6.o.trans hmc);have hb7:=Y (hmc.at hb6.o (by omega));have hs7:w6.heap.size<=w7.heap.size:=hmc.size;have hi7:=Y (hi6.o.mod hmc (fun k hk e=>by omega));clear hi6;replace hr7:=Y hr7;refine hK.o _ _ hn7 ?_;replace hn7:=Y hn7;replace hG7:=Y hG7;clear hK K hmc k4 hn6 hG6 hm6 hb6;try simp only [Act.put,sA,sZ,sS]
   refine zia (by rfl) (by rfl) ?_ (fun w' hC=>?_) ?_;rotate_left;(go_simp;try with_reducible rfl);try simp only [Act.put,sA,sZ,sS]
   refine zkd (by rfl) (fun K hK=>?_);refine zbf 26 _ _ rfl L _ _ 26 rfl rfl hb7.o rfl (by kernel_rfl) rfl (fun WS HS=>?_);refine hK.o _ _ ?_;clear hK K;go_wp2_with fail
   have e0:=zhS hst.o hP.o.symm q;refine bodyPost_ret (results_cell_row rfl _ _ L _ _ _ _ rfl HS.o.1 Tryz.underlying26 rfl (by kernel_rfl)) rfl ?_;rw [e0];have hsS:w7.heap.size<=WS.heap.size:=HS.o.2.size;have hiS:=hi7.o.mod HS.o.2 (fun k hk e=>by omega);exact ⟨_,rfl,zac.mono hiS (fun k hk=>⟨by omega,by omega⟩),HS.o.2.at hr7.o (fun e=>by omega),hm7.o.then HS.o.2 (fun k hk e=>by omega)⟩
  ·have hne:(((P.length:Int)) !=4)=true:=by rw [bne_iff_ne];omega
   have hr3:=hr2.o;rw [hq.o] at hr3;unfold zbE at hr3;simp only at hr3;have c2:=cS hr3 2;have zR:=zad hr3;have hp:=Y (zai hr3 2 (.bool true));have hb3:=Y ((zan w2 (b:=R) (k:=L) 2 (.bool true) (by omega)).trans hb2.o);have hm3:=Y (hm02.o.setCell (a:=⟨R,2,none⟩) (fun _=>rfl) (.bool true));replace hr3:=Y hr3;replace hn:=Y hn;go_wp2_with (refine zab rfl 26 _ _ rfl L _ _ 26 rfl rfl hb3.o rfl (by kernel_rfl) rfl (fun WS HS=>?_))
   refine bodyPost_ret (results_cell_row rfl _ _ L _ _ _ _ rfl HS.o.1 Tryz.underlying26 rfl (by kernel_rfl)) rfl ?_;have e0:=zio hst.o (by rw [<- hP.o];exact hn.o) q;rw [e0,hq.o];exact ⟨.slice none 0 0,rfl,zac.nil _ _ _,HS.o.2.at hp.o (fun e=>by omega),hm3.o.then HS.o.2 (fun k hk e=>by omega)⟩
end Go.Proofs.YtjjfphalcibjfaaGreatDoor
