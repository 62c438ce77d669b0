import Derived.Test.YtjjfphalcibjfaaGreatDoorD24
set_option maxRecDepth 100000
set_option maxHeartbeats 16000000
namespace Scr
def sS1:Bs:=[35,32,97,32,114,101,109,97,114,107,10,112,117,98,108,105,115,104,32,51,32,49,48,47,50,44,52,47,49,47,48,10,10,115,101,97,114,99,104,32,49,32,53,32,114,97,105,110,32,45,99,105,116,121,10,99,114,97,115,104,32,45,49,32,48,44,50]
def sS2:Bs:=[112,117,98,108,105,115,104,32,51,32,49,48,47,50,44,52,47,49,47,48,10,115,101,97,114,99,104,32,49,32,53,32,114,97,105,110,32,45,99,105,116,121,10,99,114,97,115,104,32,45,49,32,48,44,50,10]
def sS3:Bs:=[99,104,101,99,107,10,116,105,99,107,32,48,10]
def sA0:Ac:={ Ac.zero with kd:=1,fc:={ Fc.zero with kd:=3,st:=3,lb:=⟨10,[2,4],1,0⟩ } }
def sA1:Ac:={ Ac.zero with kd:=7,cl:=1,n:=5,tx:=[114,97,105,110,32,45,99,105,116,121] }
def sA2:Ac:={ Ac.zero with kd:=5,n:=-1,ke:=[0,2] }
def zoi (e:Except Nat (List Ac)) (l:List Ac):Bool:=match e with | .ok m=>decide (m=l) | .error _=>false
def zof (e:Except Nat (List Ac)) (n:Nat):Bool:=match e with | .ok _=>false | .error m=>decide (m=n)
theorem zmm {e:Except Nat (List Ac)} {l:List Ac} (h:zoi e l=true):e=.ok l:=by
 cases e with
 | ok m=>unfold zoi at h;rw [of_decide_eq_true h]
 | error n=>cases h
theorem zmE {e:Except Nat (List Ac)} {n:Nat} (h:zof e n=true):e=.error n:=by
 cases e with
 | ok m=>cases h
 | error m=>unfold zof at h;rw [of_decide_eq_true h]
theorem zn6:parse sS1=.ok [sA0,sA1,sA2]:=zmm (by decide+kernel)
theorem zn9:print [sA0,sA1,sA2]=some sS2:=by decide+kernel
theorem znZ:parse sS3=.error 2:=zmE (by decide+kernel)
theorem znV:vAc sA0=true:=by decide+kernel
theorem znW:decide (sA0=sA1)=false:=by decide+kernel
end Scr
namespace Cdk
open Go Go.RowKit
theorem zcJ {P:Program} {ops:Array Oper} {C:World -> Prop} {o:Oper} {a:Act} {w:World} {Q:Exit -> Act -> World -> Prop} {r:List (Oper × Bool)} (hw:Region.wanted o (yielded ops a.tmps)=true) (ty:TypeId) (x:Operand) (ho:o.op=.load ty x) (b n:Nat) (hx:a.eval x=.pointer (some ⟨b,n,none⟩)) (cs:Array Value) (d:TypeDesc)
  (hS:∀ w,C w -> w.rangeAt b n cs.toList) (hu:P.underlying ty=some d) (hd:d.isRow=true) (hi:(P.info? ty).map (·.size)=some cs.toList.length)
  (h:wpS P ops C Q r (a.put o.dst (.agg cs)) w):wpS P ops C Q ((o,true)::r) a w:=by
 obtain ⟨cs⟩:=cs;exact ⟨_,yieldsIf_load_mid hw ty x ho b n hx cs d hS hu hd hi,h⟩
theorem zbJ {w w':World} {b n:Nat} {cs:List Value} (h:w.rangeAt b n cs) (hx:Ext w w'):w'.rangeAt b n cs:=fun i u hu=>hx.cell (h i u hu) (fun h=>h)
end Cdk
namespace Go.Proofs.YtjjfphalcibjfaaGreatDoor
open Go.Shelf Go.RowKit Cdk Scr
theorem zhT (w:World) (hG:Gl w):Calls Tryz.prog 12 #[] w fun e w'=>e=.returned (.bool true)/\Ext w w':=by
 have hp1:=parse_any sS1 (by decide) w hG;unfold PaP at hp1;rw [zn6] at hp1;unfold PaE at hp1;simp only at hp1;replace hp1:=hid hp1;replace hG:=hid hG;go_enter Tryz.func12,Tryz.ntmps12;go_wp2_with fail
 refine hp1.out.mono ?_;rintro e w1 ⟨hx1,ao,cap,rfl,hA1⟩;have hl3:[sA0,sA1,sA2].length=3:=rfl;rw [hl3] at hA1 ⊢;have hG1:=hid (hG.out.ext hx1);have hpr:=hid (print_any (.slice ao 3 cap) [sA0,sA1,sA2] w1 hG1.out (hA1.mono (fun k hk=>hk.2)));replace hx1:=hid hx1;replace hA1:=hid hA1;clear hp1 hl3;go_wp2_with fail
 refine hpr.out.mono ?_;rintro e w2 ⟨hr,hx2⟩;unfold zcd at hr;rw [zn9] at hr;simp only at hr;rw [show (⟨sS2.toArray⟩:ByteArray)=⟨#[112,117,98,108,105,115,104,32,51,32,49,48,47,50,44,52,47,49,47,48,10,115,101,97,114,99,104,32,49,32,53,32,114,97,105,110,32,45,99,105,116,121,10,99,114,97,115,104,32,45,49,32,48,44,50,10]⟩ from rfl] at hr;subst hr;have hG2:=hid (hG1.out.ext hx2);have hp3:=parse_any sS3 (by decide) w2 hG2.out;unfold PaP at hp3;rw [znZ] at hp3;unfold PaE at hp3;simp only at hp3;replace hp3:=hid hp3;replace hx2:=hid hx2;clear hpr;go_wp2_with fail
 refine hp3.out.mono ?_;rintro e w3 ⟨hx3,rfl⟩;have hA3:=(hA1.out.ext (hx2.out.trans hx3));have hxx:=hid ((hx1.out.trans hx2.out).trans hx3);have hlow:=hid (hA3.mono (F':=fun k=>k < w3.heap.size) (fun k hk=>Nat.lt_of_lt_of_le hk.2 (hx2.out.trans hx3).size));clear hA3 hp3 hx1 hx2 hx3 hA1 hG1 hG2;obtain ⟨b,off,cap',s0,e,-,hA0,hc0⟩:=hlow.out.get (j:=0) (by decide);injection e with e1 e2 e3
 subst e1 e3;obtain ⟨b',off',cap'',s1,e,-,hA1,hc1⟩:=hlow.out.get (j:=1) (by decide);injection e with e1 e2 e3
 injection e1 with e1
 injection e1 with e1 e4
 subst e1 e4 e3;obtain ⟨b',off',cap'',s2,e,-,hA2,hc2⟩:=hlow.out.get (j:=2) (by decide);injection e with e1 e2 e3
 injection e1 with e1
 injection e1 with e1 e4
 subst e1 e4 e3;obtain ⟨a01,n01,c01,a02,n02,c02,a03,n03,c03,a04,n04,c04,a05,n05,c05,rfl⟩:=zbF hA0;obtain ⟨a11,n11,c11,a12,n12,c12,a13,n13,c13,a14,n14,c14,a15,n15,c15,rfl⟩:=zbF hA1;obtain ⟨a21,n21,c21,a22,n22,c22,a23,n23,c23,a24,n24,c24,a25,n25,c25,rfl⟩:=zbF hA2;have hn:n03=2:=by
  obtain ⟨x,y,e⟩:=hA0.fc.af.slice;injection e with _ e _
 subst hn;have f0:w3.cell? ⟨b,off+12,none⟩=some (.int .i64 10):=by have:=hc0 12 _ (by decide) rfl;exact this
 have f1:w3.cell? ⟨b,off+13,none⟩=some (.slice a03 2 c03):=by have:=hc0 13 _ (by decide) rfl;simpa using this
 have f2:w3.cell? ⟨b,off+62,none⟩=some (.string ⟨#[114,97,105,110,32,45,99,105,116,121]⟩):=by have:=hc1 26 _ (by decide) rfl;exact this
 obtain ⟨V0,hV0⟩:∃ V0,V0=acA a01 n01 c01 a02 n02 c02 a03 2 c03 a04 n04 c04 a05 n05 c05 sA0:=⟨_,rfl⟩;obtain ⟨V1,hV1⟩:∃ V1,V1=acA a11 n11 c11 a12 n12 c12 a13 n13 c13 a14 n14 c14 a15 n15 c15 sA1:=⟨_,rfl⟩;obtain ⟨V2,hV2⟩:∃ V2,V2=acA a21 n21 c21 a22 n22 c22 a23 n23 c23 a24 n24 c24 a25 n25 c25 sA2:=⟨_,rfl⟩;have r0:w3.rangeAt b off V0.toList:=fun i u hu=>by
  have hu':(acC ((⟨⟨.slice a01 n01 c01,.slice a02 n02 c02,.slice a03 2 c03⟩,.slice a04 n04 c04,.slice a05 n05 c05⟩:AV),sA0))[i]?=some u:=by rw [hV0] at hu;exact hu
  have:=hc0 i u (List.getElem?_eq_some_iff.1 hu').1 hu';simpa using this
 have r1:w3.rangeAt b (off+36) V1.toList:=fun i u hu=>by
  have hu':(acC ((⟨⟨.slice a11 n11 c11,.slice a12 n12 c12,.slice a13 n13 c13⟩,.slice a14 n14 c14,.slice a15 n15 c15⟩:AV),sA1))[i]?=some u:=by rw [hV1] at hu;exact hu
  have:=hc1 i u (List.getElem?_eq_some_iff.1 hu').1 hu';simpa using this
 have r2:w3.rangeAt b (off+72) V2.toList:=fun i u hu=>by
  have hu':(acC ((⟨⟨.slice a21 n21 c21,.slice a22 n22 c22,.slice a23 n23 c23⟩,.slice a24 n24 c24,.slice a25 n25 c25⟩:AV),sA2))[i]?=some u:=by rw [hV2] at hu;exact hu
  have:=hc2 i u (List.getElem?_eq_some_iff.1 hu').1 hu';simpa using this
 have i0:Hid ((Tryz.prog.info? 32).map (·.size)=some V0.toList.length):=hid (by rw [hV0];kernel_rfl);have i1:Hid ((Tryz.prog.info? 32).map (·.size)=some V1.toList.length):=hid (by rw [hV1];kernel_rfl);have i2:Hid ((Tryz.prog.info? 32).map (·.size)=some V2.toList.length):=hid (by rw [hV2];kernel_rfl);have hval:=zcN a01 n01 c01 a02 n02 c02 a03 2 c03 a04 n04 c04 a05 n05 c05 sA0 w3.drew ((hA0.ext (Mod.drew0 (fun _=>False) w3)));rw [znV,<- hV0] at hval;have hs22:=fun W (hX:Ext w3 W)=>zbU a21 n21 c21 a22 n22 c22 a23 n23 c23 a24 n24 c24 a25 n25 c25 sA2 a21 n21 c21 a22 n22 c22 a23 n23 c23 a24 n24 c24 a25 n25 c25 sA2 W (hA2.ext hX) (hA2.ext hX)
 have hs01:=fun W (hX:Ext w3 W)=>zbU a01 n01 c01 a02 n02 c02 a03 2 c03 a04 n04 c04 a05 n05 c05 sA0 a11 n11 c11 a12 n12 c12 a13 n13 c13 a14 n14 c14 a15 n15 c15 sA1 W (hA0.ext hX) (hA1.ext hX)
 simp only [<- hV0,<- hV1,<- hV2,znW,decide_true] at hs22 hs01;replace hval:=hid hval;replace hs22:=hid hs22;replace hs01:=hid hs01;replace r0:=hid r0;replace r1:=hid r1;replace r2:=hid r2;replace hV0:=hid hV0;replace hV1:=hid hV1;replace hV2:=hid hV2;have t0:V0.toList.toArray=V0:=by simp
 have t1:V1.toList.toArray=V1:=by simp
 have t2:V2.toList.toArray=V2:=by simp
 replace t0:=hid t0;replace t1:=hid t1;replace t2:=hid t2;clear hc0 hc1 hc2 hA0 hA1 hA2;replace hlow:=hid hlow;go_upto_region 4 with fail
 simp only [List.append_eq,List.cons_append,List.nil_append];refine zad (fun W=>Ext w3 W) [(0,true),(1,true),(2,true),(3,true),(4,true),(5,true),(6,true),(7,true),(8,true),(9,true),(10,true),(11,true),(12,true),(13,true),(14,true),(15,true),(16,true),(17,true),(18,true),(19,true),(20,true),(21,true),(22,true),(23,true),(24,true),(25,true),(26,true),(27,true),(28,true),(29,true),(30,true),(31,true),(32,true),(33,true),(34,true),(35,true),(36,true),(37,true),(38,true),(39,true),(40,true),(41,true),(42,true),(43,true),(44,true),(45,true),(46,true),(47,true),(48,true),(49,true),(50,true),(51,true),(52,true),(53,true),(54,true),(55,true),(56,true),(57,false),(58,true),(59,true),(60,true),(61,true),(62,true),(63,true),(64,true),(65,true),(66,false),(67,true),(68,true),(69,true),(70,true),(71,true),(72,true),(73,true),(74,true),(75,false),(76,true),(77,true),(78,true)]
  (by as_aux_lemma=>kernel_rfl) (by as_aux_lemma=>kernel_rfl) (by as_aux_lemma=>kernel_rfl) (by decide) (Mod.drew0 (fun _=>False) w3) ?_
 simp only [zak,List.map_cons,List.map_nil,List.getD_cons_zero,List.getD_cons_succ];have hy4:=hid (Mod.drew0 (fun _=>False) w3)
 iterate 56 (refine zaB (by rfl) ?_ (fun w' hC=>?_) ?_;rotate_left;(have q0:w'.cell? ⟨b,off+12,none⟩=some (.int .i64 10):=hC.cell f0 (fun h=>h);have q1:w'.cell? ⟨b,off+13,none⟩=some (.slice a03 2 c03):=hC.cell f1 (fun h=>h);have q2:=hC.cell f2 (fun h=>h);go_simp;try with_reducible rfl);try simp only [Act.put,sA,sZ,sS])
 refine zcJ (by rfl) 32 _ rfl b off rfl V0 _ (fun W hW=>zbJ r0.out hW) Tryz.underlying32 rfl i0.out ?_;try simp only [Act.put,sA,sZ,sS]
 refine zaj (by rfl) (fun K hK=>?_);go_simp;refine (hval.out).mono ?_;rintro e w5 ⟨rfl,hxn⟩;refine hK.out _ _ (hy4.out.trans hxn) ?_;have hy5:=hid (hy4.out.trans hxn);clear hK K hxn;try simp only [Act.put,sA,sZ,sS]
 iterate 4 (refine zaB (by rfl) ?_ (fun w' hC=>?_) ?_;rotate_left;(have q0:w'.cell? ⟨b,off+12,none⟩=some (.int .i64 10):=hC.cell f0 (fun h=>h);have q1:w'.cell? ⟨b,off+13,none⟩=some (.slice a03 2 c03):=hC.cell f1 (fun h=>h);have q2:=hC.cell f2 (fun h=>h);go_simp;try with_reducible rfl);try simp only [Act.put,sA,sZ,sS])
 refine zcJ (by rfl) 32 _ rfl b (off+72) rfl V2 _ (fun W hW=>zbJ r2.out hW) Tryz.underlying32 rfl i2.out ?_;try simp only [Act.put,sA,sZ,sS]
 iterate 2 (refine zaB (by rfl) ?_ (fun w' hC=>?_) ?_;rotate_left;(have q0:w'.cell? ⟨b,off+12,none⟩=some (.int .i64 10):=hC.cell f0 (fun h=>h);have q1:w'.cell? ⟨b,off+13,none⟩=some (.slice a03 2 c03):=hC.cell f1 (fun h=>h);have q2:=hC.cell f2 (fun h=>h);go_simp;try with_reducible rfl);try simp only [Act.put,sA,sZ,sS])
 refine zcJ (by rfl) 32 _ rfl b (off+72) rfl V2 _ (fun W hW=>zbJ r2.out hW) Tryz.underlying32 rfl i2.out ?_;try simp only [Act.put,sA,sZ,sS]
 refine zaj (by rfl) (fun K hK=>?_);go_simp;refine (hs22.out _ hy5.out).mono ?_;rintro e w6 ⟨rfl,hxn⟩;refine hK.out _ _ (hy5.out.trans hxn) ?_;have hy6:=hid (hy5.out.trans hxn);clear hK K hxn;try simp only [Act.put,sA,sZ,sS]
 iterate 4 (refine zaB (by rfl) ?_ (fun w' hC=>?_) ?_;rotate_left;(have q0:w'.cell? ⟨b,off+12,none⟩=some (.int .i64 10):=hC.cell f0 (fun h=>h);have q1:w'.cell? ⟨b,off+13,none⟩=some (.slice a03 2 c03):=hC.cell f1 (fun h=>h);have q2:=hC.cell f2 (fun h=>h);go_simp;try with_reducible rfl);try simp only [Act.put,sA,sZ,sS])
 refine zcJ (by rfl) 32 _ rfl b off rfl V0 _ (fun W hW=>zbJ r0.out hW) Tryz.underlying32 rfl i0.out ?_;try simp only [Act.put,sA,sZ,sS]
 iterate 2 (refine zaB (by rfl) ?_ (fun w' hC=>?_) ?_;rotate_left;(have q0:w'.cell? ⟨b,off+12,none⟩=some (.int .i64 10):=hC.cell f0 (fun h=>h);have q1:w'.cell? ⟨b,off+13,none⟩=some (.slice a03 2 c03):=hC.cell f1 (fun h=>h);have q2:=hC.cell f2 (fun h=>h);go_simp;try with_reducible rfl);try simp only [Act.put,sA,sZ,sS])
 refine zcJ (by rfl) 32 _ rfl b (off+36) rfl V1 _ (fun W hW=>zbJ r1.out hW) Tryz.underlying32 rfl i1.out ?_;try simp only [Act.put,sA,sZ,sS]
 refine zaj (by rfl) (fun K hK=>?_);go_simp;refine (hs01.out _ hy6.out).mono ?_;rintro e w7 ⟨rfl,hxn⟩;refine hK.out _ _ (hy6.out.trans hxn) ?_;have hy7:=hid (hy6.out.trans hxn);clear hK K hxn;try simp only [Act.put,sA,sZ,sS]
 iterate 3 (refine zaB (by rfl) ?_ (fun w' hC=>?_) ?_;rotate_left;(have q0:w'.cell? ⟨b,off+12,none⟩=some (.int .i64 10):=hC.cell f0 (fun h=>h);have q1:w'.cell? ⟨b,off+13,none⟩=some (.slice a03 2 c03):=hC.cell f1 (fun h=>h);have q2:=hC.cell f2 (fun h=>h);go_simp;try with_reducible rfl);try simp only [Act.put,sA,sZ,sS])
 refine zas ?_;go_wp2_with fail
 go_ret;exact ⟨rfl,hxx.out.trans hy7.out⟩
def LnP (s:Bs) (pre:List Bs) (k j:Nat):Prop:=(k<=j/\j<=s.length/\parts 10 s=pre++parts 10 (s.drop k)/\(10:UInt8) ∉ (s.drop k).take (j - k)) \/ (j=s.length+1/\pre=parts 10 s)
theorem LnP.cut {s:Bs} {pre:List Bs} {k j:Nat} (h:LnP s pre k j) (hj:j < s.length) (hc:s[j]=10):LnP s (pre++[(s.drop k).take (j - k)]) (j+1) (j+1):=by
 rcases h with ⟨h1,h2,h3,h4⟩ | ⟨h1,-⟩
 ·have e:s.drop k=(s.drop k).take (j - k)++10::s.drop (j+1):=by
   have e1:(s.drop k).drop (j - k)=10::s.drop (j+1):=by
    rw [List.drop_drop,show k+(j - k)=j by omega,List.drop_eq_getElem_cons hj,hc]
   rw [<- e1,List.take_append_drop]
  refine .inl ⟨Nat.le_refl _,by omega,?_,by simp⟩;rw [h3,e,zgd _ h4,<- e];simp
 ·omega
def shA (a:Ac):Ac:={ a with fa:=a.fa.take 70,ke:=a.ke.take 70,fc:={ a.fc with bl:=a.fc.bl.take 5 },tx:=a.tx.take 400,ms:={ a.ms with da:=a.ms.da.take 400 } }
theorem zma (t:Bs):(⟨t.toArray⟩:ByteArray).extract 0 (min (t.length:Int) 400).toNat=⟨(t.take 400).toArray⟩:=by
 rw [zhw,List.drop_zero]
 by_cases h:400<=t.length
 ·rw [show (min (t.length:Int) 400).toNat=400 by omega]
 ·rw [show (min (t.length:Int) 400).toNat=t.length by omega,List.take_length,List.take_of_length_le (by omega)]
theorem zdq {α:Type} {F:Nat -> Prop} {w:World} {f:α -> List Value} {a:Option Addr} {n c:Nat} {l:List α} (h:zai F w f (.slice a n c) l) (size:Nat) (hf:∀ x,(f x).length=size) (L:Nat):n=l.length/\(L<=n -> L<=c)/\zai F w f (.slice a (min n L) c) (l.take L):=by
 have hn:n=l.length:=by obtain ⟨x,y,e⟩:=h.slice;injection e
 subst hn
 by_cases hl:L<=l.length
 ·obtain ⟨x,y,e,h1,h2⟩:=h.take size hf hl
  injection e with e1 _ e3
  subst e1 e3;rw [Nat.min_eq_right hl];exact ⟨rfl,fun _=>h1,h2⟩
 ·rw [Nat.min_eq_left (by omega),List.take_of_length_le (by omega)]
  exact ⟨rfl,fun h=>absurd h hl,h⟩
theorem zf2 {F:Nat -> Prop} {w:World} {a:Option Addr} {n c:Nat} {l:List Bk} (h:zaD F w (.slice a n c) l) (L:Nat):n=l.length/\(L<=n -> L<=c)/\zaD F w (.slice a (min n L) c) (l.take L):=by
 have hn:=h.count;subst hn
 by_cases hl:L<=l.length
 ·obtain ⟨x,y,e,h1,h2⟩:=h.take hl
  injection e with e1 _ e3
  subst e1 e3;rw [Nat.min_eq_right hl];exact ⟨rfl,fun _=>h1,h2⟩
 ·rw [Nat.min_eq_left (by omega),List.take_of_length_le (by omega)]
  exact ⟨rfl,fun h=>absurd h hl,h⟩
theorem short_any {F:Nat -> Prop} (a1:Option Addr) (n1 c1:Nat) (a2:Option Addr) (n2 c2:Nat) (a3:Option Addr) (n3 c3:Nat) (a4:Option Addr) (n4 c4:Nat) (a5:Option Addr) (n5 c5:Nat) (a:Ac) (w:World) (h:AcAt F w ⟨⟨.slice a1 n1 c1,.slice a2 n2 c2,.slice a3 n3 c3⟩,.slice a4 n4 c4,.slice a5 n5 c5⟩ a) (htx:a.tx.length < 4611686018427387904) (hda:a.ms.da.length < 4611686018427387904):
  Calls Tryz.prog 13 #[.agg (acA a1 n1 c1 a2 n2 c2 a3 n3 c3 a4 n4 c4 a5 n5 c5 a)] w fun e w'=>e=.returned (.agg (acA a1 n1 c1 a2 (min n2 5) c2 a3 n3 c3 a4 (min n4 70) c4 a5 (min n5 70) c5 (shA a))) ∧
   AcAt F w' ⟨⟨.slice a1 n1 c1,.slice a2 (min n2 5) c2,.slice a3 n3 c3⟩,.slice a4 (min n4 70) c4,.slice a5 (min n5 70) c5⟩ (shA a)/\Ext w w':=by
 obtain ⟨e4,q4,h4⟩:=zdq h.fa 1 zbb 70;obtain ⟨e5,q5,h5⟩:=zdq h.ke 1 zbb 70;obtain ⟨e2,q2,h2⟩:=zf2 h.fc.bl 5;have hAc:AcAt F w ⟨⟨.slice a1 n1 c1,.slice a2 (min n2 5) c2,.slice a3 n3 c3⟩,.slice a4 (min n4 70) c4,.slice a5 (min n5 70) c5⟩ (shA a):=⟨⟨h.fc.tp,h2,h.fc.af⟩,h4,h5⟩;replace hAc:=hid hAc;clear h h2 h4 h5 e2 e4 e5;obtain ⟨T,hT⟩:∃ T,T=w.heap.size:=⟨_,rfl⟩;obtain ⟨V0,hV0⟩:∃ V0,V0=acA a1 n1 c1 a2 n2 c2 a3 n3 c3 a4 n4 c4 a5 n5 c5 a:=⟨_,rfl⟩;rw [<- hV0];have hs0:Hid (V0.size=36):=hid (by rw [hV0];rfl);have hx0:=((Mod.refl (fun k=>T<=k) w).alloc (.cells V0 32)).alloc (.cells zA9 32);have hTc:((w.alloc (.cells V0 32)).alloc (.cells zA9 32)).heap[T]?=some (.cells V0 32 (0,0)):=by rw [zaA,World.size_alloc,hT,if_neg (by omega)];exact heap_alloc_new w _
 have hUc:((w.alloc (.cells V0 32)).alloc (.cells zA9 32)).heap[T+1]?=some (.cells zA9 32 (0,0)):=by rw [hT];have:=heap_alloc_new (w.alloc (.cells V0 32)) (.cells zA9 32);rwa [World.size_alloc] at this
 have hwT:w.heap.size<=T:=Nat.le_of_eq hT.symm;replace hx0:=hid hx0;replace hTc:=hid hTc;replace hUc:=hid hUc;replace hV0:=hid hV0;go_enter Tryz.func13,Tryz.ntmps13;go_upto_region 1 with fail
 try simp only [World.size_alloc]
 rw [<- hT];generalize ((w.alloc (.cells V0 32)).alloc (.cells zA9 32))=w0 at hTc hUc hx0 ⊢;replace hT:=hid hT;have f:w0.cell? ⟨T,27,none⟩=some (.slice a4 n4 c4):=(zaa hTc.out 27).trans (by rw [hV0.out];rfl);obtain ⟨V1,hV1⟩:∃ V,V=acA a1 n1 c1 a2 n2 c2 a3 n3 c3 a4 (min n4 70) c4 a5 n5 c5 a:=⟨_,rfl⟩
 by_cases g:70 < n4
 case' pos=>
  have gi:(70:Int) < (n4:Int):=by omega
  have gc:(70:Int)<=(c4:Int):=by have:=q4 (by omega);omega
  have gn:70<=c4:=by have:=q4 (by omega);omega
  have z:=zac hTc.out;have p:=zae hTc.out 27 (.slice a4 70 c4);have m:Mod (fun k=>k=T) w0 (w0.setCell ⟨T,27,none⟩ (.slice a4 70 c4)):=(Mod.refl (fun k=>k=T) w0).setCell (a:=⟨T,27,none⟩) (fun _=>rfl) (.slice a4 70 c4);rw [show V0.setIfInBounds 27 (.slice a4 70 c4)=V1 by rw [hV0.out,hV1,show min n4 70=70 by omega];rfl] at p;replace hUc:=hid (m.at hUc.out (by omega));replace hx0:=hid (hx0.out.trans (m.mono (T:=fun k=>T<=k) (fun k hk=>by omega)));replace hTc:=hid p;clear m p;replace hV1:=hid hV1;go_upto_region 3 with fail
  clear z gi gc gn;generalize w0.setCell ⟨T,27,none⟩ (.slice a4 70 c4)=w1 at hTc hUc hx0 ⊢
 case' neg=>
  have gi:¬ (70:Int) < (n4:Int):=by omega
  have e:V0=V1:=by rw [hV0.out,hV1,show min n4 70=n4 by omega]
  replace hTc:=hid (e ▸ hTc.out);replace hV1:=hid hV1;go_upto_region 3 with fail
  clear gi e;generalize w0=w1 at hTc hUc hx0 ⊢
 all_goals
  clear f g;have f:w1.cell? ⟨T,28,none⟩=some (.slice a5 n5 c5):=(zaa hTc.out 28).trans (by rw [hV1.out];rfl);obtain ⟨V2,hV2⟩:∃ V,V=acA a1 n1 c1 a2 n2 c2 a3 n3 c3 a4 (min n4 70) c4 a5 (min n5 70) c5 a:=⟨_,rfl⟩
  by_cases g:70 < n5
  case' pos=>
   have gi:(70:Int) < (n5:Int):=by omega
   have gc:(70:Int)<=(c5:Int):=by have:=q5 (by omega);omega
   have gn:70<=c5:=by have:=q5 (by omega);omega
   have z:=zac hTc.out;have p:=zae hTc.out 28 (.slice a5 70 c5);have m:Mod (fun k=>k=T) w1 (w1.setCell ⟨T,28,none⟩ (.slice a5 70 c5)):=(Mod.refl (fun k=>k=T) w1).setCell (a:=⟨T,28,none⟩) (fun _=>rfl) (.slice a5 70 c5);rw [show V1.setIfInBounds 28 (.slice a5 70 c5)=V2 by rw [hV1.out,hV2,show min n5 70=70 by omega];rfl] at p;replace hUc:=hid (m.at hUc.out (by omega));replace hx0:=hid (hx0.out.trans (m.mono (T:=fun k=>T<=k) (fun k hk=>by omega)));replace hTc:=hid p;clear m p;replace hV2:=hid hV2;go_upto_region 5 with fail
   clear z gi gc gn;generalize w1.setCell ⟨T,28,none⟩ (.slice a5 70 c5)=w2 at hTc hUc hx0 ⊢
  case' neg=>
   have gi:¬ (70:Int) < (n5:Int):=by omega
   have e:V1=V2:=by rw [hV1.out,hV2,show min n5 70=n5 by omega]
   replace hTc:=hid (e ▸ hTc.out);replace hV2:=hid hV2;go_upto_region 5 with fail
   clear gi e;generalize w1=w2 at hTc hUc hx0 ⊢
  all_goals
   clear f g;have f:w2.cell? ⟨T,11,none⟩=some (.slice a2 n2 c2):=(zaa hTc.out 11).trans (by rw [hV2.out];rfl);obtain ⟨V3,hV3⟩:∃ V,V=acA a1 n1 c1 a2 (min n2 5) c2 a3 n3 c3 a4 (min n4 70) c4 a5 (min n5 70) c5 a:=⟨_,rfl⟩
   by_cases g:5 < n2
   case' pos=>
    have gi:(5:Int) < (n2:Int):=by omega
    have gc:(5:Int)<=(c2:Int):=by have:=q2 (by omega);omega
    have gn:5<=c2:=by have:=q2 (by omega);omega
    have z:=zac hTc.out;have p:=zae hTc.out 11 (.slice a2 5 c2);have m:Mod (fun k=>k=T) w2 (w2.setCell ⟨T,11,none⟩ (.slice a2 5 c2)):=(Mod.refl (fun k=>k=T) w2).setCell (a:=⟨T,11,none⟩) (fun _=>rfl) (.slice a2 5 c2);rw [show V2.setIfInBounds 11 (.slice a2 5 c2)=V3 by rw [hV2.out,hV3,show min n2 5=5 by omega];rfl] at p;replace hUc:=hid (m.at hUc.out (by omega));replace hx0:=hid (hx0.out.trans (m.mono (T:=fun k=>T<=k) (fun k hk=>by omega)));replace hTc:=hid p;clear m p;replace hV3:=hid hV3;go_upto_region 7 with fail
    clear z gi gc gn;generalize w2.setCell ⟨T,11,none⟩ (.slice a2 5 c2)=w3 at hTc hUc hx0 ⊢
   case' neg=>
    have gi:¬ (5:Int) < (n2:Int):=by omega
    have e:V2=V3:=by rw [hV2.out,hV3,show min n2 5=n2 by omega]
    replace hTc:=hid (e ▸ hTc.out);replace hV3:=hid hV3;go_upto_region 7 with fail
    clear gi e;generalize w2=w3 at hTc hUc hx0 ⊢
   all_goals
    clear f g;have t26:w3.cell? ⟨T,26,none⟩=some (.string ⟨a.tx.toArray⟩):=(zaa hTc.out 26).trans (by rw [hV3.out];rfl);have z26:=zac hTc.out;have x26:=zma a.tx;have l26:(0:Int)<=min (a.tx.length:Int) 400/\min (a.tx.length:Int) 400<=(a.tx.length:Int):=by omega
    have p26:=zae hTc.out 26 (.string ⟨(a.tx.take 400).toArray⟩);have m26:Mod (fun k=>k=T) w3 (w3.setCell ⟨T,26,none⟩ (.string ⟨(a.tx.take 400).toArray⟩)):=(Mod.refl (fun k=>k=T) w3).setCell (a:=⟨T,26,none⟩) (fun _=>rfl) (.string ⟨(a.tx.take 400).toArray⟩);obtain ⟨VX,hVX⟩:∃ V,V=acA a1 n1 c1 a2 (min n2 5) c2 a3 n3 c3 a4 (min n4 70) c4 a5 (min n5 70) c5 { a with tx:=a.tx.take 400 }:=⟨_,rfl⟩;rw [show V3.setIfInBounds 26 (.string ⟨(a.tx.take 400).toArray⟩)=VX by rw [hV3.out,hVX];rfl] at p26;have u26:=hid (m26.at hUc.out (by omega));have y26:=hid (hx0.out.trans (m26.mono (T:=fun k=>T<=k) (fun k hk=>by omega)));replace p26:=hid p26;replace hVX:=hid hVX;clear m26 hTc hUc hx0;go_upto_region 8 with fail
    clear t26 z26 x26 l26;generalize w3.setCell ⟨T,26,none⟩ (.string ⟨(a.tx.take 400).toArray⟩)=wx at p26 u26 y26 ⊢;have t35:wx.cell? ⟨T,35,none⟩=some (.string ⟨a.ms.da.toArray⟩):=(zaa p26.out 35).trans (by rw [hVX.out];rfl);have z35:=zac p26.out;have x35:=zma a.ms.da;have p35:=zae p26.out 35 (.string ⟨(a.ms.da.take 400).toArray⟩);have m35:Mod (fun k=>k=T) wx (wx.setCell ⟨T,35,none⟩ (.string ⟨(a.ms.da.take 400).toArray⟩)):=(Mod.refl (fun k=>k=T) wx).setCell (a:=⟨T,35,none⟩) (fun _=>rfl) (.string ⟨(a.ms.da.take 400).toArray⟩);obtain ⟨VY,hVY⟩:∃ V,V=acA a1 n1 c1 a2 (min n2 5) c2 a3 n3 c3 a4 (min n4 70) c4 a5 (min n5 70) c5 (shA a):=⟨_,rfl⟩;rw [show VX.setIfInBounds 35 (.string ⟨(a.ms.da.take 400).toArray⟩)=VY by rw [hVX.out,hVY];rfl] at p35;have u35:=hid (m35.at u26.out (by omega));have y35:=hid (y26.out.trans (m35.mono (T:=fun k=>T<=k) (fun k hk=>by omega)));have sY:Hid (VY.size=36):=hid (by rw [hVY];rfl);have oY:Hid (VY.toList.all (·.oneCell')=true):=hid (by rw [hVY];rfl);replace p35:=hid p35;replace hVY:=hid hVY;clear m35 p26 u26 y26;go_upto_region 9 with fail
    clear t35 z35 x35;generalize wx.setCell ⟨T,35,none⟩ (.string ⟨(a.ms.da.take 400).toArray⟩)=wy at p35 u35 y35 ⊢;go_wp2_with (first | (refine zal (by rfl) 32 _ rfl T VY _ _ _ rfl p35.out Tryz.underlying32 rfl (by rw [sY.out];kernel_rfl) ?_) | (refine zab rfl 32 _ _ rfl (T+1) _ VY 32 rfl rfl u35.out (by rw [sY.out];rfl) (by rw [sY.out];kernel_rfl) oY.out (fun WE HE=>?_)))
    refine bodyPost_ret (results_cell_row rfl _ _ (T+1) _ _ _ _ rfl HE.out.1 Tryz.underlying32 rfl (by rw [sY.out];kernel_rfl)) rfl ?_;have hxE:=zaG (B:=T) hwT (y35.out.trans (HE.out.2.mono (T:=fun k=>T<=k) (fun k hk=>by omega)));exact ⟨by rw [hVY.out],hAc.out.ext hxE,hxE⟩
end Go.Proofs.YtjjfphalcibjfaaGreatDoor
