import Derived.Test.YtjjfphalcibjfaaGreatDoorD24
import Derived.Test.YtjjfphalcibjfaaGreatDoorC4
import Derived.Test.YtjjfphalcibjfaaGreatDoorTh2
import Derived.Test.YtjjfphalcibjfaaGreatDoorD15
set_option maxRecDepth 100000
set_option maxHeartbeats 16000000
namespace Scr
def sS1:Bs:=[35,32,97,32,114,101,109,97,114,107,10,112,117,98,108,105,115,104,32,51,32,49,48,47,50,44,52,47,49,47,48,10,10,115,101,97,114,99,104,32,49,32,53,32,114,97,105,110,32,45,99,105,116,121,10,99,114,97,115,104,32,45,49,32,48,44,50]
def sS2:Bs:=[112,117,98,108,105,115,104,32,51,32,49,48,47,50,44,52,47,49,47,48,10,115,101,97,114,99,104,32,49,32,53,32,114,97,105,110,32,45,99,105,116,121,10,99,114,97,115,104,32,45,49,32,48,44,50,10]
def sS3:Bs:=[99,104,101,99,107,10,116,105,99,107,32,48,10]
def sA0:Ac:={ Ac.zero with kd:=1,fc:={ Fc.zero with kd:=3,st:=3,lb:=⟨10,[2,4],1,0⟩ } }
def sA1:Ac:={ Ac.zero with kd:=7,cl:=1,n:=5,tx:=[114,97,105,110,32,45,99,105,116,121] }
def sA2:Ac:={ Ac.zero with kd:=5,n:=-1,ke:=[0,2] }
def zpQ (e:Except Nat (List Ac)) (l:List Ac):Bool:=match e with | .ok m=>decide (m=l) | .error _=>false
def zpO (e:Except Nat (List Ac)) (n:Nat):Bool:=match e with | .ok _=>false | .error m=>decide (m=n)
theorem zoj {e:Except Nat (List Ac)} {l:List Ac} (h:zpQ e l=true):e=.ok l:=by
 cases e with
 | ok m=>unfold zpQ at h;rw [of_decide_eq_true h]
 | error n=>cases h
theorem znC {e:Except Nat (List Ac)} {n:Nat} (h:zpO e n=true):e=.error n:=by
 cases e with
 | ok m=>cases h
 | error m=>unfold zpO at h;rw [of_decide_eq_true h]
theorem zpt:parse sS1=.ok [sA0,sA1,sA2]:=zoj (by decide+kernel)
theorem zpm:print [sA0,sA1,sA2]=some sS2:=by decide+kernel
theorem zpE:parse sS3=.error 2:=znC (by decide+kernel)
theorem zpp:vAc sA0=true:=by decide+kernel
theorem zpr:decide (sA0=sA1)=false:=by decide+kernel
end Scr
namespace Cdk
open Go Go.RowKit
theorem zb8 {P:Program} {ops:Array Oper} {C:World -> Prop} {o:Oper} {a:Act} {w:World} {Q:Exit -> Act -> World -> Prop} {r:List (Oper × Bool)} (hw:Region.wanted o (yielded ops a.tmps)=true) (ty:TypeId) (x:Operand) (ho:o.op=.load ty x) (b n:Nat) (hx:a.eval x=.pointer (some ⟨b,n,none⟩)) (cs:Array Value) (d:TypeDesc)
  (hS:∀ w,C w -> w.rangeAt b n cs.toList) (hu:P.underlying ty=some d) (hd:d.isRow=true) (hi:(P.info? ty).map (·.size)=some cs.toList.length)
  (h:wpS P ops C Q r (a.put o.dst (.agg cs)) w):wpS P ops C Q ((o,true)::r) a w:=by
 obtain ⟨cs⟩:=cs;exact ⟨_,yieldsIf_load_mid hw ty x ho b n hx cs d hS hu hd hi,h⟩
theorem zbA {w w':World} {b n:Nat} {cs:List Value} (h:w.rangeAt b n cs) (hx:Ext w w'):w'.rangeAt b n cs:=fun i u hu=>hx.cell (h i u hu) id
end Cdk
namespace Go.Proofs.YtjjfphalcibjfaaGreatDoor
open Go.Shelf Go.RowKit Cdk Scr
theorem zmT (w:World) (hG:Gl w):Calls Tryz.prog 12 #[] w fun e w'=>e=.returned (.bool true)/\Ext w w':=by
 have hp1:=parse_any sS1 (by decide) w hG;unfold PaP at hp1;rw [zpt] at hp1;unfold PaE at hp1;simp only at hp1;replace hp1:=Y hp1;replace hG:=Y hG;go_enter Tryz.func12,Tryz.ntmps12;go_wp2_with fail
 refine hp1.o.mono ?_;rintro e w1 ⟨hx1,ao,cap,rfl,hA1⟩;have hl3:[sA0,sA1,sA2].length=3:=rfl;rw [hl3] at hA1 ⊢;have hG1:=Y (hG.o.ext hx1);have hpr:=Y (print_any (.slice ao 3 cap) [sA0,sA1,sA2] w1 hG1.o (hA1.mono (fun k hk=>hk.2)));replace hx1:=Y hx1;replace hA1:=Y hA1;clear hp1 hl3;go_wp2_with fail
 refine hpr.o.mono ?_;rintro e w2 ⟨hr,hx2⟩;unfold zga at hr;rw [zpm] at hr;simp only at hr;rw [show (⟨sS2.toArray⟩:ByteArray)=⟨#[112,117,98,108,105,115,104,32,51,32,49,48,47,50,44,52,47,49,47,48,10,115,101,97,114,99,104,32,49,32,53,32,114,97,105,110,32,45,99,105,116,121,10,99,114,97,115,104,32,45,49,32,48,44,50,10]⟩ from rfl] at hr;subst hr;have hG2:=Y (hG1.o.ext hx2);have hp3:=parse_any sS3 (by decide) w2 hG2.o;unfold PaP at hp3;rw [zpE] at hp3;unfold PaE at hp3;simp only at hp3;replace hp3:=Y hp3;replace hx2:=Y hx2;clear hpr;go_wp2_with fail
 refine hp3.o.mono ?_;rintro e w3 ⟨hx3,rfl⟩;have hA3:=(hA1.o.ext (hx2.o.trans hx3));have hxx:=Y ((hx1.o.trans hx2.o).trans hx3);have hlow:=Y (hA3.mono (F':=fun k=>k < w3.heap.size) (fun k hk=>Nat.lt_of_lt_of_le hk.2 (hx2.o.trans hx3).size));clear hA3 hp3 hx1 hx2 hx3 hA1 hG1 hG2;obtain ⟨b,off,cap',s0,e,-,hA0,hc0⟩:=hlow.o.get (j:=0) (by decide);injection e with e1 e2 e3
 subst e1 e3;obtain ⟨b',off',cap'',s1,e,-,hA1,hc1⟩:=hlow.o.get (j:=1) (by decide);injection e with e1 e2 e3
 injection e1 with e1
 injection e1 with e1 e4
 subst e1 e4 e3;obtain ⟨b',off',cap'',s2,e,-,hA2,hc2⟩:=hlow.o.get (j:=2) (by decide);injection e with e1 e2 e3
 injection e1 with e1
 injection e1 with e1 e4
 subst e1 e4 e3;obtain ⟨a01,n01,c01,a02,n02,c02,a03,n03,c03,a04,n04,c04,a05,n05,c05,rfl⟩:=zbL hA0;obtain ⟨a11,n11,c11,a12,n12,c12,a13,n13,c13,a14,n14,c14,a15,n15,c15,rfl⟩:=zbL hA1;obtain ⟨a21,n21,c21,a22,n22,c22,a23,n23,c23,a24,n24,c24,a25,n25,c25,rfl⟩:=zbL hA2;have hn:n03=2:=by
  obtain ⟨x,y,e⟩:=hA0.fc.af.slice;injection e with _ e _
 subst hn;have f0:w3.cell? ⟨b,off+12,none⟩=some (.int .i64 10):=by have:=hc0 12 _ (by decide) rfl;exact this
 have f1:w3.cell? ⟨b,off+13,none⟩=some (.slice a03 2 c03):=by have:=hc0 13 _ (by decide) rfl;simpa using this
 have f2:w3.cell? ⟨b,off+62,none⟩=some (.string ⟨#[114,97,105,110,32,45,99,105,116,121]⟩):=by have:=hc1 26 _ (by decide) rfl;exact this
 obtain ⟨V0,hV0⟩:∃ V0,V0=acA a01 n01 c01 a02 n02 c02 a03 2 c03 a04 n04 c04 a05 n05 c05 sA0:=⟨_,rfl⟩;obtain ⟨V1,hV1⟩:∃ V1,V1=acA a11 n11 c11 a12 n12 c12 a13 n13 c13 a14 n14 c14 a15 n15 c15 sA1:=⟨_,rfl⟩;obtain ⟨V2,hV2⟩:∃ V2,V2=acA a21 n21 c21 a22 n22 c22 a23 n23 c23 a24 n24 c24 a25 n25 c25 sA2:=⟨_,rfl⟩;have r0:w3.rangeAt b off V0.toList:=fun i u hu=>by
  have hu':(acC ((⟨⟨.slice a01 n01 c01,.slice a02 n02 c02,.slice a03 2 c03⟩,.slice a04 n04 c04,.slice a05 n05 c05⟩:AV),sA0))[i]?=some u:=by rw [hV0] at hu;exact hu
  have:=hc0 i u (List.getElem?_eq_some_iff.1 hu').1 hu';simpa using this
 have r1:w3.rangeAt b (off+36) V1.toList:=fun i u hu=>by
  have hu':(acC ((⟨⟨.slice a11 n11 c11,.slice a12 n12 c12,.slice a13 n13 c13⟩,.slice a14 n14 c14,.slice a15 n15 c15⟩:AV),sA1))[i]?=some u:=by rw [hV1] at hu;exact hu
  have:=hc1 i u (List.getElem?_eq_some_iff.1 hu').1 hu';simpa using this
 have r2:w3.rangeAt b (off+72) V2.toList:=fun i u hu=>by
  have hu':(acC ((⟨⟨.slice a21 n21 c21,.slice a22 n22 c22,.slice a23 n23 c23⟩,.slice a24 n24 c24,.slice a25 n25 c25⟩:AV),sA2))[i]?=some u:=by rw [hV2] at hu;exact hu
  have:=hc2 i u (List.getElem?_eq_some_iff.1 hu').1 hu';simpa using this
 have i0:Hid ((Tryz.prog.info? 32).map (·.size)=some V0.toList.length):=Y (by rw [hV0];kernel_rfl);have i1:Hid ((Tryz.prog.info? 32).map (·.size)=some V1.toList.length):=Y (by rw [hV1];kernel_rfl);have i2:Hid ((Tryz.prog.info? 32).map (·.size)=some V2.toList.length):=Y (by rw [hV2];kernel_rfl);have hval:=zey a01 n01 c01 a02 n02 c02 a03 2 c03 a04 n04 c04 a05 n05 c05 sA0 w3.drew ((hA0.ext (Mod.drew0 (fun _=>False) w3)));rw [zpp,<- hV0] at hval;have hs22:=fun W (hX:Ext w3 W)=>zdE a21 n21 c21 a22 n22 c22 a23 n23 c23 a24 n24 c24 a25 n25 c25 sA2 a21 n21 c21 a22 n22 c22 a23 n23 c23 a24 n24 c24 a25 n25 c25 sA2 W (hA2.ext hX) (hA2.ext hX)
 have hs01:=fun W (hX:Ext w3 W)=>zdE a01 n01 c01 a02 n02 c02 a03 2 c03 a04 n04 c04 a05 n05 c05 sA0 a11 n11 c11 a12 n12 c12 a13 n13 c13 a14 n14 c14 a15 n15 c15 sA1 W (hA0.ext hX) (hA1.ext hX)
 simp only [<- hV0,<- hV1,<- hV2,zpr,decide_true] at hs22 hs01;replace hval:=Y hval;replace hs22:=Y hs22;replace hs01:=Y hs01;replace r0:=Y r0;replace r1:=Y r1;replace r2:=Y r2;replace hV0:=Y hV0;replace hV1:=Y hV1;replace hV2:=Y hV2;have t0:V0.toList.toArray=V0:=by simp
 have t1:V1.toList.toArray=V1:=by simp
 have t2:V2.toList.toArray=V2:=by simp
 replace t0:=Y t0;replace t1:=Y t1;replace t2:=Y t2;clear hc0 hc1 hc2 hA0 hA1 hA2;replace hlow:=Y hlow;go_upto_region 4 with fail
 simp only [List.append_eq,List.cons_append,List.nil_append];refine rS (fun W=>Ext w3 W) [(0,true),(1,true),(2,true),(3,true),(4,true),(5,true),(6,true),(7,true),(8,true),(9,true),(10,true),(11,true),(12,true),(13,true),(14,true),(15,true),(16,true),(17,true),(18,true),(19,true),(20,true),(21,true),(22,true),(23,true),(24,true),(25,true),(26,true),(27,true),(28,true),(29,true),(30,true),(31,true),(32,true),(33,true),(34,true),(35,true),(36,true),(37,true),(38,true),(39,true),(40,true),(41,true),(42,true),(43,true),(44,true),(45,true),(46,true),(47,true),(48,true),(49,true),(50,true),(51,true),(52,true),(53,true),(54,true),(55,true),(56,true),(57,false),(58,true),(59,true),(60,true),(61,true),(62,true),(63,true),(64,true),(65,true),(66,false),(67,true),(68,true),(69,true),(70,true),(71,true),(72,true),(73,true),(74,true),(75,false),(76,true),(77,true),(78,true)] (Mod.drew0 (fun _=>False) w3) ?_;simp only [zah,List.map_cons,List.map_nil,List.getD_cons_zero,List.getD_cons_succ];have hy4:=Y (Mod.drew0 (fun _=>False) w3)
 iterate 56 (refine zav (by rfl) ?_ (fun w' hC=>?_) ?_;rotate_left;(have q0:w'.cell? ⟨b,off+12,none⟩=some (.int .i64 10):=hC.cell f0 id;have q1:w'.cell? ⟨b,off+13,none⟩=some (.slice a03 2 c03):=hC.cell f1 id;have q2:=hC.cell f2 id;go_simp;try with_reducible rfl);try simp only [Act.put,sA,sZ,sS])
 refine zb8 (by rfl) 32 _ rfl b off rfl V0 _ (fun W hW=>zbA r0.o hW) Tryz.underlying32 rfl i0.o ?_;try simp only [Act.put,sA,sZ,sS]
 refine zak (by rfl) (fun K hK=>?_);go_simp;refine (hval.o).mono ?_;rintro e w5 ⟨rfl,hxn⟩;refine hK.o _ _ (hy4.o.trans hxn) ?_;have hy5:=Y (hy4.o.trans hxn);clear hK K hxn;try simp only [Act.put,sA,sZ,sS]
 iterate 4 (refine zav (by rfl) ?_ (fun w' hC=>?_) ?_;rotate_left;(have q0:w'.cell? ⟨b,off+12,none⟩=some (.int .i64 10):=hC.cell f0 id;have q1:w'.cell? ⟨b,off+13,none⟩=some (.slice a03 2 c03):=hC.cell f1 id;have q2:=hC.cell f2 id;go_simp;try with_reducible rfl);try simp only [Act.put,sA,sZ,sS])
 refine zb8 (by rfl) 32 _ rfl b (off+72) rfl V2 _ (fun W hW=>zbA r2.o hW) Tryz.underlying32 rfl i2.o ?_;try simp only [Act.put,sA,sZ,sS]
 iterate 2 (refine zav (by rfl) ?_ (fun w' hC=>?_) ?_;rotate_left;(have q0:w'.cell? ⟨b,off+12,none⟩=some (.int .i64 10):=hC.cell f0 id;have q1:w'.cell? ⟨b,off+13,none⟩=some (.slice a03 2 c03):=hC.cell f1 id;have q2:=hC.cell f2 id;go_simp;try with_reducible rfl);try simp only [Act.put,sA,sZ,sS])
 refine zb8 (by rfl) 32 _ rfl b (off+72) rfl V2 _ (fun W hW=>zbA r2.o hW) Tryz.underlying32 rfl i2.o ?_;try simp only [Act.put,sA,sZ,sS]
 refine zak (by rfl) (fun K hK=>?_);go_simp;refine (hs22.o _ hy5.o).mono ?_;rintro e w6 ⟨rfl,hxn⟩;refine hK.o _ _ (hy5.o.trans hxn) ?_;have hy6:=Y (hy5.o.trans hxn);clear hK K hxn;try simp only [Act.put,sA,sZ,sS]
 iterate 4 (refine zav (by rfl) ?_ (fun w' hC=>?_) ?_;rotate_left;(have q0:w'.cell? ⟨b,off+12,none⟩=some (.int .i64 10):=hC.cell f0 id;have q1:w'.cell? ⟨b,off+13,none⟩=some (.slice a03 2 c03):=hC.cell f1 id;have q2:=hC.cell f2 id;go_simp;try with_reducible rfl);try simp only [Act.put,sA,sZ,sS])
 refine zb8 (by rfl) 32 _ rfl b off rfl V0 _ (fun W hW=>zbA r0.o hW) Tryz.underlying32 rfl i0.o ?_;try simp only [Act.put,sA,sZ,sS]
 iterate 2 (refine zav (by rfl) ?_ (fun w' hC=>?_) ?_;rotate_left;(have q0:w'.cell? ⟨b,off+12,none⟩=some (.int .i64 10):=hC.cell f0 id;have q1:w'.cell? ⟨b,off+13,none⟩=some (.slice a03 2 c03):=hC.cell f1 id;have q2:=hC.cell f2 id;go_simp;try with_reducible rfl);try simp only [Act.put,sA,sZ,sS])
 refine zb8 (by rfl) 32 _ rfl b (off+36) rfl V1 _ (fun W hW=>zbA r1.o hW) Tryz.underlying32 rfl i1.o ?_;try simp only [Act.put,sA,sZ,sS]
 refine zak (by rfl) (fun K hK=>?_);go_simp;refine (hs01.o _ hy6.o).mono ?_;rintro e w7 ⟨rfl,hxn⟩;refine hK.o _ _ (hy6.o.trans hxn) ?_;have hy7:=Y (hy6.o.trans hxn);clear hK K hxn;try simp only [Act.put,sA,sZ,sS]
 iterate 3 (refine zav (by rfl) ?_ (fun w' hC=>?_) ?_;rotate_left;(have q0:w'.cell? ⟨b,off+12,none⟩=some (.int .i64 10):=hC.cell f0 id;have q1:w'.cell? ⟨b,off+13,none⟩=some (.slice a03 2 c03):=hC.cell f1 id;have q2:=hC.cell f2 id;go_simp;try with_reducible rfl);try simp only [Act.put,sA,sZ,sS])
 refine zar ?_;go_wp2_with fail
 go_ret;exact ⟨rfl,hxx.o.trans hy7.o⟩
def LnP (s:Bs) (pre:List Bs) (k j:Nat):Prop:=(k<=j/\j<=s.length/\parts 10 s=pre++parts 10 (s.drop k)/\(10:UInt8) ∉ (s.drop k).take (j - k)) \/ (j=s.length+1/\pre=parts 10 s)
theorem LnP.cut {s:Bs} {pre:List Bs} {k j:Nat} (h:LnP s pre k j) (hj:j < s.length) (hc:s[j]=10):LnP s (pre++[(s.drop k).take (j - k)]) (j+1) (j+1):=by
 rcases h with ⟨h1,h2,h3,h4⟩ | ⟨h1,-⟩
 ·have e:s.drop k=(s.drop k).take (j - k)++10::s.drop (j+1):=by
   have e1:(s.drop k).drop (j - k)=10::s.drop (j+1):=by
    rw [List.drop_drop,show k+(j - k)=j by omega,List.drop_eq_getElem_cons hj,hc]
   rw [<- e1,List.take_append_drop]
  refine .inl ⟨Nat.le_refl _,by omega,?_,by simp⟩;rw [h3,e,zdW _ h4,<- e];simp
 ·omega
theorem LnP.pass {s:Bs} {pre:List Bs} {k j:Nat} (h:LnP s pre k j) (hj:j < s.length) (hc:s[j] ≠ 10):LnP s pre k (j+1):=by
 rcases h with ⟨h1,h2,h3,h4⟩ | ⟨h1,-⟩
 ·refine .inl ⟨by omega,by omega,h3,?_⟩
  have hjk:j - k < (s.drop k).length:=by rw [List.length_drop];omega
  rw [show j+1 - k=(j - k)+1 by omega,List.take_succ_eq_append_getElem hjk];simp only [List.mem_append,List.mem_singleton,not_or];refine ⟨h4,fun e=>hc ?_⟩;rw [List.getElem_drop] at e;have e2:k+(j - k)=j:=by omega
  simp only [e2] at e;exact e.symm
 ·omega
theorem LnP.last {s:Bs} {pre:List Bs} {k:Nat} (h:LnP s pre k s.length):LnP s (pre++[(s.drop k).take (s.length - k)]) (s.length+1) (s.length+1):=by
 rcases h with ⟨h1,h2,h3,h4⟩ | ⟨h1,-⟩
 ·have e:(s.drop k).take (s.length - k)=s.drop k:=List.take_of_length_le (by rw [List.length_drop];exact Nat.le_refl _)
  rw [e] at h4 ⊢;rw [zd7 h4] at h3;exact .inr ⟨rfl,h3.symm⟩
 ·omega
end Go.Proofs.YtjjfphalcibjfaaGreatDoor
namespace Scr
end Scr
namespace Go.Proofs.YtjjfphalcibjfaaGreatDoor
open Go.Shelf Go.RowKit Cdk Scr
end Go.Proofs.YtjjfphalcibjfaaGreatDoor
namespace Scr
def kept (L:List Bs):Bs:=(L.filter (fun t=>!skip t)).flatMap (fun t=>t++[10])
end Scr
namespace Go.Proofs.YtjjfphalcibjfaaGreatDoor
open Go.Shelf Go.RowKit Cdk Scr
theorem zpV (N:Nat) (t:Bs):(⟨t.toArray⟩:ByteArray).extract 0 (min (t.length:Int) (N:Int)).toNat=⟨(t.take N).toArray⟩:=by
 rw [zdD,List.drop_zero]
 by_cases h:N<=t.length
 ·rw [show (min (t.length:Int) (N:Int)).toNat=N by omega]
 ·rw [show (min (t.length:Int) (N:Int)).toNat=t.length by omega,List.take_length,List.take_of_length_le (by omega)]
theorem zmt (t:Bs) (ht:t.length<=140737488351232) (w:World):Calls Tryz.prog 21 #[.string ⟨t.toArray⟩] w fun e w'=>e=.returned (.string ⟨(t.take 6000).toArray⟩)/\w=w':=by
 have x:=zpV 6000 t;have l:(0:Int)<=min (t.length:Int) 6000/\min (t.length:Int) 6000<=(t.length:Int):=by omega
 obtain ⟨S,hS⟩:∃ S:ByteArray,S=⟨t.toArray⟩:=⟨_,rfl⟩;obtain ⟨R,hR⟩:∃ R:ByteArray,R=⟨(t.take 6000).toArray⟩:=⟨_,rfl⟩;have hz:S.size=t.length:=by rw [hS];rfl
 rw [<- hz] at x l ht;rw [<- hS,<- hR] at x;rw [<- hS,<- hR];replace hz:=Y hz;replace hS:=Y hS;replace hR:=Y hR;have x2:S.extract 0 (min (S.size:Int) 6000).toNat=R:=x;replace x:=Y x;go_enter Tryz.func21,Tryz.ntmps21;go_wp2_with fail
 go_ret;exact ⟨rfl,rfl⟩
end Go.Proofs.YtjjfphalcibjfaaGreatDoor
namespace Scr
def zeK:Bs -> Nat
 | []=>0
 | c::r=>c.toNat % 128+128*zeK r
theorem ziH:∀ l:Bs,zeK l < 128 ^ l.length
 | []=>by decide
 | c::r=>by
  have:=ziH r;simp only [zeK,List.length_cons,Nat.pow_succ];omega
theorem zdV:∀ (l:Bs) (b:UInt8),zeK (l++[b])=zeK l+(b.toNat % 128)*2 ^ (7*l.length)
 | [],b=>by simp [zeK]
 | c::r,b=>by
  simp only [List.cons_append,zeK,zdV r b,List.length_cons];have:2 ^ (7*(r.length+1))=128*2 ^ (7*r.length):=by rw [Nat.mul_add,Nat.pow_add];omega
  rw [this,Nat.mul_add];have:128*(b.toNat % 128*2 ^ (7*r.length))=b.toNat % 128*(128*2 ^ (7*r.length)):=by
   rw [<- Nat.mul_assoc,Nat.mul_comm 128,Nat.mul_assoc]
  omega
theorem znk:∀ (f:Nat) (l:Bs) (b:UInt8),(∀ c ∈ l,128<=c.toNat) -> b.toNat < 128 -> (l=[] \/ b.toNat ≠ 0) -> l.length < f -> zdJ f (zeK (l++[b]))=l++[b]
 | 0,_,_,_,_,_,h=>absurd h (by omega)
 | f+1,[],b,_,hb,_,_=>by
  have h1:zeK ([]++[b])=b.toNat:=by simp [zeK];omega
  rw [h1,zdJ,if_pos hb];simp
 | f+1,c::l,b,hl,hb,h0,hf=>by
  have hc:=hl c (by simp);have hb0:b.toNat ≠ 0:=by rcases h0 with h0 | h0;cases h0;exact h0
  have ih:=znk f l b (fun x hx=>hl x (List.mem_cons_of_mem _ hx)) hb (.inr hb0) (by simpa using hf);have hp:0 < zeK (l++[b]):=by
   rw [zdV];have:0 < b.toNat % 128*2 ^ (7*l.length):=Nat.mul_pos (by omega) (Nat.pow_pos (by decide));omega
  have hz:zeK (c::l++[b])=c.toNat % 128+128*zeK (l++[b]):=rfl;rw [hz,zdJ,if_neg (by omega)];rw [show (c.toNat % 128+128*zeK (l++[b])) / 128=zeK (l++[b]) by omega,ih];rw [show (c.toNat % 128+128*zeK (l++[b])) % 128+128=c.toNat by have:=c.toNat_lt;omega];simp
theorem zgw:∀ (f z k:Nat),z < 128 ^ k -> 0 < k -> (zdJ f z).length<=k
 | 0,_,_,_,_=>by simp [zdJ]
 | f+1,z,k+1,hz,_=>by
  rw [zdJ];split
  ·simp
  ·rename_i h
   cases k with
   | zero=>simp at hz;omega
   | succ k=>
    have:=zgw f (z / 128) (k+1) (by rw [Nat.div_lt_iff_lt_mul (by decide)];rw [Nat.pow_succ] at hz;exact hz) (by omega);simp only [List.length_cons];omega
theorem znw (f:Nat) (l:Bs) (b:UInt8) (hl:l ≠ []) (hb:b.toNat=0):zdJ f (zeK (l++[b])) ≠ l++[b]:=by
 intro e;have hz:zeK (l++[b]) < 128 ^ l.length:=by rw [zdV,hb];have:=ziH l;simpa using this
 have:=zgw f _ _ hz (by cases l with | nil=>exact absurd rfl hl | cons a b=>simp);rw [e,List.length_append] at this;simp only [List.length_cons,List.length_nil] at this;omega
theorem znt (z:Nat):zz (zeT z)=z:=by unfold zz zeT;split <;> split <;> omega
theorem zi9 {l:Bs} {b:UInt8} (hl:∀ c ∈ l,128<=c.toNat) (hb:b.toNat < 128) (h9:l.length < 9) (hr:¬ zeT (zeK (l++[b])) < -4611686018427387903):
  zbc (zeT (zeK (l++[b])))=l++[b] ↔ ¬ (b.toNat=0/\0 < l.length):=by
 have hz:zeK (l++[b]) < 128 ^ 9:=Nat.lt_of_lt_of_le (ziH _) (Nat.pow_le_pow_right (by decide) (by simp;omega));have hu:¬ 4611686018427387903 < zeT (zeK (l++[b])):=by
  have:(128:Nat) ^ 9=9223372036854775808:=by decide
  unfold zeT;split <;> omega
 unfold zbc;rw [if_neg (by omega),znt];constructor
 ·intro e h
  exact znw 10 l b (by rintro rfl;simp at h) h.1 e
 ·intro h
  refine znk 10 l b hl hb ?_ (by omega)
  by_cases h0:l=[]
  ·exact .inl h0
  ·right;intro e;exact h ⟨e,List.length_pos_iff.2 h0⟩
def zkx (r:UInt32):UInt32:=if r % 2=1 then (r / 2) ^^^ 0x82F63B78 else r / 2
def zpv:BitVec 32:=0x82F63B78#32
def zdn (x:BitVec 32):BitVec 32:=(x >>> 1) ^^^ (if x.getLsbD 0 then zpv else 0#32)
theorem zeZ (r:UInt32):(zkx r).toBitVec=zdn r.toBitVec:=by
 have hm:(r % 2=1) ↔ r.toBitVec.getLsbD 0=true:=by
  rw [<- UInt32.toNat_inj,UInt32.toNat_mod];simp only [BitVec.getLsbD,UInt32.toNat_toBitVec,Nat.testBit_zero,decide_eq_true_eq]
  rfl
 have hd:(r / 2).toBitVec=r.toBitVec >>> 1:=by
  apply BitVec.eq_of_toNat_eq;rw [BitVec.toNat_ushiftRight,UInt32.toNat_toBitVec,UInt32.toNat_toBitVec,UInt32.toNat_div,Nat.shiftRight_eq_div_pow]
  rfl
 unfold zkx zdn zpv
 by_cases h:r % 2=1
 ·rw [if_pos h,if_pos (hm.1 h),<- hd];rfl
 ·rw [if_neg h,if_neg (fun k=>h (hm.2 k)),<- hd];simp
theorem zlW (a b:BitVec 32):zdn (a ^^^ b)=zdn a ^^^ zdn b:=by
 unfold zdn;rw [BitVec.ushiftRight_xor_distrib,BitVec.getLsbD_xor];cases a.getLsbD 0 <;> cases b.getLsbD 0
 ·simp
 ·simp [BitVec.xor_assoc]
 ·simp only [Bool.xor_false,if_true,if_false,Bool.false_eq_true,BitVec.xor_zero]
  rw [BitVec.xor_assoc,BitVec.xor_assoc,BitVec.xor_comm (b >>> 1)]
 ·simp only [Bool.xor_self,Bool.false_eq_true,if_false,if_true,BitVec.xor_zero]
  rw [BitVec.xor_assoc,BitVec.xor_comm zpv,BitVec.xor_assoc,BitVec.xor_self,BitVec.xor_zero]
theorem zdf {a:BitVec 32} (h:a.getLsbD 0=false):zdn a=a >>> 1:=by
 unfold zdn;rw [h];simp
def zeC (x:BitVec 32):BitVec 32:=zdn (zdn (zdn (zdn x)))
theorem zlJ {a:BitVec 32} (h0:a.getLsbD 0=false) (h1:a.getLsbD 1=false) (h2:a.getLsbD 2=false) (h3:a.getLsbD 3=false):zeC a=a >>> 4:=by
 have e1:zdn a=a >>> 1:=zdf h0;have e2:zdn (a >>> 1)=a >>> 1 >>> 1:=zdf (by rw [BitVec.getLsbD_ushiftRight];exact h1);have e3:zdn (a >>> 1 >>> 1)=a >>> 1 >>> 1 >>> 1:=zdf (by rw [BitVec.getLsbD_ushiftRight,BitVec.getLsbD_ushiftRight];exact h2);have e4:zdn (a >>> 1 >>> 1 >>> 1)=a >>> 1 >>> 1 >>> 1 >>> 1:=zdf (by rw [BitVec.getLsbD_ushiftRight,BitVec.getLsbD_ushiftRight,BitVec.getLsbD_ushiftRight];exact h3);unfold zeC;rw [e1,e2,e3,e4];apply BitVec.eq_of_getLsbD_eq;intro i hi;simp only [BitVec.getLsbD_ushiftRight];congr 1;omega
theorem zps:∀ k:Fin 16,zeC (BitVec.ofNat 32 k.val)=(zek.getD k.val 0).toBitVec:=by decide+kernel
theorem zn7 (r:UInt32):(nib r).toBitVec=zeC r.toBitVec:=by
 have hsplit:r.toBitVec=(r.toBitVec >>> 4 <<< 4) ^^^ BitVec.ofNat 32 (r.toNat % 16):=by
  apply BitVec.eq_of_getLsbD_eq;intro i hi;simp only [BitVec.getLsbD_xor,BitVec.getLsbD_shiftLeft,BitVec.getLsbD_ushiftRight,BitVec.getLsbD_ofNat];have e:(r.toNat % 16).testBit i=(decide (i < 4) && r.toNat.testBit i):=by
   rw [show (16:Nat)=2 ^ 4 from rfl,Nat.testBit_mod_two_pow]
  rw [e]
  by_cases h4:i < 4
  ·simp [h4,hi,BitVec.getLsbD]
  ·simp [h4,hi,show 4+(i - 4)=i by omega]
 have hlt:r.toNat % 16 < 16:=by omega
 have hl:=zps ⟨r.toNat % 16,hlt⟩;simp only at hl;have h4:∀ j,j < 4 -> (r.toBitVec >>> 4 <<< 4).getLsbD j=false:=fun j hj=>by
  rw [BitVec.getLsbD_shiftLeft];simp [hj]
 have hx:zeC r.toBitVec=zeC (r.toBitVec >>> 4 <<< 4) ^^^ zeC (BitVec.ofNat 32 (r.toNat % 16)):=by
  conv=>lhs;rw [hsplit]
  unfold zeC;simp only [zlW]
 rw [hx,hl,zlJ (h4 0 (by decide)) (h4 1 (by decide)) (h4 2 (by decide)) (h4 3 (by decide))];unfold nib;rw [UInt32.toBitVec_xor];congr 1;apply BitVec.eq_of_getLsbD_eq;intro i hi;rw [UInt32.toBitVec_shiftRight];have e4:((4:UInt32).toBitVec % 32)=4#32:=by decide
 simp only [BitVec.getLsbD_ushiftRight,BitVec.getLsbD_shiftLeft,e4,BitVec.ushiftRight_eq',BitVec.toNat_ofNat]
 by_cases h28:4+i < 32
 ·simp [h28,show ¬ 4+i < 4 by omega]
 ·simp [h28]
  exact BitVec.getLsbD_of_ge _ _ (by omega)
theorem zjw (r:UInt32):nib r=zkx (zkx (zkx (zkx r))):=by
 apply UInt32.toBitVec_inj.1;rw [zn7,zeZ,zeZ,zeZ,zeZ]
 rfl
end Scr
namespace Go.Proofs.YtjjfphalcibjfaaGreatDoor
open Go.Shelf Go.RowKit Cdk Scr
attribute [local go_sem] Oper.semAt_some
theorem u64_in (n:Nat) (h:n < 18446744073709551616):IntKind.u64.wrap (n:Int)=n:=by rw [IntKind.wrap_u64];omega
theorem zns (z:Nat) (h:z < 256):IntKind.u8.wrap (z:Int)=((UInt8.ofNat z).toNat:Int):=by
 have e:(UInt8.ofNat z).toNat=z:=by
  rw [UInt8.toNat_ofNat'];exact Nat.mod_eq_of_lt h
 rw [e,IntKind.wrap_u8];omega
theorem u8_in (n:Nat) (h:n < 256):IntKind.u8.wrap (n:Int)=n:=by rw [IntKind.wrap_u8];omega
theorem zmE (n:Int) (h1:-4611686018427387903<=n) (h2:n<=4611686018427387903) (w:World):
  Calls Tryz.prog 198 #[.int .i64 n] w fun e w'=>e=.returned (.int .u64 (zz n))/\w=w':=by
 by_cases hn:n < 0
 ·obtain ⟨q,rfl⟩:∃ q:Nat,n=-(q:Int):=⟨n.natAbs,by omega⟩
  have hz:zz (-(q:Int))=2*q - 1:=by unfold zz;rw [if_pos hn];simp
  rw [hz];have f1:wrap64 (- -(q:Int))=(q:Int):=by rw [Int.neg_neg];exact IntWalk.wrap64_in _ (by omega)
  have f2:IntKind.u64.wrap (q:Int)=(q:Int):=u64_in q (by omega);have f3:IntKind.u64.wrap ((q:Int)*2)=((2*q:Nat):Int):=by rw [show (q:Int)*2=((2*q:Nat):Int) by omega];exact u64_in _ (by omega)
  have f4:IntKind.u64.wrap (((2*q:Nat):Int) - 1)=((2*q - 1:Nat):Int):=by rw [show ((2*q:Nat):Int) - 1=((2*q - 1:Nat):Int) by omega];exact u64_in _ (by omega)
  clear hz;go_enter Tryz.func198,Tryz.ntmps198;go_wp2_with fail
  go_ret;simp;try omega
 ·obtain ⟨q,rfl⟩:∃ q:Nat,n=(q:Int):=⟨n.toNat,by omega⟩
  have hz:zz (q:Int)=2*q:=by unfold zz;rw [if_neg hn];simp
  rw [hz];have f2:IntKind.u64.wrap (q:Int)=(q:Int):=u64_in q (by omega);have f3:IntKind.u64.wrap ((q:Int)*2)=((2*q:Nat):Int):=by rw [show (q:Int)*2=((2*q:Nat):Int) by omega];exact u64_in _ (by omega)
  clear hz;go_enter Tryz.func198,Tryz.ntmps198;go_wp2_with fail
  go_ret;simp;try omega
def ziY (n:Int):Int:=if n < -4611686018427387903 \/ 4611686018427387903 < n then 10 else 0
theorem zca (n:Int) (w:World):
  Calls Tryz.prog 158 #[.int .i64 n] w fun e w'=>e=.returned (.tuple #[.string ⟨(zbc n).toArray⟩,.int .i64 (ziY n)])/\Ext w w':=by
 by_cases hn:n < -4611686018427387903
 ·have e1:=Y (show zbc n=[] by unfold zbc;rw [if_pos (.inl hn)])
  have e2:=Y (show ziY n=10 by unfold ziY;rw [if_pos (.inl hn)]);go_enter Tryz.func158,Tryz.ntmps158;go_wp2_with fail
  go_ret2
  exact ⟨by rw [e1.o,e2.o];rfl,Mod.refl _ _⟩
 by_cases hm:4611686018427387903 < n
 ·have e1:=Y (show zbc n=[] by unfold zbc;rw [if_pos (.inr hm)])
  have e2:=Y (show ziY n=10 by unfold ziY;rw [if_pos (.inr hm)]);go_enter Tryz.func158,Tryz.ntmps158;go_wp2_with fail
  go_ret2
  exact ⟨by rw [e1.o,e2.o];rfl,Mod.refl _ _⟩
 have e2:=Y (show ziY n=0 by unfold ziY;rw [if_neg (by omega)]);obtain ⟨P,hP⟩:∃ P,P=zbc n:=⟨_,rfl⟩;have hP0:P=zdJ 10 (zz n):=by rw [hP];unfold zbc;rw [if_neg (by omega)]
 have hzl:zz n < 128 ^ 10:=by
  have:(128:Nat) ^ 10=1180591620717411303424:=by decide
  unfold zz;split <;> omega
 have hz64:zz n < 18446744073709551616:=by unfold zz;split <;> omega
 have hzg:=Y (fun W=>zmE n (by omega) (by omega) W);rw [<- hP];generalize zz n=z0 at hP0 hzl hz64 hzg;replace hP0:=Y hP0;replace hzl:=Y hzl;clear hP;go_enter Tryz.func158,Tryz.ntmps158;go_wp2_with fail
 refine (hzg.o w).mono ?_;rintro e w1 ⟨rfl,rfl⟩;go_wp2_with fail
 go_loopg [4,5] 9 (fun g zv b wr=>∃ (z:Nat) (l:Bs) (av:Option Addr) (cv:Nat),zv=.int .u64 z/\b=.slice av l.length cv/\Cdk.Own wr w.heap.size 5 1 u8L (.slice av l.length cv) l/\Ext w wr/\P=l++zdJ (g+1) z/\z < 128 ^ (g+1)/\z < 18446744073709551616/\l.length<=9 - g/\g<=9)
 case atStart=>exact ⟨z0,[],none,0,rfl,rfl,Own.nil _ _ _ _ _,Mod.refl _ _,by rw [hP0.o];rfl,hzl.o,hz64,by simp,by omega⟩
 case round=>
  clear hP0 hzl;obtain ⟨z,l,av,cv,rfl,rfl,hO,hx,hPz,hz1,hz2,hl9,hg9⟩:=hrel;have hsz:w.heap.size<=wr.heap.size:=hx.size;have hl9':l.length<=9:=by omega
  replace hO:=Y hO;replace hx:=Y hx
  by_cases hlt:z < 128
  ·have hdi:¬ (128:Int)<=(z:Int):=by omega
   have hdl:(z:Int) < 128:=by omega
   rw [zfD hlt] at hPz;have hc:=zns z (by omega);generalize UInt8.ofNat z=c at hc hPz;replace hPz:=Y hPz;replace hz1:=Y hz1;replace hl9:=Y hl9;have hxa:=Mod.alloc (Mod.refl (fun _=>False) wr) (.cells #[.int .u8 c.toNat] 5);go_wp2_with (at_builtin;refine zaI rfl _ _ _ rfl Tryz.underlying63 el5 rfl (hO.o.ext hxa) _ 1 1 rfl [c] rfl (by exact zaJ.new _ _ _) zev (fun z hz u hu=>by simp only [List.mem_singleton] at hz;subst hz;simp [u8L] at hu;subst hu;rfl) (by simp only [List.length_singleton];omega) (by rw [World.size_alloc];omega) (fun e=>nomatch e) (fun v6 w6 H6=>Hid.o ?_))
   obtain ⟨hO6,hm6⟩:=H6.o;have hx6:=Y (zbi (hx.o.trans hxa) (hO.o.ext hxa) (Nat.le_refl _) hm6);obtain ⟨av6,cap6,rfl,hcv⟩:=zeY hO6;have hl6:(l++[c]).length=l.length+1:=by simp
   rw [hl6] at hcv ⊢;rw [<- hPz.o] at hcv;clear H6 hm6 hxa hO6;refine Y ?_;go_wp2_with fail
   go_ret2
   exact ⟨by rw [e2.o];rfl,hx6.o⟩
  ·have hdi:(128:Int)<=(z:Int):=by omega
   have hdl:¬ (z:Int) < 128:=by omega
   obtain ⟨g,rfl⟩:∃ g,gk=g+1:=by
    cases gk with
    | zero=>simp at hz1;omega
    | succ g=>exact ⟨g,rfl⟩
   rw [ziX hlt] at hPz;obtain ⟨k0,hk0⟩:∃ k0,k0=z % 128:=⟨_,rfl⟩;obtain ⟨m0,hm0⟩:∃ m0,m0=z % 128+128:=⟨_,rfl⟩;have f1:(z:Int).tmod 128=(k0:Int):=by rw [Int.tmod_eq_emod_of_nonneg (by omega)];omega
   have f2:IntKind.u64.wrap ((k0:Int)+128)=(m0:Int):=by rw [show (k0:Int)+128=(m0:Int) by omega];exact u64_in _ (by omega)
   have hc:=zns m0 (by omega);rw [<- hm0] at hPz;replace hk0:=Y hk0;replace hm0:=Y hm0;have f3:(z:Int).tdiv 128=((z / 128:Nat):Int):=by rw [Int.tdiv_eq_ediv_of_nonneg (by omega)];omega
   have hz4:z / 128 < 128 ^ (g+1):=by rw [Nat.div_lt_iff_lt_mul (by decide)];rw [Nat.pow_succ] at hz1;exact hz1
   generalize hcc:UInt8.ofNat m0=c at hc hPz;generalize hzz:z / 128=z' at f3 hPz hz4;have hz5:z' < 18446744073709551616:=by omega
   replace hPz:=Y hPz;replace hz4:=Y hz4;replace hl9:=Y hl9;clear hz1 hcc hzz;have hxa:=Mod.alloc (Mod.refl (fun _=>False) wr) (.cells #[.int .u8 c.toNat] 5);go_wp2_with (at_builtin;refine zaI rfl _ _ _ rfl Tryz.underlying63 el5 rfl (hO.o.ext hxa) _ 1 1 rfl [c] rfl (by exact zaJ.new _ _ _) zev (fun z hz u hu=>by simp only [List.mem_singleton] at hz;subst hz;simp [u8L] at hu;subst hu;rfl) (by simp only [List.length_singleton];omega) (by rw [World.size_alloc];omega) (fun e=>nomatch e) (fun v6 w6 H6=>Hid.o ?_))
   obtain ⟨hO6,hm6⟩:=H6.o;have hx6:=Y (zbi (hx.o.trans hxa) (hO.o.ext hxa) (Nat.le_refl _) hm6);obtain ⟨av6,cv6,rfl,-⟩:=hO6.row;have hl6:(l++[c]).length=l.length+1:=by simp
   rw [hl6];rw [hl6] at hO6;clear H6 hm6 hxa;replace hO6:=Y hO6;refine Y ?_;go_wp2_with fail
   go_roundg g
   case measure=>omega
   case rel=>exact ⟨z',l++[c],av6,cv6,rfl,by rw [hl6],by rw [hl6];exact hO6.o,hx6.o,by rw [hPz.o];simp,hz4.o,hz5,by have:=hl9.o;rw [hl6];omega,by omega⟩
theorem za5 (n:Int) (w:World):
  Calls Tryz.prog 196 #[.int .i64 n] w fun e w'=>e=.returned (.string ⟨(zbc n).toArray⟩)/\Ext w w':=by
 have h:=Y (zca n w);go_enter Tryz.func196,Tryz.ntmps196;go_wp2_with fail
 refine h.o.mono ?_;rintro e w1 ⟨rfl,hx⟩;replace hx:=Y hx;go_wp2_with fail
 go_ret;exact ⟨rfl,hx.o⟩
theorem zdp (s:Bs) (hs:s.length<=65536) (w:World):
  Calls Tryz.prog 197 #[.string ⟨s.toArray⟩] w fun e w'=>e=.returned (.tuple #[.string ⟨(zeQ s).toArray⟩,.int .i64 0])/\Ext w w':=by
 obtain ⟨S,hS⟩:∃ S:ByteArray,S=⟨s.toArray⟩:=⟨_,rfl⟩;have hSs:S.size=s.length:=by rw [hS];rfl
 rw [<- hS];have hp:=Y (zca (S.size:Int));have hput:Hid (zeQ s=zbc S.size++s):=Y (by unfold zeQ;rw [if_neg (by omega),hSs]);have h1:¬ (65536:Int) < (S.size:Int):=by omega
 have h2:=zay (S.size:Int);obtain ⟨T,hT⟩:∃ T,T=zbc (S.size:Int):=⟨_,rfl⟩;rw [<- hT] at h2;have hsum:(⟨T.toArray⟩:ByteArray).size+S.size<=1000000:=by rw [za6];omega
 replace hT:=Y hT;replace h2:=Y h2;replace hSs:=Y hSs;replace hS:=Y hS;go_enter Tryz.func197,Tryz.ntmps197;go_wp2_with fail
 refine (hp.o _).mono ?_;rintro e w' ⟨rfl,hx⟩;rw [<- hT.o];replace hx:=Y hx;go_wp2_with fail
 go_ret2
 refine ⟨?_,hx.o⟩;rw [hput.o,<- hT.o,<- zbl,<- hS.o]
 rfl
def zoT:Nat -> UInt32 -> UInt32
 | 0,r=>r
 | k+1,r=>zoT k (zkx r)
theorem zpI (r:UInt32):zoT 8 r=nib (nib r):=by rw [zjw,zjw];rfl
theorem zmZ {r:UInt32} (h:r.toNat % 2=1):bits .xor .u32 ((r.toNat:Int) / 2) 2197175160=((zkx r).toNat:Int):=by
 have e:r % 2=1:=by apply UInt32.toNat_inj.1;rw [UInt32.toNat_mod];exact h
 unfold zkx;rw [if_pos e];have:=zkw (r / 2) 0x82F63B78;rw [UInt32.toNat_div] at this;exact this
theorem zkU {r:UInt32} (h:¬ r.toNat % 2=1):(r.toNat:Int) / 2=((zkx r).toNat:Int):=by
 have e:¬ r % 2=1:=fun e=>h (by have:=congrArg UInt32.toNat e;rw [UInt32.toNat_mod] at this;exact this)
 unfold zkx;rw [if_neg e,UInt32.toNat_div]
 rfl
theorem zjQ (t:Bs) (w:World) (hsz:t.length<=1000000):
  Calls Tryz.prog 159 #[.string ⟨t.toArray⟩] w fun e w'=>e=.returned (.int .i64 (crc t))/\w=w':=by
 obtain ⟨C,hC⟩:∃ C,C=zlH 0xFFFFFFFF t:=⟨_,rfl⟩;have hcr:Hid (crc t=((C ^^^ 0xFFFFFFFF).toNat:Int)):=Y (by rw [hC];rfl);obtain ⟨s,hs⟩:∃ s:ByteArray,s=⟨t.toArray⟩:=⟨_,rfl⟩;have hst:s.data.toList=t:=by rw [hs]
 have hsl:s.size<=1000000:=by rw [hs];exact hsz
 rw [<- hs];rw [<- hst] at hC;replace hst:=Y hst;replace hs:=Y hs;go_enter Tryz.func159,Tryz.ntmps159;go_wp2_with fail
 go_loopg [3,4] s.size (fun g rv i wr=>∃ (j:Nat) (r:UInt32),j+g=s.size/\i=.int .i64 j/\rv=.int .u32 r.toNat/\wr=w/\C=zlH r (s.data.toList.drop j))
 case atStart=>exact ⟨0,0xFFFFFFFF,by omega,rfl,rfl,rfl,by rw [hC];rfl⟩
 case round=>
  clear hC;obtain ⟨j,r,hj,rfl,rfl,rfl,hCj⟩:=hrel;replace hj:=Y hj
  by_cases hlt:j < s.size
  ·have hd:decide ((j:Int) < (s.size:Int))=true:=decide_eq_true (by omega)
   have hdi:(j:Int) < (s.size:Int):=by omega
   rw [drop_at s hlt] at hCj;obtain ⟨r1,hr1⟩:∃ r1,r1=r ^^^ s[j].toUInt32:=⟨_,rfl⟩;have e1:(s[j].toNat:Int) % 4294967296=s[j].toNat:=by have:=s[j].toNat_lt;omega
   have e2:bits .xor .u32 (r.toNat:Int) (s[j].toNat:Int)=(r1.toNat:Int):=by
    rw [hr1,<- zkw];simp
   simp only [zlH] at hCj;rw [<- hr1,<- zpI] at hCj;obtain ⟨R2,hR2⟩:∃ R2,R2=zoT 8 r1:=⟨_,rfl⟩;rw [<- hR2] at hCj;replace hCj:=Y hCj;replace hr1:=Y hr1;replace hR2:=Y hR2;go_wp2_with fail
   obtain ⟨J,rfl⟩:∃ J,J=j:=⟨_,rfl⟩;obtain ⟨G,rfl⟩:∃ G,G=gk:=⟨_,rfl⟩;obtain ⟨W,rfl⟩:∃ W,W=wr:=⟨_,rfl⟩;go_loopg [3,5] 8 (fun g rv kv wi=>∃ (k:Nat) (x:UInt32),k+g=8/\kv=.int .i64 k/\rv=.int .u32 x.toNat/\wi=W/\R2=zoT g x)
   case atStart=>exact ⟨0,r1,rfl,rfl,rfl,rfl,hR2.o⟩
   case round=>
    clear hR2;obtain ⟨k,x,hk,rfl,rfl,rfl,hx⟩:=hrel;replace hk:=Y hk
    by_cases hk8:k < 8
    ·have hdk:(k:Int) < 8:=by omega
     obtain ⟨g,rfl⟩:∃ g,gk=g+1:=⟨gk - 1,by have:=hk.o;omega⟩;simp only [zoT] at hx;have q1:(x.toNat:Int).tmod 2=((x.toNat % 2:Nat):Int):=by rw [Int.tmod_eq_emod_of_nonneg (by omega)];omega
     have q2:(x.toNat:Int).tdiv 2=(x.toNat:Int) / 2:=by rw [Int.tdiv_eq_ediv_of_nonneg (by omega)]
     by_cases hodd:x.toNat % 2=1
     ·have q3:=zmZ hodd
      have q4:(x.toNat:Int) / 2 % 4294967296=(x.toNat:Int) / 2:=by have:=x.toNat_lt;omega
      rw [hodd] at q1;generalize zkx x=y at hx q3;replace hx:=Y hx;go_wp2_with fail
      go_roundg g
      case measure=>omega
      case rel=>exact ⟨k+1,y,by have:=hk.o;omega,by go_num,rfl,rfl,hx.o⟩
     ·have q3:=zkU hodd
      have hev:x.toNat % 2=0:=by omega
      rw [hev] at q1;rw [q3] at q2;generalize zkx x=y at hx q2;have q4:(y.toNat:Int) % 4294967296=(y.toNat:Int):=by have:=y.toNat_lt;omega
      replace hx:=Y hx;go_wp2_with fail
      go_roundg g
      case measure=>omega
      case rel=>exact ⟨k+1,y,by have:=hk.o;omega,by go_num,rfl,rfl,hx.o⟩
    ·have hdk:¬ (k:Int) < 8:=by omega
     obtain rfl:gk=0:=by have:=hk.o;omega
     have hx2:x=R2:=hx.symm;subst hx2;clear hx;go_wp2_with fail
     go_roundg (G - 1)
     case measure=>have:=hj.o;omega
     case rel=>exact ⟨J+1,x,by have:=hj.o;omega,by go_num,rfl,rfl,hCj.o⟩
  ·obtain rfl:j=s.size:=by have:=hj.o;omega
   have hdi:¬ (s.size:Int) < (s.size:Int):=by omega
   have hd:decide ((s.size:Int) < (s.size:Int))=false:=decide_eq_false hdi;rw [List.drop_eq_nil_of_le (Nat.le_of_eq (zaN s).symm)] at hCj;simp only [zlH] at hCj;have e9:bits .xor .u32 IntKind.u32.max (r.toNat:Int)=((C ^^^ 0xFFFFFFFF).toNat:Int):=by
    rw [hCj,UInt32.xor_comm];exact zkw 0xFFFFFFFF r
   have e10:wrap64 ((C ^^^ 0xFFFFFFFF).toNat:Int)=((C ^^^ 0xFFFFFFFF).toNat:Int):=by
    have:=(C ^^^ 0xFFFFFFFF).toNat_lt;exact IntWalk.wrap64_in _ (by omega)
   generalize (C ^^^ 0xFFFFFFFF).toNat=Z at e9 e10 hcr;replace hCj:=Y hCj;go_wp2_with fail
   go_ret;exact ⟨by rw [hcr.o];rfl,rfl⟩
end Go.Proofs.YtjjfphalcibjfaaGreatDoor
