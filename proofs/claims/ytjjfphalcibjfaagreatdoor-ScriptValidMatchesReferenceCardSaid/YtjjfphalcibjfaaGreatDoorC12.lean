import Derived.Test.YtjjfphalcibjfaaGreatDoorC9
set_option maxRecDepth 100000
set_option maxHeartbeats 16000000
namespace Go
open Go.RowKit
theorem zeE {P:Program} {w:World} (t u ty e:TypeId) (i:TypeInfo) (z:Value) (ht:P.underlying t=some (.slice e)) (hu:P.underlying u=some (.int .i64)) (hi:P.info? e=some i) (hz:i.zero=some z)
  (n:Nat) (h0:0 < n) (hn:n<=1000000) (hs:0 < i.size) (hb:i.bytes<=1000000):
  (Builtin.append_ #[t,u] ty #[.slice none 0 0,.int .i64 n]).run P w=
   .ok (.slice (some ⟨w.heap.size,0,none⟩) n (grownCap w n 0 e)) (w.drew.alloc (.cells (Builtin.zeroCells z.cells n++Builtin.zeroCells z.cells (grownCap w n 0 e - n)) e)):=by
 have hn':n ≠ 0:=by omega
 have hnb:n*i.bytes<=1000000000000:=Nat.mul_le_mul hn hb;have hw:IntKind.i64.wrap (n:Int)=n:=Go.IntWalk.i64_in _ (by omega);have h1:¬ ((n:Int) < 0):=by omega
 have h2:¬ ((281474976710656:Int) < (n:Int)*(i.bytes:Int)):=by
  rw [<- Int.natCast_mul];omega
 have h63':¬ (9223372036854775807 < (n:Int)):=by omega
 have h48':¬ (281474976710656 < Builtin.nextslicecap n 0*i.bytes):=by rw [nextslicecap_zero h0];omega
 have h3:¬ (n*i.size=0):=by
  have:=Nat.mul_pos h0 hs;omega
 simp [Builtin.append_,run_underlying ht,run_underlying hu,sizeOf,typeInfo,zeroValue,hi,hz,asInt,asIntOf,hw,h1,h2,hn',h63',h48',h3,Question.forced,run_firstCells_none,newRow,grownCap]
end Go
namespace Go.Proofs.YtjjfphalcibjfaaGreatDoor
open Go.Shelf Go.RowKit Cdk Scr
def frZ:Value:=.agg #[.int .i64 0,.int .i64 0,.string .empty,.nilFunc,.nilFunc]
theorem elF:El Tryz.prog 95 frZ 5 48:=⟨by kernel_rfl,rfl,by decide,by decide⟩
theorem zeG {ops:Array Oper} {rest:List Oper} {o:Oper} {a:Act} {w:World} {Q:Exit -> Act -> World -> Prop} (hg:o.guard=none) (sl x:Operand)
  (ho:o.op=.call { callee:=.builtin .append,args:=#[sl,x],argTypes:=#[60,3] }) (hs:a.eval sl=.slice none 0 0) (n:Nat) (hx:a.eval x=.int .i64 n) (h0:0 < n) (hn:n<=1000)
  (hK:∀ (cap:Nat) (w':World),Hid (n<=cap/\cap<=9223372036854775807/\Cdk.Own w' w.heap.size 95 5 frC (.slice (some ⟨w.heap.size,0,none⟩) 0 cap) ([]:List FR)/\Ext w w') -> wpList Tryz.prog ops Q rest (a.put o.dst (.slice (some ⟨w.heap.size,0,none⟩) n cap)) w'):wpList Tryz.prog ops Q (o::rest) a w:=by
 refine wpList_plain hg fun K hK'=>?_
 obtain ⟨i0,hi,hz0,hz1,hz2⟩:=info_parts elF.row;have hr:=zeE (P:=Tryz.prog) (w:=w) 60 3 o.type 95 i0 frZ Tryz.underlying60 Tryz.underlying3 hi hz0 n h0 (by omega) (by rw [hz1];decide) (by rw [hz2];decide);have hge:=grownCap_ge w n 0 95;have hle:=grownCap_le_maxLen w n 0 95 (by unfold maxLen;omega);have hown:Cdk.Own (w.drew.alloc (.cells (Builtin.zeroCells frZ.cells n++Builtin.zeroCells frZ.cells (grownCap w n 0 95 - n)) 95)) w.heap.size 95 5 frC (.slice (some ⟨w.heap.size,0,none⟩) 0 (grownCap w n 0 95)) ([]:List FR):=
  World.ownsRow_made w.drew _ _ (Nat.le_refl _) hle (by
   have hz:frZ.cells.size=5:=rfl;rw [Array.size_append,size_zeroCells,size_zeroCells,hz,<- Nat.add_mul];congr 1
   omega)
 have hx2:=(Mod.refl (fun _=>False) w).drew.alloc (.cells (Builtin.zeroCells frZ.cells n++Builtin.zeroCells frZ.cells (grownCap w n 0 95 - n)) 95);unfold Oper.wp;simp [execOp,ho,resolve,invoke,builtin,hs,hx,hr,Result.andThen];exact hK' _ _ (hK _ _ ⟨hge,by simpa [maxLen] using hle,hown,hx2⟩)
theorem zkr (w:World):Calls Tryz.prog 104 #[.slice none 0 0,.int .i64 18] w fun e w'=>∃ (k cap:Nat),e=.returned (.slice (some ⟨k,0,none⟩) 0 cap)/\Cdk.Own w' w.heap.size 95 5 frC (.slice (some ⟨k,0,none⟩) 0 cap) ([]:List FR)/\Ext w w':=by
 go_enter Tryz.func104,Tryz.ntmps104;go_wp2_with (at_builtin;refine zeG rfl _ _ rfl rfl 18 rfl (by decide) (by decide) (fun cap w' H=>?_))
 obtain ⟨h1,h2,h3,h4⟩:=H.out;have h5:(0:Int)<=(cap:Int):=by omega
 clear H;replace h3:=hid h3;replace h4:=hid h4;go_wp2_with fail
 go_ret;exact ⟨_,cap,rfl,h3.out,h4.out⟩
theorem zhy (K k0 k1 k2 k3:Nat) (r0 r1 r2 r3:List FR) (w:World) (hK:w.heap[K]?=some (.cells #[.slice (some ⟨k0,0,none⟩) 6 6,.slice (some ⟨k1,0,none⟩) 3 3,.slice (some ⟨k2,0,none⟩) 6 6,.slice (some ⟨k3,0,none⟩) 3 3] 60 (0,0)))
  (h0:w.heap[k0]?=some (.cells (r0.flatMap frC).toArray 95 (0,0))) (l0:r0.length=6) (o0:∀ y ∈ r0,∀ u ∈ frC y,u.oneCell'=true)
  (h1:w.heap[k1]?=some (.cells (r1.flatMap frC).toArray 95 (0,0))) (l1:r1.length=3) (o1:∀ y ∈ r1,∀ u ∈ frC y,u.oneCell'=true)
  (h2:w.heap[k2]?=some (.cells (r2.flatMap frC).toArray 95 (0,0))) (l2:r2.length=6) (o2:∀ y ∈ r2,∀ u ∈ frC y,u.oneCell'=true)
  (h3:w.heap[k3]?=some (.cells (r3.flatMap frC).toArray 95 (0,0))) (l3:r3.length=3) (o3:∀ y ∈ r3,∀ u ∈ frC y,u.oneCell'=true)
  :Calls Tryz.prog 66 #[.slice (some ⟨K,0,none⟩) 4 4] w fun e w'=>∃ (ao:Option Addr) (cap:Nat),e=.returned (.slice ao 18 cap)/\Cdk.Own w' w.heap.size 95 5 frC (.slice ao 18 cap) (r0++r1++r2++r3)/\Ext w w':=by
 have c0:w.cell? ⟨K,0,none⟩=some (.slice (some ⟨k0,0,none⟩) 6 6):=zaa hK 0;have c1:w.cell? ⟨K,1,none⟩=some (.slice (some ⟨k1,0,none⟩) 3 3):=zaa hK 1;have c2:w.cell? ⟨K,2,none⟩=some (.slice (some ⟨k2,0,none⟩) 6 6):=zaa hK 2;have c3:w.cell? ⟨K,3,none⟩=some (.slice (some ⟨k3,0,none⟩) 3 3):=zaa hK 3;replace h0:=hid h0;replace l0:=hid l0;replace o0:=hid o0;replace h1:=hid h1;replace l1:=hid l1;replace o1:=hid o1;replace h2:=hid h2;replace l2:=hid l2;replace o2:=hid o2;replace h3:=hid h3;replace l3:=hid l3;replace o3:=hid o3;replace hK:=hid hK;have hg:=hid (zkr w);go_enter Tryz.func66,Tryz.ntmps66;go_wp2_with fail
 go_loopg [3,11] 4 (fun g sz i wr=>∃ j:Nat,j+g=4/\i=.int .i64 j/\sz=.int .i64 (([0,6,9,15,18]:List Int).getD j 0)/\wr=w)
 case atStart=>exact ⟨0,by omega,rfl,rfl,rfl⟩
 case round=>
  obtain ⟨j,hj,rfl,rfl,rfl⟩:=hrel;have h4:j=0 \/ j=1 \/ j=2 \/ j=3 \/ j=4:=by omega
  rcases h4 with rfl | rfl | rfl | rfl | rfl
  ·simp only [List.getD_cons_zero]
   go_wp2_with fail
   go_roundg 3
   case measure=>omega
   case rel=>exact ⟨1,by omega,rfl,rfl,rfl⟩
  ·simp only [List.getD_cons_zero,List.getD_cons_succ]
   go_wp2_with fail
   go_roundg 2
   case measure=>omega
   case rel=>exact ⟨2,by omega,rfl,rfl,rfl⟩
  ·simp only [List.getD_cons_zero,List.getD_cons_succ]
   go_wp2_with fail
   go_roundg 1
   case measure=>omega
   case rel=>exact ⟨3,by omega,rfl,rfl,rfl⟩
  ·simp only [List.getD_cons_zero,List.getD_cons_succ]
   go_wp2_with fail
   go_roundg 0
   case measure=>omega
   case rel=>exact ⟨4,by omega,rfl,rfl,rfl⟩
  ·simp only [List.getD_cons_zero,List.getD_cons_succ]
   clear hj
   rename World=>W0
   go_wp2_with fail
   refine hg.out.mono ?_;rintro e w2 ⟨k,cap,rfl,hO2,hx2⟩;replace hO2:=hid hO2;replace hx2:=hid hx2;clear hg c0 c1 c2 c3;go_wp2_with fail
   go_loopg [6,27] 4 (fun g sv i wr=>∃ (j:Nat) (ao:Option Addr) (cap:Nat) (rs:List FR),j+g=4/\i=.int .i64 j/\sv=.slice ao (([0,6,9,15,18]:List Nat).getD j 0) cap/\rs=([[],r0,r0++r1,r0++r1++r2,r0++r1++r2++r3]:List (List FR)).getD j []/\Cdk.Own wr W0.heap.size 95 5 frC sv rs/\Ext W0 wr)
   case atStart=>exact ⟨0,_,cap,[],by omega,rfl,rfl,rfl,hO2.out,hx2.out⟩
   case round=>
    clear hO2 hx2;obtain ⟨j,ao,cap,rs,hj,rfl,rfl,hrs,hO,hx⟩:=hrel;have h4:j=0 \/ j=1 \/ j=2 \/ j=3 \/ j=4:=by omega
    have hKq:=hx.at hK.out (fun h=>h);have hsz:W0.heap.size<=wr.heap.size:=hx.size;rcases h4 with rfl | rfl | rfl | rfl | rfl
    ·simp only [List.getD_cons_zero] at hrs hO ⊢
     have d0:wr.cell? ⟨K,0,none⟩=some (.slice (some ⟨k0,0,none⟩) 6 6):=zaa hKq 0;have hr0:=zaR.block (hx.at h0.out (fun h=>h));have hlr:rs.length=0:=by rw [hrs];rfl
     replace hO:=hid hO;replace hx:=hid hx;replace hrs:=hid hrs;replace hlr:=hid hlr;replace hKq:=hid hKq;go_wp2_with (at_builtin;refine zaX rfl _ _ _ rfl Tryz.underlying60 elF rfl hO.out _ _ _ rfl r0 l0.out hr0 zdC o0.out (by have:=hlr.out;have:=l0.out;omega) hsz (fun e=>nomatch e) (fun v6 w6 H6=>?_))
     obtain ⟨hO6,hm6⟩:=H6.out;have hx6:=hid (zbC hx.out hO.out (Nat.le_refl _) hm6);obtain ⟨ao6,cap6,rfl,-⟩:=hO6.row;have e6:(rs++r0).length=6:=by rw [List.length_append,hlr.out,l0.out]
     rw [e6] at hO6 ⊢;clear H6 hm6 e6;replace hO6:=hid hO6;go_wp2_with fail
     go_roundg 3
     case measure=>omega
     case rel=>exact ⟨1,ao6,cap6,rs++r0,by omega,rfl,rfl,by rw [hrs.out];rfl,hO6.out,hx6.out⟩
    ·simp only [List.getD_cons_zero,List.getD_cons_succ] at hrs hO ⊢
     have d1:wr.cell? ⟨K,1,none⟩=some (.slice (some ⟨k1,0,none⟩) 3 3):=zaa hKq 1;have hr1:=zaR.block (hx.at h1.out (fun h=>h));have hlr:rs.length=6:=by rw [hrs];simp [l0.out]
     replace hO:=hid hO;replace hx:=hid hx;replace hrs:=hid hrs;replace hlr:=hid hlr;replace hKq:=hid hKq;go_wp2_with (at_builtin;refine zaX rfl _ _ _ rfl Tryz.underlying60 elF rfl hO.out _ _ _ rfl r1 l1.out hr1 zdC o1.out (by have:=hlr.out;have:=l1.out;omega) hsz (fun e=>nomatch e) (fun v6 w6 H6=>?_))
     obtain ⟨hO6,hm6⟩:=H6.out;have hx6:=hid (zbC hx.out hO.out (Nat.le_refl _) hm6);obtain ⟨ao6,cap6,rfl,-⟩:=hO6.row;have e6:(rs++r1).length=9:=by rw [List.length_append,hlr.out,l1.out]
     rw [e6] at hO6 ⊢;clear H6 hm6 e6;replace hO6:=hid hO6;go_wp2_with fail
     go_roundg 2
     case measure=>omega
     case rel=>exact ⟨2,ao6,cap6,rs++r1,by omega,rfl,rfl,by rw [hrs.out];rfl,hO6.out,hx6.out⟩
    ·simp only [List.getD_cons_zero,List.getD_cons_succ] at hrs hO ⊢
     have d2:wr.cell? ⟨K,2,none⟩=some (.slice (some ⟨k2,0,none⟩) 6 6):=zaa hKq 2;have hr2:=zaR.block (hx.at h2.out (fun h=>h));have hlr:rs.length=9:=by rw [hrs];simp [l0.out,l1.out]
     replace hO:=hid hO;replace hx:=hid hx;replace hrs:=hid hrs;replace hlr:=hid hlr;replace hKq:=hid hKq;go_wp2_with (at_builtin;refine zaX rfl _ _ _ rfl Tryz.underlying60 elF rfl hO.out _ _ _ rfl r2 l2.out hr2 zdC o2.out (by have:=hlr.out;have:=l2.out;omega) hsz (fun e=>nomatch e) (fun v6 w6 H6=>?_))
     obtain ⟨hO6,hm6⟩:=H6.out;have hx6:=hid (zbC hx.out hO.out (Nat.le_refl _) hm6);obtain ⟨ao6,cap6,rfl,-⟩:=hO6.row;have e6:(rs++r2).length=15:=by rw [List.length_append,hlr.out,l2.out]
     rw [e6] at hO6 ⊢;clear H6 hm6 e6;replace hO6:=hid hO6;go_wp2_with fail
     go_roundg 1
     case measure=>omega
     case rel=>exact ⟨3,ao6,cap6,rs++r2,by omega,rfl,rfl,by rw [hrs.out];rfl,hO6.out,hx6.out⟩
    ·simp only [List.getD_cons_zero,List.getD_cons_succ] at hrs hO ⊢
     have d3:wr.cell? ⟨K,3,none⟩=some (.slice (some ⟨k3,0,none⟩) 3 3):=zaa hKq 3;have hr3:=zaR.block (hx.at h3.out (fun h=>h));have hlr:rs.length=15:=by rw [hrs];simp [l0.out,l1.out,l2.out]
     replace hO:=hid hO;replace hx:=hid hx;replace hrs:=hid hrs;replace hlr:=hid hlr;replace hKq:=hid hKq;go_wp2_with (at_builtin;refine zaX rfl _ _ _ rfl Tryz.underlying60 elF rfl hO.out _ _ _ rfl r3 l3.out hr3 zdC o3.out (by have:=hlr.out;have:=l3.out;omega) hsz (fun e=>nomatch e) (fun v6 w6 H6=>?_))
     obtain ⟨hO6,hm6⟩:=H6.out;have hx6:=hid (zbC hx.out hO.out (Nat.le_refl _) hm6);obtain ⟨ao6,cap6,rfl,-⟩:=hO6.row;have e6:(rs++r3).length=18:=by rw [List.length_append,hlr.out,l3.out]
     rw [e6] at hO6 ⊢;clear H6 hm6 e6;replace hO6:=hid hO6;go_wp2_with fail
     go_roundg 0
     case measure=>omega
     case rel=>exact ⟨4,ao6,cap6,rs++r3,by omega,rfl,rfl,by rw [hrs.out];rfl,hO6.out,hx6.out⟩
    ·simp only [List.getD_cons_zero,List.getD_cons_succ] at hrs hO ⊢
     replace hO:=hid hO;replace hx:=hid hx;replace hrs:=hid hrs;go_wp2_with fail
     go_ret;exact ⟨ao,cap,rfl,by rw [<- hrs.out];exact hO.out,hx.out⟩
def zcP (F:Nat -> Prop) (w:World) (v:Value):Prop:=∃ rows:List FR,rows.length=18/\zai F w frC v rows/\∀ j (hj:j < rows.length),zc6 F w j rows[j]
theorem zc6.bound {F:Nat -> Prop} {w:World} {j:Nat} {r:FR} (h:zc6 F w j r):zc6 (fun k=>F k/\k < w.heap.size) w j r:=by
 obtain ⟨h1,h2,h3,h4⟩:=h;refine ⟨h1,h2,h3,?_⟩;split at h4
 ·rename_i hj
  rw [if_pos hj];obtain ⟨b,f1,f2,e1,e2,k1,k2⟩:=h4;exact ⟨b,⟨f1,zat k1⟩,⟨f2,zat k2⟩,e1,e2,k1,k2⟩
 ·rename_i hj
  rw [if_neg hj];exact h4
theorem zc6.one {F:Nat -> Prop} {w:World} {j:Nat} {r:FR} (h:zc6 F w j r):∀ u ∈ frC r,u.oneCell'=true:=by
 obtain ⟨h1,h2,h3,h4⟩:=h;have:r.wr.oneCell'=true/\r.rd.oneCell'=true:=by
  split at h4
  ·obtain ⟨b,f1,f2,e1,e2,k1,k2⟩:=h4
   rw [e1,e2];exact ⟨rfl,rfl⟩
  ·rw [h4.1,h4.2];exact ⟨rfl,rfl⟩
 intro u hu;simp only [frC,List.mem_cons,List.not_mem_nil,or_false] at hu;rcases hu with rfl | rfl | rfl | rfl | rfl
 ·rfl
 ·rfl
 ·rfl
 ·exact this.1
 ·exact this.2
def zdZ (F:Nat -> Prop) (w:World) (i:Nat) (l:List FR):Prop:=∀ j (hj:j < l.length),zc6 F w (i+j) l[j]
theorem zdZ.app {F:Nat -> Prop} {w:World} {i:Nat} {a b:List FR} (ha:zdZ F w i a) (hb:zdZ F w (i+a.length) b):zdZ F w i (a++b):=by
 intro j hj
 by_cases h:j < a.length
 ·rw [List.getElem_append_left h];exact ha j h
 ·rw [List.getElem_append_right (by omega)]
  have:=hb (j - a.length) (by rw [List.length_append] at hj;omega);rw [show i+a.length+(j - a.length)=i+j by omega] at this;exact this
theorem zdZ.ext {F:Nat -> Prop} {w w':World} {i:Nat} {l:List FR} (h:zdZ F w i l) (hx:Ext w w'):zdZ F w' i l:=fun j hj=>(h j hj).ext hx
theorem zdZ.mono {F F':Nat -> Prop} {w:World} {i:Nat} {l:List FR} (h:zdZ F w i l) (hF:∀ k,F k -> F' k):zdZ F' w i l:=fun j hj=>(h j hj).mono hF
theorem zdZ.bound {F:Nat -> Prop} {w:World} {i:Nat} {l:List FR} (h:zdZ F w i l):zdZ (fun k=>F k/\k < w.heap.size) w i l:=fun j hj=>(h j hj).bound
theorem zdZ.one {F:Nat -> Prop} {w:World} {i:Nat} {l:List FR} (h:zdZ F w i l):∀ y ∈ l,∀ u ∈ frC y,u.oneCell'=true:=by
 intro y hy;obtain ⟨j,hj,rfl⟩:=List.getElem_of_mem hy;exact (h j hj).one
theorem zfY (w:World):Calls Tryz.prog 42 #[] w fun e w'=>∃ (ao:Option Addr) (cap:Nat),e=.returned (.slice ao 18 cap)/\zcP (fun k=>w.heap.size<=k/\k < w'.heap.size) w' (.slice ao 18 cap)/\Ext w w':=by
 go_enter Tryz.func42,Tryz.ntmps42;go_wp2_with fail
 refine (zeS w).mono ?_;rintro e w1 ⟨k0,r0,z0,l0,rfl,h0,f0,x0⟩;go_wp2_with fail
 refine (zeX w1).mono ?_;rintro e w2 ⟨k1,r1,z1,l1,rfl,h1,f1,x1⟩;go_wp2_with fail
 refine (zeW w2).mono ?_;rintro e w3 ⟨k2,r2,z2,l2,rfl,h2,f2,x2⟩;go_wp2_with fail
 refine (zel w3).mono ?_;rintro e w4 ⟨k3,r3,z3,l3,rfl,h3,f3,x3⟩;have y2:=x0.trans (x1.trans x2);have s1:w.heap.size<=w1.heap.size:=x0.size;have s2:w1.heap.size<=w2.heap.size:=x1.size;have s3:w2.heap.size<=w3.heap.size:=x2.size;have g0:zdZ (fun k=>w.heap.size<=k) w4 0 r0:=zdZ.ext f0 (x1.trans (x2.trans x3));have g1:zdZ (fun k=>w.heap.size<=k) w4 6 r1:=(zdZ.ext f1 (x2.trans x3)).mono (fun k h=>by have:w1.heap.size<=k:=h;omega);have g2:zdZ (fun k=>w.heap.size<=k) w4 9 r2:=(zdZ.ext f2 x3).mono (fun k h=>by have:w2.heap.size<=k:=h;omega);have g3:zdZ (fun k=>w.heap.size<=k) w4 15 r3:=zdZ.mono f3 (fun k h=>by have:w3.heap.size<=k:=h;omega);have q0:=(x1.trans (x2.trans x3)).at h0 (fun h=>h);have q1:=(x2.trans x3).at h1 (fun h=>h);have q2:=x3.at h2 (fun h=>h);have xA:=Mod.alloc (Mod.refl (fun _=>False) w4) (.cells #[.slice (some ⟨k0,0,none⟩) 6 6,.slice (some ⟨k1,0,none⟩) 3 3,.slice (some ⟨k2,0,none⟩) 6 6,.slice (some ⟨k3,0,none⟩) 3 3] 60);have hA:=heap_alloc_new w4 (.cells #[.slice (some ⟨k0,0,none⟩) 6 6,.slice (some ⟨k1,0,none⟩) 3 3,.slice (some ⟨k2,0,none⟩) 6 6,.slice (some ⟨k3,0,none⟩) 3 3] 60);have hc:=hid (zhy w4.heap.size k0 k1 k2 k3 r0 r1 r2 r3 _ hA (xA.at q0 (fun h=>h)) l0 g0.one (xA.at q1 (fun h=>h)) l1 g1.one (xA.at q2 (fun h=>h)) l2 g2.one (xA.at h3 (fun h=>h)) l3 g3.one);have hall:zdZ (fun k=>w.heap.size<=k) w4 0 (r0++r1++r2++r3):=((g0.app (by rw [l0];exact g1)).app (by rw [List.length_append,l0,l1];exact g2)).app (by rw [List.length_append,List.length_append,l0,l1,l2];exact g3);have hlen:(r0++r1++r2++r3).length=18:=by simp only [List.length_append];omega
 have yA:=(y2.trans x3).trans xA;replace hall:=hid (hall.ext xA);replace hlen:=hid hlen;replace yA:=hid yA;clear f0 f1 f2 f3 g0 g1 g2 g3 q0 q1 q2 h0 h1 h2 h3 hA x0 x1 x2 x3 y2 z0 z1 z2 z3 xA l0 l1 l2 l3;generalize (r0++r1++r2++r3)=rows at hall hlen hc;go_wp2_with fail
 refine hc.out.mono ?_;rintro e w6 ⟨ao,cap,rfl,hO,hx⟩;have y6:=yA.out.trans hx;have hfin:zcP (fun k=>w.heap.size<=k/\k < w6.heap.size) w6 (.slice ao 18 cap):=by
  obtain ⟨ao',cap',e,h1,h2⟩:=hO.row;rw [hlen.out] at e;injection e with e1 _ e3
  subst e1 e3;obtain ⟨-,h3,h4,h5⟩:=zhu hO;refine ⟨rows,hlen.out,⟨ao,cap,by rw [hlen.out],h1,fun b off e _=>?_,by rw [hlen.out];exact h3,⟨by rw [hlen.out];decide,h4⟩,h5⟩,?_⟩
  ·have hb:=hO.block b (h2 b off e)
   have:=yA.out.size;exact ⟨by omega,hb.2⟩
  ·intro j hj
   have:=((hall.out.ext hx).bound) j hj;rw [Nat.zero_add] at this;exact this
 replace hfin:=hid hfin;replace y6:=hid y6;clear hO hx hc;go_wp2_with fail
 go_ret;exact ⟨ao,cap,rfl,hfin.out,y6.out⟩
def InP (l:List Bs) (w:World) (e:Ending) (w':World):Prop:=∃ (ao:Option Addr) (cap:Nat),e=.returned (.slice ao l.length cap)/\zbw (fun k=>w.heap.size<=k/\k < w'.heap.size) w' (.slice ao l.length cap) l/\Ext w w'
theorem zaz {w W:World} (hx:Ext w W) (l:List Bs) {cs:Array Value} (hcs:(l.flatMap zdj).toArray=cs) {n:Nat} (hn:l.length=n) (hl:l.length<=100:=by simp):InP l w (.returned (.slice (some ⟨W.heap.size,0,none⟩) n n)) (W.alloc (.cells cs 9)):=by
 subst hcs hn;have hk:=heap_alloc_new W (.cells (l.flatMap zdj).toArray 9);refine ⟨_,_,rfl,⟨_,_,rfl,zaR.block hk,fun b off e _=>?_,Nat.le_refl _,⟨by omega,by omega⟩,fun e=>nomatch e⟩,hx.alloc _⟩;injection e with e
 injection e with e1 e2 e3
 subst e1;have:=hx.size;exact ⟨this,zat hk⟩
theorem zkO (a1:Option Addr) (n1 c1:Nat) (a2:Option Addr) (n2 c2:Nat) (a3:Option Addr) (n3 c3:Nat) (f:Fc) (w:World) (hG:Gl w) (h:FcAt (fun k=>k < w.heap.size) w ⟨.slice a1 n1 c1,.slice a2 n2 c2,.slice a3 n3 c3⟩ f) (ok:FcOk f):Calls Tryz.prog 113 #[.agg (fcA a1 n1 c1 a2 n2 c2 a3 n3 c3 f)] w (InP ([itoa f.ed]) w):=by
 obtain ⟨V,hV⟩:∃ V,V=fcA a1 n1 c1 a2 n2 c2 a3 n3 c3 f:=⟨_,rfl⟩;rw [<- hV];have v15:V[15]?=some (.int .i64 f.ed):=by rw [hV];rfl
 have hx0:=Mod.alloc (Mod.refl (fun _=>False) w) (.cells V 28);have hT:=heap_alloc_new w (.cells V 28);have hwT:w.heap.size<=(w.alloc (.cells V 28)).heap.size:=hx0.size;replace hV:=hid hV;replace hG:=hid hG;replace h:=hid h;replace ok:=hid ok;replace hx0:=hid hx0;replace hT:=hid hT;replace v15:=hid v15;go_enter Tryz.func113,Tryz.ntmps113;go_upto_region 1 with fail
 generalize (w.alloc _)=W at hx0 hT hwT ⊢;generalize w.heap.size=T at hT ⊢;have q15:W.cell? ⟨T,15,none⟩=some (.int .i64 f.ed):=(zaa hT.out 15).trans v15.out;go_wp2_with fail
 refine (zaw f.ed ok.out.ed W (hG.out.ext hx0.out)).mono ?_;rintro e W1 ⟨rfl,hxn⟩;have hx1:=hid (hx0.out.trans hxn);clear hxn;go_wp2_with fail
 go_ret;exact zaz hx1.out [itoa f.ed] rfl rfl
theorem zld (a1:Option Addr) (n1 c1:Nat) (a2:Option Addr) (n2 c2:Nat) (a3:Option Addr) (n3 c3:Nat) (f:Fc) (w:World) (hG:Gl w) (h:FcAt (fun k=>k < w.heap.size) w ⟨.slice a1 n1 c1,.slice a2 n2 c2,.slice a3 n3 c3⟩ f) (ok:FcOk f):Calls Tryz.prog 115 #[.agg (fcA a1 n1 c1 a2 n2 c2 a3 n3 c3 f)] w (InP ([labelW f.lb]) w):=by
 obtain ⟨V,hV⟩:∃ V,V=fcA a1 n1 c1 a2 n2 c2 a3 n3 c3 f:=⟨_,rfl⟩;rw [<- hV];have v11:V[11]?=some (.int .i64 f.lb.til):=by rw [hV];rfl
 have v12:V[12]?=some (.slice a3 n3 c3):=by rw [hV];rfl
 have v13:V[13]?=some (.int .i64 f.lb.app):=by rw [hV];rfl
 have v14:V[14]?=some (.int .i64 f.lb.den):=by rw [hV];rfl
 have hx0:=Mod.alloc (Mod.refl (fun _=>False) w) (.cells V 28);have hT:=heap_alloc_new w (.cells V 28);have hwT:w.heap.size<=(w.alloc (.cells V 28)).heap.size:=hx0.size;replace hV:=hid hV;replace hG:=hid hG;replace h:=hid h;replace ok:=hid ok;replace hx0:=hid hx0;replace hT:=hid hT;replace v11:=hid v11;replace v12:=hid v12;replace v13:=hid v13;replace v14:=hid v14;go_enter Tryz.func115,Tryz.ntmps115;go_upto_region 1 with fail
 generalize (w.alloc _)=W at hx0 hT hwT ⊢;generalize w.heap.size=T at hT ⊢;have q11:W.cell? ⟨T,11,none⟩=some (.int .i64 f.lb.til):=(zaa hT.out 11).trans v11.out;have q12:W.cell? ⟨T,12,none⟩=some (.slice a3 n3 c3):=(zaa hT.out 12).trans v12.out;have q13:W.cell? ⟨T,13,none⟩=some (.int .i64 f.lb.app):=(zaa hT.out 13).trans v13.out;have q14:W.cell? ⟨T,14,none⟩=some (.int .i64 f.lb.den):=(zaa hT.out 14).trans v14.out;go_wp2_with fail
 refine (zc9 (.slice a3 n3 c3) f.lb W (hG.out.ext hx0.out) ((h.out.af.ext hx0.out).mono (fun k hk=>Nat.lt_of_lt_of_le hk hx0.out.size)) ok.out.lb.til ok.out.lb.app ok.out.lb.den ok.out.lb.aft ok.out.lb.len).mono ?_;rintro e W1 ⟨rfl,hxn⟩;have hx1:=hid (hx0.out.trans hxn);clear hxn;go_wp2_with fail
 go_ret;exact zaz hx1.out [labelW f.lb] rfl rfl
theorem zkI (a1:Option Addr) (n1 c1:Nat) (a2:Option Addr) (n2 c2:Nat) (a3:Option Addr) (n3 c3:Nat) (f:Fc) (w:World) (hG:Gl w) (h:FcAt (fun k=>k < w.heap.size) w ⟨.slice a1 n1 c1,.slice a2 n2 c2,.slice a3 n3 c3⟩ f) (ok:FcOk f):Calls Tryz.prog 119 #[.agg (fcA a1 n1 c1 a2 n2 c2 a3 n3 c3 f)] w (InP ([f.lg,itoa f.bk,itoa f.se,f.tx]) w):=by
 obtain ⟨V,hV⟩:∃ V,V=fcA a1 n1 c1 a2 n2 c2 a3 n3 c3 f:=⟨_,rfl⟩;rw [<- hV];have v4:V[4]?=some (.string ⟨f.lg.toArray⟩):=by rw [hV];rfl
 have v16:V[16]?=some (.int .i64 f.bk):=by rw [hV];rfl
 have v17:V[17]?=some (.int .i64 f.se):=by rw [hV];rfl
 have v18:V[18]?=some (.string ⟨f.tx.toArray⟩):=by rw [hV];rfl
 have hx0:=Mod.alloc (Mod.refl (fun _=>False) w) (.cells V 28);have hT:=heap_alloc_new w (.cells V 28);have hwT:w.heap.size<=(w.alloc (.cells V 28)).heap.size:=hx0.size;replace hV:=hid hV;replace hG:=hid hG;replace h:=hid h;replace ok:=hid ok;replace hx0:=hid hx0;replace hT:=hid hT;replace v4:=hid v4;replace v16:=hid v16;replace v17:=hid v17;replace v18:=hid v18;go_enter Tryz.func119,Tryz.ntmps119;go_upto_region 1 with fail
 generalize (w.alloc _)=W at hx0 hT hwT ⊢;generalize w.heap.size=T at hT ⊢;have hT0:=hid ((Mod.drew0 (fun _=>False) W).at hT.out (fun h=>h));have hy0:=hid (hx0.out.drew);clear hT hx0;refine zad (fun w'=>w'.heap[T]?=some (.cells V 28 (0,0))) [(0,true),(1,true),(2,true),(3,true),(5,true),(6,true),(8,true),(9,true),(4,false),(7,false),(10,false),(11,true)] (by as_aux_lemma=>kernel_rfl) (by as_aux_lemma=>kernel_rfl) (by as_aux_lemma=>kernel_rfl) (by decide) hT0.out ?_;generalize W.drew=W0 at hT0 hy0 ⊢;simp only [zak,List.map_cons,List.map_nil,List.getD_cons_zero,List.getD_cons_succ];repeat (refine zaB (by rfl) ?_ (fun w' hC=>?_) ?_;rotate_left;(have q4:w'.cell? ⟨T,4,none⟩=some (.string ⟨f.lg.toArray⟩):=(zaa hC 4).trans v4.out;have q16:w'.cell? ⟨T,16,none⟩=some (.int .i64 f.bk):=(zaa hC 16).trans v16.out;have q17:w'.cell? ⟨T,17,none⟩=some (.int .i64 f.se):=(zaa hC 17).trans v17.out;have q18:w'.cell? ⟨T,18,none⟩=some (.string ⟨f.tx.toArray⟩):=(zaa hC 18).trans v18.out;go_simp;try with_reducible rfl);try simp only [Act.put,sA,sZ,sS])
 refine zaj (by rfl) (fun K hK=>?_);go_simp;refine (zaw f.bk ok.out.bk W0 (hG.out.ext hy0.out)).mono ?_;rintro e W1 ⟨rfl,hxn⟩;refine hK.out _ _ (hxn.at hT0.out (fun h=>h)) ?_;have hT1:=hid (hxn.at hT0.out (fun h=>h));have hy1:=hid (hy0.out.trans hxn);clear hK K hT0 hy0 hxn;try simp only [Act.put,sA,sZ,sS]
 refine zaj (by rfl) (fun K hK=>?_);go_simp;refine (zaw f.se ok.out.se W1 (hG.out.ext hy1.out)).mono ?_;rintro e W2 ⟨rfl,hxn⟩;refine hK.out _ _ (hxn.at hT1.out (fun h=>h)) ?_;have hT2:=hid (hxn.at hT1.out (fun h=>h));have hy2:=hid (hy1.out.trans hxn);clear hK K hT1 hy1 hxn;try simp only [Act.put,sA,sZ,sS]
 repeat (refine qT ?_)
 refine zaj (by rfl) (fun K hK=>?_);go_simp;have hfin:=hid (zaz hy2.out [f.lg,itoa f.bk,itoa f.se,f.tx] rfl rfl);refine hK.out _ _ ((Mod.alloc (Mod.refl (fun _=>False) W2) _).at hT2.out (fun h=>h)) ?_;clear hK K hT2 hy2;try simp only [Act.put,sA,sZ,sS]
 repeat (refine qT ?_)
 refine zas ?_;go_wp2_with fail
 go_ret;exact hfin.out
theorem zlI (a1:Option Addr) (n1 c1:Nat) (a2:Option Addr) (n2 c2:Nat) (a3:Option Addr) (n3 c3:Nat) (f:Fc) (w:World) (hG:Gl w) (h:FcAt (fun k=>k < w.heap.size) w ⟨.slice a1 n1 c1,.slice a2 n2 c2,.slice a3 n3 c3⟩ f) (ok:FcOk f):Calls Tryz.prog 122 #[.agg (fcA a1 n1 c1 a2 n2 c2 a3 n3 c3 f)] w (InP ([f.tx]) w):=by
 obtain ⟨V,hV⟩:∃ V,V=fcA a1 n1 c1 a2 n2 c2 a3 n3 c3 f:=⟨_,rfl⟩;rw [<- hV];have v18:V[18]?=some (.string ⟨f.tx.toArray⟩):=by rw [hV];rfl
 have hx0:=Mod.alloc (Mod.refl (fun _=>False) w) (.cells V 28);have hT:=heap_alloc_new w (.cells V 28);have hwT:w.heap.size<=(w.alloc (.cells V 28)).heap.size:=hx0.size;replace hV:=hid hV;replace hG:=hid hG;replace h:=hid h;replace ok:=hid ok;replace hx0:=hid hx0;replace hT:=hid hT;replace v18:=hid v18;go_enter Tryz.func122,Tryz.ntmps122;go_upto_region 1 with fail
 generalize (w.alloc _)=W at hx0 hT hwT ⊢;generalize w.heap.size=T at hT ⊢;have q18:W.cell? ⟨T,18,none⟩=some (.string ⟨f.tx.toArray⟩):=(zaa hT.out 18).trans v18.out;go_wp2_with fail
 go_ret;exact zaz hx0.out [f.tx] rfl rfl
theorem zkq (a1:Option Addr) (n1 c1:Nat) (a2:Option Addr) (n2 c2:Nat) (a3:Option Addr) (n3 c3:Nat) (f:Fc) (w:World) (hG:Gl w) (h:FcAt (fun k=>k < w.heap.size) w ⟨.slice a1 n1 c1,.slice a2 n2 c2,.slice a3 n3 c3⟩ f) (ok:FcOk f):Calls Tryz.prog 124 #[.agg (fcA a1 n1 c1 a2 n2 c2 a3 n3 c3 f)] w (InP ([]) w):=by
 obtain ⟨V,hV⟩:∃ V,V=fcA a1 n1 c1 a2 n2 c2 a3 n3 c3 f:=⟨_,rfl⟩;rw [<- hV];have hx0:=Mod.alloc (Mod.refl (fun _=>False) w) (.cells V 28);have hT:=heap_alloc_new w (.cells V 28);have hwT:w.heap.size<=(w.alloc (.cells V 28)).heap.size:=hx0.size;replace hV:=hid hV;replace hG:=hid hG;replace h:=hid h;replace ok:=hid ok;replace hx0:=hid hx0;replace hT:=hid hT;go_enter Tryz.func124,Tryz.ntmps124;go_upto_region 1 with fail
 generalize (w.alloc _)=W at hx0 hT hwT ⊢;generalize w.heap.size=T at hT ⊢;go_wp2_with fail
 go_ret;exact ⟨none,0,rfl,zai.nil _ _ _,hx0.out⟩
theorem zjy (a1:Option Addr) (n1 c1:Nat) (a2:Option Addr) (n2 c2:Nat) (a3:Option Addr) (n3 c3:Nat) (a4:Option Addr) (n4 c4:Nat) (a5:Option Addr) (n5 c5:Nat) (a:Ac) (w:World) (hG:Gl w) (h:AcAt (fun k=>k < w.heap.size) w ⟨⟨.slice a1 n1 c1,.slice a2 n2 c2,.slice a3 n3 c3⟩,.slice a4 n4 c4,.slice a5 n5 c5⟩ a) (ok:AcOk a):Calls Tryz.prog 126 #[.agg (acA a1 n1 c1 a2 n2 c2 a3 n3 c3 a4 n4 c4 a5 n5 c5 a)] w (InP ([a.fc.nm,hexW a.fc.tx]) w):=by
 obtain ⟨V,hV⟩:∃ V,V=acA a1 n1 c1 a2 n2 c2 a3 n3 c3 a4 n4 c4 a5 n5 c5 a:=⟨_,rfl⟩;rw [<- hV];have v20:V[20]?=some (.string ⟨a.fc.nm.toArray⟩):=by rw [hV];rfl
 have v19:V[19]?=some (.string ⟨a.fc.tx.toArray⟩):=by rw [hV];rfl
 have hx0:=Mod.alloc (Mod.refl (fun _=>False) w) (.cells V 32);have hT:=heap_alloc_new w (.cells V 32);have hwT:w.heap.size<=(w.alloc (.cells V 32)).heap.size:=hx0.size;replace hV:=hid hV;replace hG:=hid hG;replace h:=hid h;replace ok:=hid ok;replace hx0:=hid hx0;replace hT:=hid hT;replace v20:=hid v20;replace v19:=hid v19;go_enter Tryz.func126,Tryz.ntmps126;go_upto_region 1 with fail
 generalize (w.alloc _)=W at hx0 hT hwT ⊢;generalize w.heap.size=T at hT ⊢;have hT0:=hid ((Mod.drew0 (fun _=>False) W).at hT.out (fun h=>h));have hy0:=hid (hx0.out.drew);clear hT hx0;refine zad (fun w'=>w'.heap[T]?=some (.cells V 32 (0,0))) [(0,true),(1,true),(2,true),(3,true),(4,true),(5,true),(6,false),(7,false),(8,true)] (by as_aux_lemma=>kernel_rfl) (by as_aux_lemma=>kernel_rfl) (by as_aux_lemma=>kernel_rfl) (by decide) hT0.out ?_;generalize W.drew=W0 at hT0 hy0 ⊢;simp only [zak,List.map_cons,List.map_nil,List.getD_cons_zero,List.getD_cons_succ];repeat (refine zaB (by rfl) ?_ (fun w' hC=>?_) ?_;rotate_left;(have q20:w'.cell? ⟨T,20,none⟩=some (.string ⟨a.fc.nm.toArray⟩):=(zaa hC 20).trans v20.out;have q19:w'.cell? ⟨T,19,none⟩=some (.string ⟨a.fc.tx.toArray⟩):=(zaa hC 19).trans v19.out;go_simp;try with_reducible rfl);try simp only [Act.put,sA,sZ,sS])
 refine zaj (by rfl) (fun K hK=>?_);go_simp;refine (zcX a.fc.tx W0 (by have:=ok.out.fc.tx;omega)).mono ?_;rintro e W1 ⟨rfl,hxn⟩;refine hK.out _ _ (hxn.at hT0.out (fun h=>h)) ?_;have hT1:=hid (hxn.at hT0.out (fun h=>h));have hy1:=hid (hy0.out.trans hxn);clear hK K hT0 hy0 hxn;try simp only [Act.put,sA,sZ,sS]
 repeat (refine qT ?_)
 refine zaj (by rfl) (fun K hK=>?_);go_simp;have hfin:=hid (zaz hy1.out [a.fc.nm,hexW a.fc.tx] rfl rfl);refine hK.out _ _ ((Mod.alloc (Mod.refl (fun _=>False) W1) _).at hT1.out (fun h=>h)) ?_;clear hK K hT1 hy1;try simp only [Act.put,sA,sZ,sS]
 repeat (refine qT ?_)
 refine zas ?_;go_wp2_with fail
 go_ret;exact hfin.out
theorem znC (a1:Option Addr) (n1 c1:Nat) (a2:Option Addr) (n2 c2:Nat) (a3:Option Addr) (n3 c3:Nat) (a4:Option Addr) (n4 c4:Nat) (a5:Option Addr) (n5 c5:Nat) (a:Ac) (w:World) (hG:Gl w) (h:AcAt (fun k=>k < w.heap.size) w ⟨⟨.slice a1 n1 c1,.slice a2 n2 c2,.slice a3 n3 c3⟩,.slice a4 n4 c4,.slice a5 n5 c5⟩ a) (ok:AcOk a):Calls Tryz.prog 132 #[.agg (acA a1 n1 c1 a2 n2 c2 a3 n3 c3 a4 n4 c4 a5 n5 c5 a)] w (InP ([itoa a.fc.pa,itoa a.fc.un]) w):=by
 obtain ⟨V,hV⟩:∃ V,V=acA a1 n1 c1 a2 n2 c2 a3 n3 c3 a4 n4 c4 a5 n5 c5 a:=⟨_,rfl⟩;rw [<- hV];have v21:V[21]?=some (.int .i64 a.fc.pa):=by rw [hV];rfl
 have v23:V[23]?=some (.int .i64 a.fc.un):=by rw [hV];rfl
 have hx0:=Mod.alloc (Mod.refl (fun _=>False) w) (.cells V 32);have hT:=heap_alloc_new w (.cells V 32);have hwT:w.heap.size<=(w.alloc (.cells V 32)).heap.size:=hx0.size;replace hV:=hid hV;replace hG:=hid hG;replace h:=hid h;replace ok:=hid ok;replace hx0:=hid hx0;replace hT:=hid hT;replace v21:=hid v21;replace v23:=hid v23;go_enter Tryz.func132,Tryz.ntmps132;go_upto_region 1 with fail
 generalize (w.alloc _)=W at hx0 hT hwT ⊢;generalize w.heap.size=T at hT ⊢;have hT0:=hid ((Mod.drew0 (fun _=>False) W).at hT.out (fun h=>h));have hy0:=hid (hx0.out.drew);clear hT hx0;refine zad (fun w'=>w'.heap[T]?=some (.cells V 32 (0,0))) [(0,true),(1,true),(2,true),(4,true),(5,true),(6,true),(3,false),(7,false),(8,false),(9,true)] (by as_aux_lemma=>kernel_rfl) (by as_aux_lemma=>kernel_rfl) (by as_aux_lemma=>kernel_rfl) (by decide) hT0.out ?_;generalize W.drew=W0 at hT0 hy0 ⊢;simp only [zak,List.map_cons,List.map_nil,List.getD_cons_zero,List.getD_cons_succ];repeat (refine zaB (by rfl) ?_ (fun w' hC=>?_) ?_;rotate_left;(have q21:w'.cell? ⟨T,21,none⟩=some (.int .i64 a.fc.pa):=(zaa hC 21).trans v21.out;have q23:w'.cell? ⟨T,23,none⟩=some (.int .i64 a.fc.un):=(zaa hC 23).trans v23.out;go_simp;try with_reducible rfl);try simp only [Act.put,sA,sZ,sS])
 refine zaj (by rfl) (fun K hK=>?_);go_simp;refine (zaw a.fc.pa ok.out.fc.pa W0 (hG.out.ext hy0.out)).mono ?_;rintro e W1 ⟨rfl,hxn⟩;refine hK.out _ _ (hxn.at hT0.out (fun h=>h)) ?_;have hT1:=hid (hxn.at hT0.out (fun h=>h));have hy1:=hid (hy0.out.trans hxn);clear hK K hT0 hy0 hxn;try simp only [Act.put,sA,sZ,sS]
 refine zaj (by rfl) (fun K hK=>?_);go_simp;refine (zaw a.fc.un ok.out.fc.un W1 (hG.out.ext hy1.out)).mono ?_;rintro e W2 ⟨rfl,hxn⟩;refine hK.out _ _ (hxn.at hT1.out (fun h=>h)) ?_;have hT2:=hid (hxn.at hT1.out (fun h=>h));have hy2:=hid (hy1.out.trans hxn);clear hK K hT1 hy1 hxn;try simp only [Act.put,sA,sZ,sS]
 repeat (refine qT ?_)
 refine zaj (by rfl) (fun K hK=>?_);go_simp;have hfin:=hid (zaz hy2.out [itoa a.fc.pa,itoa a.fc.un] rfl rfl);refine hK.out _ _ ((Mod.alloc (Mod.refl (fun _=>False) W2) _).at hT2.out (fun h=>h)) ?_;clear hK K hT2 hy2;try simp only [Act.put,sA,sZ,sS]
 repeat (refine qT ?_)
 refine zas ?_;go_wp2_with fail
 go_ret;exact hfin.out
theorem zg0 (a1:Option Addr) (n1 c1:Nat) (a2:Option Addr) (n2 c2:Nat) (a3:Option Addr) (n3 c3:Nat) (a4:Option Addr) (n4 c4:Nat) (a5:Option Addr) (n5 c5:Nat) (a:Ac) (w:World) (hG:Gl w) (h:AcAt (fun k=>k < w.heap.size) w ⟨⟨.slice a1 n1 c1,.slice a2 n2 c2,.slice a3 n3 c3⟩,.slice a4 n4 c4,.slice a5 n5 c5⟩ a) (ok:AcOk a):Calls Tryz.prog 134 #[.agg (acA a1 n1 c1 a2 n2 c2 a3 n3 c3 a4 n4 c4 a5 n5 c5 a)] w (InP ([itoa a.n]) w):=by
 obtain ⟨V,hV⟩:∃ V,V=acA a1 n1 c1 a2 n2 c2 a3 n3 c3 a4 n4 c4 a5 n5 c5 a:=⟨_,rfl⟩;rw [<- hV];have v24:V[24]?=some (.int .i64 a.n):=by rw [hV];rfl
 have hx0:=Mod.alloc (Mod.refl (fun _=>False) w) (.cells V 32);have hT:=heap_alloc_new w (.cells V 32);have hwT:w.heap.size<=(w.alloc (.cells V 32)).heap.size:=hx0.size;replace hV:=hid hV;replace hG:=hid hG;replace h:=hid h;replace ok:=hid ok;replace hx0:=hid hx0;replace hT:=hid hT;replace v24:=hid v24;go_enter Tryz.func134,Tryz.ntmps134;go_upto_region 1 with fail
 generalize (w.alloc _)=W at hx0 hT hwT ⊢;generalize w.heap.size=T at hT ⊢;have q24:W.cell? ⟨T,24,none⟩=some (.int .i64 a.n):=(zaa hT.out 24).trans v24.out;go_wp2_with fail
 refine (zaw a.n ok.out.n W (hG.out.ext hx0.out)).mono ?_;rintro e W1 ⟨rfl,hxn⟩;have hx1:=hid (hx0.out.trans hxn);clear hxn;go_wp2_with fail
 go_ret;exact zaz hx1.out [itoa a.n] rfl rfl
theorem znb (a1:Option Addr) (n1 c1:Nat) (a2:Option Addr) (n2 c2:Nat) (a3:Option Addr) (n3 c3:Nat) (a4:Option Addr) (n4 c4:Nat) (a5:Option Addr) (n5 c5:Nat) (a:Ac) (w:World) (hG:Gl w) (h:AcAt (fun k=>k < w.heap.size) w ⟨⟨.slice a1 n1 c1,.slice a2 n2 c2,.slice a3 n3 c3⟩,.slice a4 n4 c4,.slice a5 n5 c5⟩ a) (ok:AcOk a):Calls Tryz.prog 136 #[.agg (acA a1 n1 c1 a2 n2 c2 a3 n3 c3 a4 n4 c4 a5 n5 c5 a)] w (InP ([listW (a.fa.map itoa)]) w):=by
 obtain ⟨V,hV⟩:∃ V,V=acA a1 n1 c1 a2 n2 c2 a3 n3 c3 a4 n4 c4 a5 n5 c5 a:=⟨_,rfl⟩;rw [<- hV];have v27:V[27]?=some (.slice a4 n4 c4):=by rw [hV];rfl
 have hx0:=Mod.alloc (Mod.refl (fun _=>False) w) (.cells V 32);have hT:=heap_alloc_new w (.cells V 32);have hwT:w.heap.size<=(w.alloc (.cells V 32)).heap.size:=hx0.size;replace hV:=hid hV;replace hG:=hid hG;replace h:=hid h;replace ok:=hid ok;replace hx0:=hid hx0;replace hT:=hid hT;replace v27:=hid v27;go_enter Tryz.func136,Tryz.ntmps136;go_upto_region 1 with fail
 generalize (w.alloc _)=W at hx0 hT hwT ⊢;generalize w.heap.size=T at hT ⊢;have q27:W.cell? ⟨T,27,none⟩=some (.slice a4 n4 c4):=(zaa hT.out 27).trans v27.out;go_wp2_with fail
 refine (zbz (.slice a4 n4 c4) a.fa ok.out.fa W (hG.out.ext hx0.out) ((h.out.fa.ext hx0.out).mono (fun k hk=>Nat.lt_of_lt_of_le hk hx0.out.size)) ok.out.fal (by have:=zd9 a.fa;have:=ok.out.fal;omega)).mono ?_;rintro e W1 ⟨rfl,hxn⟩;have hx1:=hid (hx0.out.trans hxn);clear hxn;go_wp2_with fail
 go_ret;exact zaz hx1.out [listW (a.fa.map itoa)] rfl rfl
theorem znH (a1:Option Addr) (n1 c1:Nat) (a2:Option Addr) (n2 c2:Nat) (a3:Option Addr) (n3 c3:Nat) (a4:Option Addr) (n4 c4:Nat) (a5:Option Addr) (n5 c5:Nat) (a:Ac) (w:World) (hG:Gl w) (h:AcAt (fun k=>k < w.heap.size) w ⟨⟨.slice a1 n1 c1,.slice a2 n2 c2,.slice a3 n3 c3⟩,.slice a4 n4 c4,.slice a5 n5 c5⟩ a) (ok:AcOk a):Calls Tryz.prog 140 #[.agg (acA a1 n1 c1 a2 n2 c2 a3 n3 c3 a4 n4 c4 a5 n5 c5 a)] w (InP ([itoa a.n,listW (a.ke.map itoa)]) w):=by
 obtain ⟨V,hV⟩:∃ V,V=acA a1 n1 c1 a2 n2 c2 a3 n3 c3 a4 n4 c4 a5 n5 c5 a:=⟨_,rfl⟩;rw [<- hV];have v24:V[24]?=some (.int .i64 a.n):=by rw [hV];rfl
 have v28:V[28]?=some (.slice a5 n5 c5):=by rw [hV];rfl
 have hx0:=Mod.alloc (Mod.refl (fun _=>False) w) (.cells V 32);have hT:=heap_alloc_new w (.cells V 32);have hwT:w.heap.size<=(w.alloc (.cells V 32)).heap.size:=hx0.size;replace hV:=hid hV;replace hG:=hid hG;replace h:=hid h;replace ok:=hid ok;replace hx0:=hid hx0;replace hT:=hid hT;replace v24:=hid v24;replace v28:=hid v28;go_enter Tryz.func140,Tryz.ntmps140;go_upto_region 1 with fail
 generalize (w.alloc _)=W at hx0 hT hwT ⊢;generalize w.heap.size=T at hT ⊢;have hT0:=hid ((Mod.drew0 (fun _=>False) W).at hT.out (fun h=>h));have hy0:=hid (hx0.out.drew);clear hT hx0;refine zad (fun w'=>w'.heap[T]?=some (.cells V 32 (0,0))) [(0,true),(1,true),(3,true),(4,true),(2,false),(5,false),(6,false),(7,true)] (by as_aux_lemma=>kernel_rfl) (by as_aux_lemma=>kernel_rfl) (by as_aux_lemma=>kernel_rfl) (by decide) hT0.out ?_;generalize W.drew=W0 at hT0 hy0 ⊢;simp only [zak,List.map_cons,List.map_nil,List.getD_cons_zero,List.getD_cons_succ];repeat (refine zaB (by rfl) ?_ (fun w' hC=>?_) ?_;rotate_left;(have q24:w'.cell? ⟨T,24,none⟩=some (.int .i64 a.n):=(zaa hC 24).trans v24.out;have q28:w'.cell? ⟨T,28,none⟩=some (.slice a5 n5 c5):=(zaa hC 28).trans v28.out;go_simp;try with_reducible rfl);try simp only [Act.put,sA,sZ,sS])
 refine zaj (by rfl) (fun K hK=>?_);go_simp;refine (zaw a.n ok.out.n W0 (hG.out.ext hy0.out)).mono ?_;rintro e W1 ⟨rfl,hxn⟩;refine hK.out _ _ (hxn.at hT0.out (fun h=>h)) ?_;have hT1:=hid (hxn.at hT0.out (fun h=>h));have hy1:=hid (hy0.out.trans hxn);clear hK K hT0 hy0 hxn;try simp only [Act.put,sA,sZ,sS]
 refine zaj (by rfl) (fun K hK=>?_);go_simp;refine (zbz (.slice a5 n5 c5) a.ke ok.out.ke W1 (hG.out.ext hy1.out) ((h.out.ke.ext hy1.out).mono (fun k hk=>Nat.lt_of_lt_of_le hk hy1.out.size)) ok.out.kel (by have:=zd9 a.ke;have:=ok.out.kel;omega)).mono ?_;rintro e W2 ⟨rfl,hxn⟩;refine hK.out _ _ (hxn.at hT1.out (fun h=>h)) ?_;have hT2:=hid (hxn.at hT1.out (fun h=>h));have hy2:=hid (hy1.out.trans hxn);clear hK K hT1 hy1 hxn;try simp only [Act.put,sA,sZ,sS]
 repeat (refine qT ?_)
 refine zaj (by rfl) (fun K hK=>?_);go_simp;have hfin:=hid (zaz hy2.out [itoa a.n,listW (a.ke.map itoa)] rfl rfl);refine hK.out _ _ ((Mod.alloc (Mod.refl (fun _=>False) W2) _).at hT2.out (fun h=>h)) ?_;clear hK K hT2 hy2;try simp only [Act.put,sA,sZ,sS]
 repeat (refine qT ?_)
 refine zas ?_;go_wp2_with fail
 go_ret;exact hfin.out
theorem znd (a1:Option Addr) (n1 c1:Nat) (a2:Option Addr) (n2 c2:Nat) (a3:Option Addr) (n3 c3:Nat) (a4:Option Addr) (n4 c4:Nat) (a5:Option Addr) (n5 c5:Nat) (a:Ac) (w:World) (hG:Gl w) (h:AcAt (fun k=>k < w.heap.size) w ⟨⟨.slice a1 n1 c1,.slice a2 n2 c2,.slice a3 n3 c3⟩,.slice a4 n4 c4,.slice a5 n5 c5⟩ a) (ok:AcOk a):Calls Tryz.prog 142 #[.agg (acA a1 n1 c1 a2 n2 c2 a3 n3 c3 a4 n4 c4 a5 n5 c5 a)] w (InP ([]) w):=by
 obtain ⟨V,hV⟩:∃ V,V=acA a1 n1 c1 a2 n2 c2 a3 n3 c3 a4 n4 c4 a5 n5 c5 a:=⟨_,rfl⟩;rw [<- hV];have hx0:=Mod.alloc (Mod.refl (fun _=>False) w) (.cells V 32);have hT:=heap_alloc_new w (.cells V 32);have hwT:w.heap.size<=(w.alloc (.cells V 32)).heap.size:=hx0.size;replace hV:=hid hV;replace hG:=hid hG;replace h:=hid h;replace ok:=hid ok;replace hx0:=hid hx0;replace hT:=hid hT;go_enter Tryz.func142,Tryz.ntmps142;go_upto_region 1 with fail
 generalize (w.alloc _)=W at hx0 hT hwT ⊢;generalize w.heap.size=T at hT ⊢;go_wp2_with fail
 go_ret;exact ⟨none,0,rfl,zai.nil _ _ _,hx0.out⟩
theorem zon (a1:Option Addr) (n1 c1:Nat) (a2:Option Addr) (n2 c2:Nat) (a3:Option Addr) (n3 c3:Nat) (a4:Option Addr) (n4 c4:Nat) (a5:Option Addr) (n5 c5:Nat) (a:Ac) (w:World) (hG:Gl w) (h:AcAt (fun k=>k < w.heap.size) w ⟨⟨.slice a1 n1 c1,.slice a2 n2 c2,.slice a3 n3 c3⟩,.slice a4 n4 c4,.slice a5 n5 c5⟩ a) (ok:AcOk a):Calls Tryz.prog 144 #[.agg (acA a1 n1 c1 a2 n2 c2 a3 n3 c3 a4 n4 c4 a5 n5 c5 a)] w (InP ([itoa a.cl,a.tx]) w):=by
 obtain ⟨V,hV⟩:∃ V,V=acA a1 n1 c1 a2 n2 c2 a3 n3 c3 a4 n4 c4 a5 n5 c5 a:=⟨_,rfl⟩;rw [<- hV];have v25:V[25]?=some (.int .i64 a.cl):=by rw [hV];rfl
 have v26:V[26]?=some (.string ⟨a.tx.toArray⟩):=by rw [hV];rfl
 have hx0:=Mod.alloc (Mod.refl (fun _=>False) w) (.cells V 32);have hT:=heap_alloc_new w (.cells V 32);have hwT:w.heap.size<=(w.alloc (.cells V 32)).heap.size:=hx0.size;replace hV:=hid hV;replace hG:=hid hG;replace h:=hid h;replace ok:=hid ok;replace hx0:=hid hx0;replace hT:=hid hT;replace v25:=hid v25;replace v26:=hid v26;go_enter Tryz.func144,Tryz.ntmps144;go_upto_region 1 with fail
 generalize (w.alloc _)=W at hx0 hT hwT ⊢;generalize w.heap.size=T at hT ⊢;have hT0:=hid ((Mod.drew0 (fun _=>False) W).at hT.out (fun h=>h));have hy0:=hid (hx0.out.drew);clear hT hx0;refine zad (fun w'=>w'.heap[T]?=some (.cells V 32 (0,0))) [(0,true),(1,true),(3,true),(4,true),(2,false),(5,false),(6,true)] (by as_aux_lemma=>kernel_rfl) (by as_aux_lemma=>kernel_rfl) (by as_aux_lemma=>kernel_rfl) (by decide) hT0.out ?_;generalize W.drew=W0 at hT0 hy0 ⊢;simp only [zak,List.map_cons,List.map_nil,List.getD_cons_zero,List.getD_cons_succ];repeat (refine zaB (by rfl) ?_ (fun w' hC=>?_) ?_;rotate_left;(have q25:w'.cell? ⟨T,25,none⟩=some (.int .i64 a.cl):=(zaa hC 25).trans v25.out;have q26:w'.cell? ⟨T,26,none⟩=some (.string ⟨a.tx.toArray⟩):=(zaa hC 26).trans v26.out;go_simp;try with_reducible rfl);try simp only [Act.put,sA,sZ,sS])
 refine zaj (by rfl) (fun K hK=>?_);go_simp;refine (zaw a.cl ok.out.cl W0 (hG.out.ext hy0.out)).mono ?_;rintro e W1 ⟨rfl,hxn⟩;refine hK.out _ _ (hxn.at hT0.out (fun h=>h)) ?_;have hT1:=hid (hxn.at hT0.out (fun h=>h));have hy1:=hid (hy0.out.trans hxn);clear hK K hT0 hy0 hxn;try simp only [Act.put,sA,sZ,sS]
 repeat (refine qT ?_)
 refine zaj (by rfl) (fun K hK=>?_);go_simp;have hfin:=hid (zaz hy1.out [itoa a.cl,a.tx] rfl rfl);refine hK.out _ _ ((Mod.alloc (Mod.refl (fun _=>False) W1) _).at hT1.out (fun h=>h)) ?_;clear hK K hT1 hy1;try simp only [Act.put,sA,sZ,sS]
 repeat (refine qT ?_)
 refine zas ?_;go_wp2_with fail
 go_ret;exact hfin.out
theorem zmu (a1:Option Addr) (n1 c1:Nat) (a2:Option Addr) (n2 c2:Nat) (a3:Option Addr) (n3 c3:Nat) (a4:Option Addr) (n4 c4:Nat) (a5:Option Addr) (n5 c5:Nat) (a:Ac) (w:World) (hG:Gl w) (h:AcAt (fun k=>k < w.heap.size) w ⟨⟨.slice a1 n1 c1,.slice a2 n2 c2,.slice a3 n3 c3⟩,.slice a4 n4 c4,.slice a5 n5 c5⟩ a) (ok:AcOk a):Calls Tryz.prog 146 #[.agg (acA a1 n1 c1 a2 n2 c2 a3 n3 c3 a4 n4 c4 a5 n5 c5 a)] w (InP ([itoa a.cl,itoa a.n,a.tx]) w):=by
 obtain ⟨V,hV⟩:∃ V,V=acA a1 n1 c1 a2 n2 c2 a3 n3 c3 a4 n4 c4 a5 n5 c5 a:=⟨_,rfl⟩;rw [<- hV];have v25:V[25]?=some (.int .i64 a.cl):=by rw [hV];rfl
 have v24:V[24]?=some (.int .i64 a.n):=by rw [hV];rfl
 have v26:V[26]?=some (.string ⟨a.tx.toArray⟩):=by rw [hV];rfl
 have hx0:=Mod.alloc (Mod.refl (fun _=>False) w) (.cells V 32);have hT:=heap_alloc_new w (.cells V 32);have hwT:w.heap.size<=(w.alloc (.cells V 32)).heap.size:=hx0.size;replace hV:=hid hV;replace hG:=hid hG;replace h:=hid h;replace ok:=hid ok;replace hx0:=hid hx0;replace hT:=hid hT;replace v25:=hid v25;replace v24:=hid v24;replace v26:=hid v26;go_enter Tryz.func146,Tryz.ntmps146;go_upto_region 1 with fail
 generalize (w.alloc _)=W at hx0 hT hwT ⊢;generalize w.heap.size=T at hT ⊢;have hT0:=hid ((Mod.drew0 (fun _=>False) W).at hT.out (fun h=>h));have hy0:=hid (hx0.out.drew);clear hT hx0;refine zad (fun w'=>w'.heap[T]?=some (.cells V 32 (0,0))) [(0,true),(1,true),(3,true),(4,true),(6,true),(7,true),(2,false),(5,false),(8,false),(9,true)] (by as_aux_lemma=>kernel_rfl) (by as_aux_lemma=>kernel_rfl) (by as_aux_lemma=>kernel_rfl) (by decide) hT0.out ?_;generalize W.drew=W0 at hT0 hy0 ⊢;simp only [zak,List.map_cons,List.map_nil,List.getD_cons_zero,List.getD_cons_succ];repeat (refine zaB (by rfl) ?_ (fun w' hC=>?_) ?_;rotate_left;(have q25:w'.cell? ⟨T,25,none⟩=some (.int .i64 a.cl):=(zaa hC 25).trans v25.out;have q24:w'.cell? ⟨T,24,none⟩=some (.int .i64 a.n):=(zaa hC 24).trans v24.out;have q26:w'.cell? ⟨T,26,none⟩=some (.string ⟨a.tx.toArray⟩):=(zaa hC 26).trans v26.out;go_simp;try with_reducible rfl);try simp only [Act.put,sA,sZ,sS])
 refine zaj (by rfl) (fun K hK=>?_);go_simp;refine (zaw a.cl ok.out.cl W0 (hG.out.ext hy0.out)).mono ?_;rintro e W1 ⟨rfl,hxn⟩;refine hK.out _ _ (hxn.at hT0.out (fun h=>h)) ?_;have hT1:=hid (hxn.at hT0.out (fun h=>h));have hy1:=hid (hy0.out.trans hxn);clear hK K hT0 hy0 hxn;try simp only [Act.put,sA,sZ,sS]
 refine zaj (by rfl) (fun K hK=>?_);go_simp;refine (zaw a.n ok.out.n W1 (hG.out.ext hy1.out)).mono ?_;rintro e W2 ⟨rfl,hxn⟩;refine hK.out _ _ (hxn.at hT1.out (fun h=>h)) ?_;have hT2:=hid (hxn.at hT1.out (fun h=>h));have hy2:=hid (hy1.out.trans hxn);clear hK K hT1 hy1 hxn;try simp only [Act.put,sA,sZ,sS]
 repeat (refine qT ?_)
 refine zaj (by rfl) (fun K hK=>?_);go_simp;have hfin:=hid (zaz hy2.out [itoa a.cl,itoa a.n,a.tx] rfl rfl);refine hK.out _ _ ((Mod.alloc (Mod.refl (fun _=>False) W2) _).at hT2.out (fun h=>h)) ?_;clear hK K hT2 hy2;try simp only [Act.put,sA,sZ,sS]
 repeat (refine qT ?_)
 refine zas ?_;go_wp2_with fail
 go_ret;exact hfin.out
end Go.Proofs.YtjjfphalcibjfaaGreatDoor
