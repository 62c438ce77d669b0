import Derived.Test.YtjjfphalcibjfaaGreatDoorLoadQ
import Derived.Test.YtjjfphalcibjfaaGreatDoorU1
set_option maxRecDepth 100000
set_option maxHeartbeats 16000000
namespace Go.Proofs.YtjjfphalcibjfaaGreatDoor
open Go.Shelf Go.RowKit Cdk Scr
structure FR where
 kd:Int
 fk:Int
 wd:Bs
 wr:Value
 rd:Value
def frC (r:FR):List Value:=[.int .i64 r.kd,.int .i64 r.fk,.string ⟨r.wd.toArray⟩,r.wr,r.rd]
theorem zei (r:FR):(frC r).length=5:=rfl
def clV (f:Nat):Value:=.func (.func f) #[] #[]
def wrF:Nat -> Nat
 | 0=>111
 | 1=>113
 | 2=>115
 | 3=>119
 | 4=>122
 | 5=>124
 | 6=>126
 | 7=>130
 | 8=>132
 | 9=>134
 | 10=>134
 | 11=>134
 | 12=>136
 | 13=>140
 | 14=>142
 | 15=>144
 | 16=>146
 | 17=>148
 | _=>0
def rdF:Nat -> Nat
 | 0=>112
 | 1=>114
 | 2=>117
 | 3=>120
 | 4=>123
 | 5=>125
 | 6=>128
 | 7=>131
 | 8=>133
 | 9=>135
 | 10=>135
 | 11=>135
 | 12=>138
 | 13=>141
 | 14=>143
 | 15=>145
 | 16=>147
 | 17=>150
 | _=>0
def zpi (j:Nat):Int:=(forms.getD j ⟨0,0,[]⟩).kd
def zpJ (j:Nat):Int:=(forms.getD j ⟨0,0,[]⟩).fk
def zol (j:Nat):Bs:=(forms.getD j ⟨0,0,[]⟩).wd
def zd4 (F:Nat -> Prop) (w:World) (j:Nat) (r:FR):Prop:=
 r.kd=zpi j/\r.fk=zpJ j/\r.wd=zol j ∧
  (if j < 6 then ∃ b:Nat,F b/\F (b+1)/\r.wr=.func (.func 106) #[] #[.pointer (some ⟨b,0,none⟩)]/\r.rd=.func (.func 108) #[] #[.pointer (some ⟨b+1,0,none⟩)] ∧
    w.heap[b]?=some (.cells #[clV (wrF j)] 98 (0,0))/\w.heap[b+1]?=some (.cells #[clV (rdF j)] 122 (0,0))
   else r.wr=clV (wrF j)/\r.rd=clV (rdF j))
theorem zd4.mod {F S:Nat -> Prop} {w w':World} {j:Nat} {r:FR} (h:zd4 F w j r) (hm:Mod S w w') (hS:∀ k,F k -> ¬ S k):zd4 F w' j r:=by
 obtain ⟨h1,h2,h3,h4⟩:=h;refine ⟨h1,h2,h3,?_⟩;split at h4
 ·rename_i hj
  rw [if_pos hj];obtain ⟨b,f1,f2,e1,e2,k1,k2⟩:=h4;exact ⟨b,f1,f2,e1,e2,hm.at k1 (hS _ f1),hm.at k2 (hS _ f2)⟩
 ·rename_i hj
  rw [if_neg hj];exact h4
theorem zd4.ext {F:Nat -> Prop} {w w':World} {j:Nat} {r:FR} (h:zd4 F w j r) (hm:Ext w w'):zd4 F w' j r:=h.mod hm (fun _ _ h=>h)
theorem zd4.mono {F F':Nat -> Prop} {w:World} {j:Nat} {r:FR} (h:zd4 F w j r) (hF:∀ k,F k -> F' k):zd4 F' w j r:=by
 obtain ⟨h1,h2,h3,h4⟩:=h;refine ⟨h1,h2,h3,?_⟩;split at h4
 ·rename_i hj
  rw [if_pos hj];obtain ⟨b,f1,f2,h⟩:=h4;exact ⟨b,hF _ f1,hF _ f2,h⟩
 ·rename_i hj
  rw [if_neg hj];exact h4
def zpj (w:World) (i n:Nat) (e:Ending) (w':World):Prop:=∃ (k:Nat) (rows:List FR),w.heap.size<=k/\rows.length=n/\e=.returned (.slice (some ⟨k,0,none⟩) n n)/\w'.heap[k]?=some (.cells (rows.flatMap frC).toArray 95 (0,0)) ∧
 (∀ j (hj:j < rows.length),zd4 (fun k=>w.heap.size<=k) w' (i+j) rows[j])/\Ext w w'
theorem zcq (kd:Int) (wd:Bs) (f g:Nat) (w:World):Calls Tryz.prog 105 #[.int .i64 kd,.string ⟨wd.toArray⟩,.func (.func f) #[] #[],.func (.func g) #[] #[]] w fun e w'=>
  e=.returned (.agg #[.int .i64 1,.int .i64 kd,.string ⟨wd.toArray⟩,.func (.func 106) #[] #[.pointer (some ⟨w.heap.size,0,none⟩)],.func (.func 108) #[] #[.pointer (some ⟨w.heap.size+1,0,none⟩)]]) ∧
   w'.heap[w.heap.size]?=some (.cells #[clV f] 98 (0,0))/\w'.heap[w.heap.size+1]?=some (.cells #[clV g] 122 (0,0))/\Ext w w'/\w.heap.size+2<=w'.heap.size:=by
 go_enter Tryz.func105,Tryz.ntmps105;go_wp2_with fail
 have h0:=heap_alloc_new w (.cells #[.func (.func f) #[] #[]] 98);have hx:=Mod.alloc (Mod.refl (fun _=>False) w) (.cells #[.func (.func f) #[] #[]] 98);have hs1:(w.alloc (.cells #[.func (.func f) #[] #[]] 98)).heap.size=w.heap.size+1:=World.size_alloc _ _;generalize (w.alloc (.cells #[.func (.func f) #[] #[]] 98))=w1 at h0 hx hs1 ⊢;have h1:=heap_alloc_new w1 (.cells #[.func (.func g) #[] #[]] 122);have hx1:=Mod.alloc (Mod.refl (fun _=>False) w1) (.cells #[.func (.func g) #[] #[]] 122);have hs2:(w1.alloc (.cells #[.func (.func g) #[] #[]] 122)).heap.size=w.heap.size+2:=by rw [World.size_alloc,hs1]
 rw [hs1] at h1;generalize (w1.alloc (.cells #[.func (.func g) #[] #[]] 122))=w2 at h1 hx1 hs2 ⊢;have h2:=heap_alloc_new w2 (.cells #[.int .i64 1,.int .i64 kd,.string ⟨wd.toArray⟩,.func (.func 106) #[] #[.pointer (some ⟨w.heap.size,0,none⟩)],.func (.func 108) #[] #[.pointer (some ⟨w.heap.size+1,0,none⟩)]] 95);have hx2:=Mod.alloc (Mod.refl (fun _=>False) w2) (.cells #[.int .i64 1,.int .i64 kd,.string ⟨wd.toArray⟩,.func (.func 106) #[] #[.pointer (some ⟨w.heap.size,0,none⟩)],.func (.func 108) #[] #[.pointer (some ⟨w.heap.size+1,0,none⟩)]] 95);rw [hs2] at h2;refine bodyPost_ret (results_cell_row rfl _ _ (w.heap.size+2) _ _ _ _ rfl h2 Tryz.underlying95 rfl (by kernel_rfl)) rfl ⟨rfl,hx2.at (hx1.at h0 id) id,hx2.at h1 id,(hx.trans hx1).trans hx2,?_⟩;have:=hx2.size;omega
theorem zfS (w:World):Calls Tryz.prog 68 #[] w (zpj w 6 3):=by
 obtain ⟨rows,hrows⟩:∃ rows:List FR,rows=[⟨1,7,[116,101,109,112,108,97,116,101],clV 126,clV 128⟩,⟨1,8,[112,97,114,116,110,101,114],clV 130,clV 131⟩,⟨1,9,[108,101,97,115,101],clV 132,clV 133⟩]:=⟨_,rfl⟩;have hfm:∀ W j (hj:j < rows.length),zd4 (fun k=>w.heap.size<=k) W (6+j) rows[j]:=by
  intro W j hj;subst hrows;have hj':j < 3:=hj;have:j=0 \/ j=1 \/ j=2:=by omega
  rcases this with rfl | rfl | rfl
  ·exact ⟨rfl,rfl,rfl,by rw [if_neg (by decide)];exact ⟨rfl,rfl⟩⟩
  ·exact ⟨rfl,rfl,rfl,by rw [if_neg (by decide)];exact ⟨rfl,rfl⟩⟩
  ·exact ⟨rfl,rfl,rfl,by rw [if_neg (by decide)];exact ⟨rfl,rfl⟩⟩
 have hl:rows.length=3:=by rw [hrows];rfl
 have hx:=Mod.alloc (Mod.refl (fun _=>False) w) (.cells (rows.flatMap frC).toArray 95);have hk:=heap_alloc_new w (.cells (rows.flatMap frC).toArray 95);replace hl:=Y hl;replace hfm:=Y hfm;have hx:=Y hx;have hk:=Y hk;replace hrows:=Y hrows;go_enter Tryz.func68,Tryz.ntmps68;go_wp2_with fail
 go_ret;refine ⟨w.heap.size,rows,Nat.le_refl _,hl.o,rfl,?_,hfm.o _,?_⟩
 ·have:=hk.o
  rw [hrows.o] at this ⊢;exact this
 ·have:=hx.o
  rw [hrows.o] at this;exact this
theorem zfV (w:World):Calls Tryz.prog 69 #[] w (zpj w 9 6):=by
 obtain ⟨rows,hrows⟩:∃ rows:List FR,rows=[⟨2,0,[116,105,99,107],clV 134,clV 135⟩,⟨3,0,[99,108,111,99,107],clV 134,clV 135⟩,⟨10,0,[99,117,116],clV 134,clV 135⟩,⟨4,0,[102,97,116,101,115],clV 136,clV 138⟩,⟨5,0,[99,114,97,115,104],clV 140,clV 141⟩,⟨9,0,[99,104,101,99,107],clV 142,clV 143⟩]:=⟨_,rfl⟩;have hfm:∀ W j (hj:j < rows.length),zd4 (fun k=>w.heap.size<=k) W (9+j) rows[j]:=by
  intro W j hj;subst hrows;have hj':j < 6:=hj;have:j=0 \/ j=1 \/ j=2 \/ j=3 \/ j=4 \/ j=5:=by omega
  rcases this with rfl | rfl | rfl | rfl | rfl | rfl
  ·exact ⟨rfl,rfl,rfl,by rw [if_neg (by decide)];exact ⟨rfl,rfl⟩⟩
  ·exact ⟨rfl,rfl,rfl,by rw [if_neg (by decide)];exact ⟨rfl,rfl⟩⟩
  ·exact ⟨rfl,rfl,rfl,by rw [if_neg (by decide)];exact ⟨rfl,rfl⟩⟩
  ·exact ⟨rfl,rfl,rfl,by rw [if_neg (by decide)];exact ⟨rfl,rfl⟩⟩
  ·exact ⟨rfl,rfl,rfl,by rw [if_neg (by decide)];exact ⟨rfl,rfl⟩⟩
  ·exact ⟨rfl,rfl,rfl,by rw [if_neg (by decide)];exact ⟨rfl,rfl⟩⟩
 have hl:rows.length=6:=by rw [hrows];rfl
 have hx:=Mod.alloc (Mod.refl (fun _=>False) w) (.cells (rows.flatMap frC).toArray 95);have hk:=heap_alloc_new w (.cells (rows.flatMap frC).toArray 95);replace hl:=Y hl;replace hfm:=Y hfm;have hx:=Y hx;have hk:=Y hk;replace hrows:=Y hrows;go_enter Tryz.func69,Tryz.ntmps69;go_wp2_with fail
 go_ret;refine ⟨w.heap.size,rows,Nat.le_refl _,hl.o,rfl,?_,hfm.o _,?_⟩
 ·have:=hk.o
  rw [hrows.o] at this ⊢;exact this
 ·have:=hx.o
  rw [hrows.o] at this;exact this
theorem zfv (w:World):Calls Tryz.prog 70 #[] w (zpj w 15 3):=by
 obtain ⟨rows,hrows⟩:∃ rows:List FR,rows=[⟨6,0,[103,101,116],clV 144,clV 145⟩,⟨7,0,[115,101,97,114,99,104],clV 146,clV 147⟩,⟨8,0,[102,111,114,103,101],clV 148,clV 150⟩]:=⟨_,rfl⟩;have hfm:∀ W j (hj:j < rows.length),zd4 (fun k=>w.heap.size<=k) W (15+j) rows[j]:=by
  intro W j hj;subst hrows;have hj':j < 3:=hj;have:j=0 \/ j=1 \/ j=2:=by omega
  rcases this with rfl | rfl | rfl
  ·exact ⟨rfl,rfl,rfl,by rw [if_neg (by decide)];exact ⟨rfl,rfl⟩⟩
  ·exact ⟨rfl,rfl,rfl,by rw [if_neg (by decide)];exact ⟨rfl,rfl⟩⟩
  ·exact ⟨rfl,rfl,rfl,by rw [if_neg (by decide)];exact ⟨rfl,rfl⟩⟩
 have hl:rows.length=3:=by rw [hrows];rfl
 have hx:=Mod.alloc (Mod.refl (fun _=>False) w) (.cells (rows.flatMap frC).toArray 95);have hk:=heap_alloc_new w (.cells (rows.flatMap frC).toArray 95);replace hl:=Y hl;replace hfm:=Y hfm;have hx:=Y hx;have hk:=Y hk;replace hrows:=Y hrows;go_enter Tryz.func70,Tryz.ntmps70;go_wp2_with fail
 go_ret;refine ⟨w.heap.size,rows,Nat.le_refl _,hl.o,rfl,?_,hfm.o _,?_⟩
 ·have:=hk.o
  rw [hrows.o] at this ⊢;exact this
 ·have:=hx.o
  rw [hrows.o] at this;exact this
theorem zfR (w:World):Calls Tryz.prog 67 #[] w (zpj w 0 6):=by
 have hce:=enters_of Tryz.func105 (by kernel_rfl) rfl;go_enter Tryz.func67,Tryz.ntmps67;go_wp2_with fail
 refine (zcq 1 [114,101,118,105,115,101] 111 112 w).mono ?_;rintro e w1 ⟨rfl,p0,q0,x0,z0⟩;obtain ⟨s0,hs0⟩:∃ s,s=w.heap.size:=⟨_,rfl⟩;rw [<- hs0] at p0 q0 z0 ⊢;have y0:=x0;have b0:w.heap.size<=s0:=by have:=Nat.le_refl w.heap.size;omega
 replace hs0:=Y hs0;replace z0:=Y z0;replace x0:=Y x0;replace p0:=Y p0;replace q0:=Y q0;go_wp2_with fail
 refine (zcq 2 [97,112,112,114,111,118,101] 113 114 w1).mono ?_;rintro e w2 ⟨rfl,p1,q1,x1,z1⟩;obtain ⟨s1,hs1⟩:∃ s,s=w1.heap.size:=⟨_,rfl⟩;rw [<- hs1] at p1 q1 z1 ⊢;have y1:=y0.trans x1;have b1:w.heap.size<=s1:=by have:=y0.size;omega
 replace p0:=x1.at p0 id;replace q0:=x1.at q0 id;replace hs1:=Y hs1;replace z1:=Y z1;replace x1:=Y x1;replace p1:=Y p1;replace q1:=Y q1;go_wp2_with fail
 refine (zcq 3 [112,117,98,108,105,115,104] 115 117 w2).mono ?_;rintro e w3 ⟨rfl,p2,q2,x2,z2⟩;obtain ⟨s2,hs2⟩:∃ s,s=w2.heap.size:=⟨_,rfl⟩;rw [<- hs2] at p2 q2 z2 ⊢;have y2:=y1.trans x2;have b2:w.heap.size<=s2:=by have:=y1.size;omega
 replace p0:=x2.at p0 id;replace q0:=x2.at q0 id;replace p1:=x2.at p1 id;replace q1:=x2.at q1 id;replace hs2:=Y hs2;replace z2:=Y z2;replace x2:=Y x2;replace p2:=Y p2;replace q2:=Y q2;go_wp2_with fail
 refine (zcq 4 [99,111,114,114,101,99,116] 119 120 w3).mono ?_;rintro e w4 ⟨rfl,p3,q3,x3,z3⟩;obtain ⟨s3,hs3⟩:∃ s,s=w3.heap.size:=⟨_,rfl⟩;rw [<- hs3] at p3 q3 z3 ⊢;have y3:=y2.trans x3;have b3:w.heap.size<=s3:=by have:=y2.size;omega
 replace p0:=x3.at p0 id;replace q0:=x3.at q0 id;replace p1:=x3.at p1 id;replace q1:=x3.at q1 id;replace p2:=x3.at p2 id;replace q2:=x3.at q2 id;replace hs3:=Y hs3;replace z3:=Y z3;replace x3:=Y x3;replace p3:=Y p3;replace q3:=Y q3;go_wp2_with fail
 refine (zcq 5 [114,101,116,114,97,99,116] 122 123 w4).mono ?_;rintro e w5 ⟨rfl,p4,q4,x4,z4⟩;obtain ⟨s4,hs4⟩:∃ s,s=w4.heap.size:=⟨_,rfl⟩;rw [<- hs4] at p4 q4 z4 ⊢;have y4:=y3.trans x4;have b4:w.heap.size<=s4:=by have:=y3.size;omega
 replace p0:=x4.at p0 id;replace q0:=x4.at q0 id;replace p1:=x4.at p1 id;replace q1:=x4.at q1 id;replace p2:=x4.at p2 id;replace q2:=x4.at q2 id;replace p3:=x4.at p3 id;replace q3:=x4.at q3 id;replace hs4:=Y hs4;replace z4:=Y z4;replace x4:=Y x4;replace p4:=Y p4;replace q4:=Y q4;go_wp2_with fail
 refine (zcq 6 [116,97,107,101,100,111,119,110] 124 125 w5).mono ?_;rintro e w6 ⟨rfl,p5,q5,x5,z5⟩;obtain ⟨s5,hs5⟩:∃ s,s=w5.heap.size:=⟨_,rfl⟩;rw [<- hs5] at p5 q5 z5 ⊢;have y5:=y4.trans x5;have b5:w.heap.size<=s5:=by have:=y4.size;omega
 replace p0:=x5.at p0 id;replace q0:=x5.at q0 id;replace p1:=x5.at p1 id;replace q1:=x5.at q1 id;replace p2:=x5.at p2 id;replace q2:=x5.at q2 id;replace p3:=x5.at p3 id;replace q3:=x5.at q3 id;replace p4:=x5.at p4 id;replace q4:=x5.at q4 id;replace hs5:=Y hs5;replace z5:=Y z5;replace x5:=Y x5;replace p5:=Y p5;replace q5:=Y q5;go_wp2_with fail
 go_ret;have hxL:=Mod.alloc (Mod.refl (fun _=>False) w6) (.cells (([⟨1,1,[114,101,118,105,115,101],.func (.func 106) #[] #[.pointer (some ⟨s0,0,none⟩)],.func (.func 108) #[] #[.pointer (some ⟨s0+1,0,none⟩)]⟩,⟨1,2,[97,112,112,114,111,118,101],.func (.func 106) #[] #[.pointer (some ⟨s1,0,none⟩)],.func (.func 108) #[] #[.pointer (some ⟨s1+1,0,none⟩)]⟩,⟨1,3,[112,117,98,108,105,115,104],.func (.func 106) #[] #[.pointer (some ⟨s2,0,none⟩)],.func (.func 108) #[] #[.pointer (some ⟨s2+1,0,none⟩)]⟩,⟨1,4,[99,111,114,114,101,99,116],.func (.func 106) #[] #[.pointer (some ⟨s3,0,none⟩)],.func (.func 108) #[] #[.pointer (some ⟨s3+1,0,none⟩)]⟩,⟨1,5,[114,101,116,114,97,99,116],.func (.func 106) #[] #[.pointer (some ⟨s4,0,none⟩)],.func (.func 108) #[] #[.pointer (some ⟨s4+1,0,none⟩)]⟩,⟨1,6,[116,97,107,101,100,111,119,110],.func (.func 106) #[] #[.pointer (some ⟨s5,0,none⟩)],.func (.func 108) #[] #[.pointer (some ⟨s5+1,0,none⟩)]⟩]:List FR).flatMap frC).toArray 95);have hkL:=heap_alloc_new w6 (.cells (([⟨1,1,[114,101,118,105,115,101],.func (.func 106) #[] #[.pointer (some ⟨s0,0,none⟩)],.func (.func 108) #[] #[.pointer (some ⟨s0+1,0,none⟩)]⟩,⟨1,2,[97,112,112,114,111,118,101],.func (.func 106) #[] #[.pointer (some ⟨s1,0,none⟩)],.func (.func 108) #[] #[.pointer (some ⟨s1+1,0,none⟩)]⟩,⟨1,3,[112,117,98,108,105,115,104],.func (.func 106) #[] #[.pointer (some ⟨s2,0,none⟩)],.func (.func 108) #[] #[.pointer (some ⟨s2+1,0,none⟩)]⟩,⟨1,4,[99,111,114,114,101,99,116],.func (.func 106) #[] #[.pointer (some ⟨s3,0,none⟩)],.func (.func 108) #[] #[.pointer (some ⟨s3+1,0,none⟩)]⟩,⟨1,5,[114,101,116,114,97,99,116],.func (.func 106) #[] #[.pointer (some ⟨s4,0,none⟩)],.func (.func 108) #[] #[.pointer (some ⟨s4+1,0,none⟩)]⟩,⟨1,6,[116,97,107,101,100,111,119,110],.func (.func 106) #[] #[.pointer (some ⟨s5,0,none⟩)],.func (.func 108) #[] #[.pointer (some ⟨s5+1,0,none⟩)]⟩]:List FR).flatMap frC).toArray 95);refine ⟨w6.heap.size,[⟨1,1,[114,101,118,105,115,101],.func (.func 106) #[] #[.pointer (some ⟨s0,0,none⟩)],.func (.func 108) #[] #[.pointer (some ⟨s0+1,0,none⟩)]⟩,⟨1,2,[97,112,112,114,111,118,101],.func (.func 106) #[] #[.pointer (some ⟨s1,0,none⟩)],.func (.func 108) #[] #[.pointer (some ⟨s1+1,0,none⟩)]⟩,⟨1,3,[112,117,98,108,105,115,104],.func (.func 106) #[] #[.pointer (some ⟨s2,0,none⟩)],.func (.func 108) #[] #[.pointer (some ⟨s2+1,0,none⟩)]⟩,⟨1,4,[99,111,114,114,101,99,116],.func (.func 106) #[] #[.pointer (some ⟨s3,0,none⟩)],.func (.func 108) #[] #[.pointer (some ⟨s3+1,0,none⟩)]⟩,⟨1,5,[114,101,116,114,97,99,116],.func (.func 106) #[] #[.pointer (some ⟨s4,0,none⟩)],.func (.func 108) #[] #[.pointer (some ⟨s4+1,0,none⟩)]⟩,⟨1,6,[116,97,107,101,100,111,119,110],.func (.func 106) #[] #[.pointer (some ⟨s5,0,none⟩)],.func (.func 108) #[] #[.pointer (some ⟨s5+1,0,none⟩)]⟩],y5.size,rfl,rfl,hkL,?_,y5.trans hxL⟩;intro j hj;have hj':j < 6:=hj;have h6:j=0 \/ j=1 \/ j=2 \/ j=3 \/ j=4 \/ j=5:=by omega
 rcases h6 with rfl | rfl | rfl | rfl | rfl | rfl
 ·exact ⟨rfl,rfl,rfl,by rw [if_pos (by decide)];exact ⟨s0,b0,by omega,rfl,rfl,hxL.at p0 id,hxL.at q0 id⟩⟩
 ·exact ⟨rfl,rfl,rfl,by rw [if_pos (by decide)];exact ⟨s1,b1,by omega,rfl,rfl,hxL.at p1 id,hxL.at q1 id⟩⟩
 ·exact ⟨rfl,rfl,rfl,by rw [if_pos (by decide)];exact ⟨s2,b2,by omega,rfl,rfl,hxL.at p2 id,hxL.at q2 id⟩⟩
 ·exact ⟨rfl,rfl,rfl,by rw [if_pos (by decide)];exact ⟨s3,b3,by omega,rfl,rfl,hxL.at p3 id,hxL.at q3 id⟩⟩
 ·exact ⟨rfl,rfl,rfl,by rw [if_pos (by decide)];exact ⟨s4,b4,by omega,rfl,rfl,hxL.at p4 id,hxL.at q4 id⟩⟩
 ·exact ⟨rfl,rfl,rfl,by rw [if_pos (by decide)];exact ⟨s5,b5,by omega,rfl,rfl,hxL.at p5 id,hxL.at q5 id⟩⟩
end Go.Proofs.YtjjfphalcibjfaaGreatDoor
namespace Go
open Go.RowKit
theorem zfz {P:Program} {w:World} (t u ty e:TypeId) (i:TypeInfo) (z:Value) (ht:P.underlying t=some (.slice e)) (hu:P.underlying u=some (.int .i64)) (hi:P.info? e=some i) (hz:i.zero=some z)
  (n:Nat) (h0:0 < n) (hn:n<=1000000) (hs:0 < i.size) (hb:i.bytes<=1000000):
  (Builtin.append_ #[t,u] ty #[.slice none 0 0,.int .i64 n]).run P w=
   .ok (.slice (some ⟨w.heap.size,0,none⟩) n (grownCap w n 0 e)) (w.drew.alloc (.cells (Builtin.zeroCells z.cells n++Builtin.zeroCells z.cells (grownCap w n 0 e - n)) e)):=by
 have hn':n ≠ 0:=by omega
 have hnb:n*i.bytes<=1000000000000:=Nat.mul_le_mul hn hb;have hw:IntKind.i64.wrap (n:Int)=n:=Go.IntWalk.i64_in _ (by omega);have h1:¬ ((n:Int) < 0):=by omega
 have h2:¬ ((281474976710656:Int) < (n:Int)*(i.bytes:Int)):=by
  rw [<- Int.natCast_mul];omega
 have h63':¬ (9223372036854775807 < (n:Int)):=by omega
 have h48':¬ (281474976710656 < Builtin.nextslicecap n 0*i.bytes):=by rw [nextslicecap_zero h0];omega
 have h3:¬ (n*i.size=0):=by
  have:=Nat.mul_pos h0 hs;omega
 simp [Builtin.append_,run_underlying ht,run_underlying hu,sizeOf,typeInfo,zeroValue,hi,hz,asInt,asIntOf,hw,h1,h2,hn',h63',h48',h3,Question.forced,run_firstCells_none,newRow,grownCap]
end Go
namespace Go.Proofs.YtjjfphalcibjfaaGreatDoor
open Go.Shelf Go.RowKit Cdk Scr
def frZ:Value:=.agg #[.int .i64 0,.int .i64 0,.string .empty,.nilFunc,.nilFunc]
theorem elF:El Tryz.prog 95 frZ 5 48:=⟨by kernel_rfl,rfl,by decide,by decide⟩
theorem zff {ops:Array Oper} {rest:List Oper} {o:Oper} {a:Act} {w:World} {Q:Exit -> Act -> World -> Prop} (hg:o.guard=none) (sl x:Operand)
  (ho:o.op=.call { callee:=.builtin .append,args:=#[sl,x],argTypes:=#[60,3] }) (hs:a.eval sl=.slice none 0 0) (n:Nat) (hx:a.eval x=.int .i64 n) (h0:0 < n) (hn:n<=1000)
  (hK:∀ (cap:Nat) (w':World),Hid (n<=cap/\cap<=9223372036854775807/\Cdk.Own w' w.heap.size 95 5 frC (.slice (some ⟨w.heap.size,0,none⟩) 0 cap) ([]:List FR)/\Ext w w') -> wpList Tryz.prog ops Q rest (a.put o.dst (.slice (some ⟨w.heap.size,0,none⟩) n cap)) w'):wpList Tryz.prog ops Q (o::rest) a w:=by
 refine wpList_plain hg fun K hK'=>?_
 obtain ⟨i0,hi,hz0,hz1,hz2⟩:=info_parts elF.row;have hr:=zfz (P:=Tryz.prog) (w:=w) 60 3 o.type 95 i0 frZ Tryz.underlying60 Tryz.underlying3 hi hz0 n h0 (by omega) (by rw [hz1];decide) (by rw [hz2];decide);have hge:=grownCap_ge w n 0 95;have hle:=grownCap_le_maxLen w n 0 95 (by unfold maxLen;omega);have hown:Cdk.Own (w.drew.alloc (.cells (Builtin.zeroCells frZ.cells n++Builtin.zeroCells frZ.cells (grownCap w n 0 95 - n)) 95)) w.heap.size 95 5 frC (.slice (some ⟨w.heap.size,0,none⟩) 0 (grownCap w n 0 95)) ([]:List FR):=
  World.ownsRow_made w.drew _ _ (Nat.le_refl _) hle (by
   have hz:frZ.cells.size=5:=rfl;rw [Array.size_append,size_zeroCells,size_zeroCells,hz,<- Nat.add_mul];congr 1
   omega)
 have hx2:=(Mod.refl (fun _=>False) w).drew.alloc (.cells (Builtin.zeroCells frZ.cells n++Builtin.zeroCells frZ.cells (grownCap w n 0 95 - n)) 95);unfold Oper.wp;simp [execOp,ho,resolve,invoke,builtin,hs,hx,hr,Result.andThen];exact hK' _ _ (hK _ _ ⟨hge,by simpa [maxLen] using hle,hown,hx2⟩)
theorem zl2 (w:World):Calls Tryz.prog 104 #[.slice none 0 0,.int .i64 18] w fun e w'=>∃ (k cap:Nat),e=.returned (.slice (some ⟨k,0,none⟩) 0 cap)/\Cdk.Own w' w.heap.size 95 5 frC (.slice (some ⟨k,0,none⟩) 0 cap) ([]:List FR)/\Ext w w':=by
 go_enter Tryz.func104,Tryz.ntmps104;go_wp2_with (at_builtin;refine zff rfl _ _ rfl rfl 18 rfl (by decide) (by decide) (fun cap w' H=>?_))
 obtain ⟨h1,h2,h3,h4⟩:=H.o;have h5:(0:Int)<=(cap:Int):=by omega
 clear H;replace h3:=Y h3;replace h4:=Y h4;go_wp2_with fail
 go_ret;exact ⟨_,cap,rfl,h3.o,h4.o⟩
theorem ziP (K k0 k1 k2 k3:Nat) (r0 r1 r2 r3:List FR) (w:World) (hK:w.heap[K]?=some (.cells #[.slice (some ⟨k0,0,none⟩) 6 6,.slice (some ⟨k1,0,none⟩) 3 3,.slice (some ⟨k2,0,none⟩) 6 6,.slice (some ⟨k3,0,none⟩) 3 3] 60 (0,0)))
  (h0:w.heap[k0]?=some (.cells (r0.flatMap frC).toArray 95 (0,0))) (l0:r0.length=6) (o0:∀ y ∈ r0,∀ u ∈ frC y,u.oneCell'=true)
  (h1:w.heap[k1]?=some (.cells (r1.flatMap frC).toArray 95 (0,0))) (l1:r1.length=3) (o1:∀ y ∈ r1,∀ u ∈ frC y,u.oneCell'=true)
  (h2:w.heap[k2]?=some (.cells (r2.flatMap frC).toArray 95 (0,0))) (l2:r2.length=6) (o2:∀ y ∈ r2,∀ u ∈ frC y,u.oneCell'=true)
  (h3:w.heap[k3]?=some (.cells (r3.flatMap frC).toArray 95 (0,0))) (l3:r3.length=3) (o3:∀ y ∈ r3,∀ u ∈ frC y,u.oneCell'=true)
  :Calls Tryz.prog 66 #[.slice (some ⟨K,0,none⟩) 4 4] w fun e w'=>∃ (ao:Option Addr) (cap:Nat),e=.returned (.slice ao 18 cap)/\Cdk.Own w' w.heap.size 95 5 frC (.slice ao 18 cap) (r0++r1++r2++r3)/\Ext w w':=by
 have c0:=cS hK 0;have c1:=cS hK 1;have c2:=cS hK 2;have c3:=cS hK 3;replace h0:=Y h0;replace l0:=Y l0;replace o0:=Y o0;replace h1:=Y h1;replace l1:=Y l1;replace o1:=Y o1;replace h2:=Y h2;replace l2:=Y l2;replace o2:=Y o2;replace h3:=Y h3;replace l3:=Y l3;replace o3:=Y o3;replace hK:=Y hK;have hg:=Y (zl2 w);go_enter Tryz.func66,Tryz.ntmps66;go_wp2_with fail
 go_loopg [3,11] 4 (fun g sz i wr=>∃ j:Nat,j+g=4/\i=.int .i64 j/\sz=.int .i64 (([0,6,9,15,18]:List Int).getD j 0)/\wr=w)
 case atStart=>exact ⟨0,by omega,rfl,rfl,rfl⟩
 case round=>
  obtain ⟨j,hj,rfl,rfl,rfl⟩:=hrel;have h4:j=0 \/ j=1 \/ j=2 \/ j=3 \/ j=4:=by omega
  rcases h4 with rfl | rfl | rfl | rfl | rfl
  ·simp only [List.getD_cons_zero]
   go_wp2_with fail
   go_roundg 3
   case measure=>omega
   case rel=>exact ⟨1,by omega,rfl,rfl,rfl⟩
  ·simp only [List.getD_cons_zero,List.getD_cons_succ]
   go_wp2_with fail
   go_roundg 2
   case measure=>omega
   case rel=>exact ⟨2,by omega,rfl,rfl,rfl⟩
  ·simp only [List.getD_cons_zero,List.getD_cons_succ]
   go_wp2_with fail
   go_roundg 1
   case measure=>omega
   case rel=>exact ⟨3,by omega,rfl,rfl,rfl⟩
  ·simp only [List.getD_cons_zero,List.getD_cons_succ]
   go_wp2_with fail
   go_roundg 0
   case measure=>omega
   case rel=>exact ⟨4,by omega,rfl,rfl,rfl⟩
  ·simp only [List.getD_cons_zero,List.getD_cons_succ]
   clear hj
   rename World=>W0
   go_wp2_with fail
   refine hg.o.mono ?_;rintro e w2 ⟨k,cap,rfl,hO2,hx2⟩;replace hO2:=Y hO2;replace hx2:=Y hx2;clear hg c0 c1 c2 c3;go_wp2_with fail
   go_loopg [6,27] 4 (fun g sv i wr=>∃ (j:Nat) (ao:Option Addr) (cap:Nat) (rs:List FR),j+g=4/\i=.int .i64 j/\sv=.slice ao (([0,6,9,15,18]:List Nat).getD j 0) cap/\rs=([[],r0,r0++r1,r0++r1++r2,r0++r1++r2++r3]:List (List FR)).getD j []/\Cdk.Own wr W0.heap.size 95 5 frC sv rs/\Ext W0 wr)
   case atStart=>exact ⟨0,_,cap,[],by omega,rfl,rfl,rfl,hO2.o,hx2.o⟩
   case round=>
    clear hO2 hx2;obtain ⟨j,ao,cap,rs,hj,rfl,rfl,hrs,hO,hx⟩:=hrel;have h4:j=0 \/ j=1 \/ j=2 \/ j=3 \/ j=4:=by omega
    have hKq:=hx.at hK.o id;have hsz:W0.heap.size<=wr.heap.size:=hx.size;rcases h4 with rfl | rfl | rfl | rfl | rfl
    ·simp only [List.getD_cons_zero] at hrs hO ⊢
     have d0:=cS hKq 0;have hr0:=zaJ.block (hx.at h0.o id);have hlr:rs.length=0:=by rw [hrs];rfl
     replace hO:=Y hO;replace hx:=Y hx;replace hrs:=Y hrs;replace hlr:=Y hlr;replace hKq:=Y hKq;go_wp2_with (at_builtin;refine zaI rfl _ _ _ rfl Tryz.underlying60 elF rfl hO.o _ _ _ rfl r0 l0.o hr0 zei o0.o (by have:=hlr.o;have:=l0.o;omega) hsz (fun e=>nomatch e) (fun v6 w6 H6=>?_))
     obtain ⟨hO6,hm6⟩:=H6.o;have hx6:=Y (zbi hx.o hO.o (Nat.le_refl _) hm6);obtain ⟨ao6,cap6,rfl,-⟩:=hO6.row;have e6:(rs++r0).length=6:=by rw [List.length_append,hlr.o,l0.o]
     rw [e6] at hO6 ⊢;clear H6 hm6 e6;replace hO6:=Y hO6;go_wp2_with fail
     go_roundg 3
     case measure=>omega
     case rel=>exact ⟨1,ao6,cap6,rs++r0,by omega,rfl,rfl,by rw [hrs.o];rfl,hO6.o,hx6.o⟩
    ·simp only [List.getD_cons_zero,List.getD_cons_succ] at hrs hO ⊢
     have d1:=cS hKq 1;have hr1:=zaJ.block (hx.at h1.o id);have hlr:rs.length=6:=by rw [hrs];simp [l0.o]
     replace hO:=Y hO;replace hx:=Y hx;replace hrs:=Y hrs;replace hlr:=Y hlr;replace hKq:=Y hKq;go_wp2_with (at_builtin;refine zaI rfl _ _ _ rfl Tryz.underlying60 elF rfl hO.o _ _ _ rfl r1 l1.o hr1 zei o1.o (by have:=hlr.o;have:=l1.o;omega) hsz (fun e=>nomatch e) (fun v6 w6 H6=>?_))
     obtain ⟨hO6,hm6⟩:=H6.o;have hx6:=Y (zbi hx.o hO.o (Nat.le_refl _) hm6);obtain ⟨ao6,cap6,rfl,-⟩:=hO6.row;have e6:(rs++r1).length=9:=by rw [List.length_append,hlr.o,l1.o]
     rw [e6] at hO6 ⊢;clear H6 hm6 e6;replace hO6:=Y hO6;go_wp2_with fail
     go_roundg 2
     case measure=>omega
     case rel=>exact ⟨2,ao6,cap6,rs++r1,by omega,rfl,rfl,by rw [hrs.o];rfl,hO6.o,hx6.o⟩
    ·simp only [List.getD_cons_zero,List.getD_cons_succ] at hrs hO ⊢
     have d2:=cS hKq 2;have hr2:=zaJ.block (hx.at h2.o id);have hlr:rs.length=9:=by rw [hrs];simp [l0.o,l1.o]
     replace hO:=Y hO;replace hx:=Y hx;replace hrs:=Y hrs;replace hlr:=Y hlr;replace hKq:=Y hKq;go_wp2_with (at_builtin;refine zaI rfl _ _ _ rfl Tryz.underlying60 elF rfl hO.o _ _ _ rfl r2 l2.o hr2 zei o2.o (by have:=hlr.o;have:=l2.o;omega) hsz (fun e=>nomatch e) (fun v6 w6 H6=>?_))
     obtain ⟨hO6,hm6⟩:=H6.o;have hx6:=Y (zbi hx.o hO.o (Nat.le_refl _) hm6);obtain ⟨ao6,cap6,rfl,-⟩:=hO6.row;have e6:(rs++r2).length=15:=by rw [List.length_append,hlr.o,l2.o]
     rw [e6] at hO6 ⊢;clear H6 hm6 e6;replace hO6:=Y hO6;go_wp2_with fail
     go_roundg 1
     case measure=>omega
     case rel=>exact ⟨3,ao6,cap6,rs++r2,by omega,rfl,rfl,by rw [hrs.o];rfl,hO6.o,hx6.o⟩
    ·simp only [List.getD_cons_zero,List.getD_cons_succ] at hrs hO ⊢
     have d3:=cS hKq 3;have hr3:=zaJ.block (hx.at h3.o id);have hlr:rs.length=15:=by rw [hrs];simp [l0.o,l1.o,l2.o]
     replace hO:=Y hO;replace hx:=Y hx;replace hrs:=Y hrs;replace hlr:=Y hlr;replace hKq:=Y hKq;go_wp2_with (at_builtin;refine zaI rfl _ _ _ rfl Tryz.underlying60 elF rfl hO.o _ _ _ rfl r3 l3.o hr3 zei o3.o (by have:=hlr.o;have:=l3.o;omega) hsz (fun e=>nomatch e) (fun v6 w6 H6=>?_))
     obtain ⟨hO6,hm6⟩:=H6.o;have hx6:=Y (zbi hx.o hO.o (Nat.le_refl _) hm6);obtain ⟨ao6,cap6,rfl,-⟩:=hO6.row;have e6:(rs++r3).length=18:=by rw [List.length_append,hlr.o,l3.o]
     rw [e6] at hO6 ⊢;clear H6 hm6 e6;replace hO6:=Y hO6;go_wp2_with fail
     go_roundg 0
     case measure=>omega
     case rel=>exact ⟨4,ao6,cap6,rs++r3,by omega,rfl,rfl,by rw [hrs.o];rfl,hO6.o,hx6.o⟩
    ·simp only [List.getD_cons_zero,List.getD_cons_succ] at hrs hO ⊢
     replace hO:=Y hO;replace hx:=Y hx;replace hrs:=Y hrs;go_wp2_with fail
     go_ret;exact ⟨ao,cap,rfl,by rw [<- hrs.o];exact hO.o,hx.o⟩
def zdo (F:Nat -> Prop) (w:World) (v:Value):Prop:=∃ rows:List FR,rows.length=18/\zac F w frC v rows/\∀ j (hj:j < rows.length),zd4 F w j rows[j]
theorem zd4.bound {F:Nat -> Prop} {w:World} {j:Nat} {r:FR} (h:zd4 F w j r):zd4 (fun k=>F k/\k < w.heap.size) w j r:=by
 obtain ⟨h1,h2,h3,h4⟩:=h;refine ⟨h1,h2,h3,?_⟩;split at h4
 ·rename_i hj
  rw [if_pos hj];obtain ⟨b,f1,f2,e1,e2,k1,k2⟩:=h4;exact ⟨b,⟨f1,zas k1⟩,⟨f2,zas k2⟩,e1,e2,k1,k2⟩
 ·rename_i hj
  rw [if_neg hj];exact h4
theorem zd4.one {F:Nat -> Prop} {w:World} {j:Nat} {r:FR} (h:zd4 F w j r):∀ u ∈ frC r,u.oneCell'=true:=by
 obtain ⟨h1,h2,h3,h4⟩:=h;have:r.wr.oneCell'=true/\r.rd.oneCell'=true:=by
  split at h4
  ·obtain ⟨b,f1,f2,e1,e2,k1,k2⟩:=h4
   rw [e1,e2];exact ⟨rfl,rfl⟩
  ·rw [h4.1,h4.2];exact ⟨rfl,rfl⟩
 intro u hu;simp only [frC,List.mem_cons,List.not_mem_nil,or_false] at hu;rcases hu with rfl | rfl | rfl | rfl | rfl
 ·rfl
 ·rfl
 ·rfl
 ·exact this.1
 ·exact this.2
def zeU (F:Nat -> Prop) (w:World) (i:Nat) (l:List FR):Prop:=∀ j (hj:j < l.length),zd4 F w (i+j) l[j]
theorem zeU.app {F:Nat -> Prop} {w:World} {i:Nat} {a b:List FR} (ha:zeU F w i a) (hb:zeU F w (i+a.length) b):zeU F w i (a++b):=by
 intro j hj
 by_cases h:j < a.length
 ·rw [List.getElem_append_left h];exact ha j h
 ·rw [List.getElem_append_right (by omega)]
  have:=hb (j - a.length) (by rw [List.length_append] at hj;omega);rw [show i+a.length+(j - a.length)=i+j by omega] at this;exact this
theorem zeU.ext {F:Nat -> Prop} {w w':World} {i:Nat} {l:List FR} (h:zeU F w i l) (hx:Ext w w'):zeU F w' i l:=fun j hj=>(h j hj).ext hx
theorem zeU.mono {F F':Nat -> Prop} {w:World} {i:Nat} {l:List FR} (h:zeU F w i l) (hF:∀ k,F k -> F' k):zeU F' w i l:=fun j hj=>(h j hj).mono hF
theorem zeU.bound {F:Nat -> Prop} {w:World} {i:Nat} {l:List FR} (h:zeU F w i l):zeU (fun k=>F k/\k < w.heap.size) w i l:=fun j hj=>(h j hj).bound
theorem zeU.one {F:Nat -> Prop} {w:World} {i:Nat} {l:List FR} (h:zeU F w i l):∀ y ∈ l,∀ u ∈ frC y,u.oneCell'=true:=by
 intro y hy;obtain ⟨j,hj,rfl⟩:=List.getElem_of_mem hy;exact (h j hj).one
theorem zh5 (w:World):Calls Tryz.prog 42 #[] w fun e w'=>∃ (ao:Option Addr) (cap:Nat),e=.returned (.slice ao 18 cap)/\zdo (fun k=>w.heap.size<=k/\k < w'.heap.size) w' (.slice ao 18 cap)/\Ext w w':=by
 go_enter Tryz.func42,Tryz.ntmps42;go_wp2_with fail
 refine (zfR w).mono ?_;rintro e w1 ⟨k0,r0,z0,l0,rfl,h0,f0,x0⟩;go_wp2_with fail
 refine (zfS w1).mono ?_;rintro e w2 ⟨k1,r1,z1,l1,rfl,h1,f1,x1⟩;go_wp2_with fail
 refine (zfV w2).mono ?_;rintro e w3 ⟨k2,r2,z2,l2,rfl,h2,f2,x2⟩;go_wp2_with fail
 refine (zfv w3).mono ?_;rintro e w4 ⟨k3,r3,z3,l3,rfl,h3,f3,x3⟩;have y2:=x0.trans (x1.trans x2);have s1:w.heap.size<=w1.heap.size:=x0.size;have s2:w1.heap.size<=w2.heap.size:=x1.size;have s3:w2.heap.size<=w3.heap.size:=x2.size;have g0:zeU (fun k=>w.heap.size<=k) w4 0 r0:=zeU.ext f0 (x1.trans (x2.trans x3));have g1:zeU (fun k=>w.heap.size<=k) w4 6 r1:=(zeU.ext f1 (x2.trans x3)).mono (fun k h=>by have:w1.heap.size<=k:=h;omega);have g2:zeU (fun k=>w.heap.size<=k) w4 9 r2:=(zeU.ext f2 x3).mono (fun k h=>by have:w2.heap.size<=k:=h;omega);have g3:zeU (fun k=>w.heap.size<=k) w4 15 r3:=zeU.mono f3 (fun k h=>by have:w3.heap.size<=k:=h;omega);have q0:=(x1.trans (x2.trans x3)).at h0 id;have q1:=(x2.trans x3).at h1 id;have q2:=x3.at h2 id;have xA:=Mod.alloc (Mod.refl (fun _=>False) w4) (.cells #[.slice (some ⟨k0,0,none⟩) 6 6,.slice (some ⟨k1,0,none⟩) 3 3,.slice (some ⟨k2,0,none⟩) 6 6,.slice (some ⟨k3,0,none⟩) 3 3] 60);have hA:=heap_alloc_new w4 (.cells #[.slice (some ⟨k0,0,none⟩) 6 6,.slice (some ⟨k1,0,none⟩) 3 3,.slice (some ⟨k2,0,none⟩) 6 6,.slice (some ⟨k3,0,none⟩) 3 3] 60);have hc:=Y (ziP w4.heap.size k0 k1 k2 k3 r0 r1 r2 r3 _ hA (xA.at q0 id) l0 g0.one (xA.at q1 id) l1 g1.one (xA.at q2 id) l2 g2.one (xA.at h3 id) l3 g3.one);have hall:zeU (fun k=>w.heap.size<=k) w4 0 (r0++r1++r2++r3):=((g0.app (by rw [l0];exact g1)).app (by rw [List.length_append,l0,l1];exact g2)).app (by rw [List.length_append,List.length_append,l0,l1,l2];exact g3);have hlen:(r0++r1++r2++r3).length=18:=by simp only [List.length_append];omega
 have yA:=(y2.trans x3).trans xA;replace hall:=Y (hall.ext xA);replace hlen:=Y hlen;replace yA:=Y yA;clear f0 f1 f2 f3 g0 g1 g2 g3 q0 q1 q2 h0 h1 h2 h3 hA x0 x1 x2 x3 y2 z0 z1 z2 z3 xA l0 l1 l2 l3;generalize (r0++r1++r2++r3)=rows at hall hlen hc;go_wp2_with fail
 refine hc.o.mono ?_;rintro e w6 ⟨ao,cap,rfl,hO,hx⟩;have y6:=yA.o.trans hx;have hfin:zdo (fun k=>w.heap.size<=k/\k < w6.heap.size) w6 (.slice ao 18 cap):=by
  obtain ⟨ao',cap',e,h1,h2⟩:=hO.row;rw [hlen.o] at e;injection e with e1 _ e3
  subst e1 e3;obtain ⟨-,h3,h4,h5⟩:=zhh hO;refine ⟨rows,hlen.o,⟨ao,cap,by rw [hlen.o],h1,fun b off e _=>?_,by rw [hlen.o];exact h3,⟨by rw [hlen.o];decide,h4⟩,h5⟩,?_⟩
  ·have hb:=hO.block b (h2 b off e)
   have:=yA.o.size;exact ⟨by omega,hb.2⟩
  ·intro j hj
   have:=((hall.o.ext hx).bound) j hj;rw [Nat.zero_add] at this;exact this
 replace hfin:=Y hfin;replace y6:=Y y6;clear hO hx hc;go_wp2_with fail
 go_ret;exact ⟨ao,cap,rfl,hfin.o,y6.o⟩
def InP (l:List Bs) (w:World) (e:Ending) (w':World):Prop:=∃ (ao:Option Addr) (cap:Nat),e=.returned (.slice ao l.length cap)/\zbC (fun k=>w.heap.size<=k/\k < w'.heap.size) w' (.slice ao l.length cap) l/\Ext w w'
theorem zaz {w W:World} (hx:Ext w W) (l:List Bs) {cs:Array Value} (hcs:(l.flatMap zdz).toArray=cs) {n:Nat} (hn:l.length=n) (hl:l.length<=100:=by simp):InP l w (.returned (.slice (some ⟨W.heap.size,0,none⟩) n n)) (W.alloc (.cells cs 9)):=by
 subst hcs hn;have hk:=heap_alloc_new W (.cells (l.flatMap zdz).toArray 9);refine ⟨_,_,rfl,⟨_,_,rfl,zaJ.block hk,fun b off e _=>?_,Nat.le_refl _,⟨by omega,by omega⟩,fun e=>nomatch e⟩,hx.alloc _⟩;injection e with e
 injection e with e1 e2 e3
 subst e1;have:=hx.size;exact ⟨this,zas hk⟩
theorem zmq (a1:Option Addr) (n1 c1:Nat) (a2:Option Addr) (n2 c2:Nat) (a3:Option Addr) (n3 c3:Nat) (f:Fc) (w:World) (hG:Gl w) (h:FcAt (fun k=>k < w.heap.size) w ⟨.slice a1 n1 c1,.slice a2 n2 c2,.slice a3 n3 c3⟩ f) (ok:FcOk f):Calls Tryz.prog 113 #[.agg (fcA a1 n1 c1 a2 n2 c2 a3 n3 c3 f)] w (InP ([itoa f.ed]) w):=by
 obtain ⟨V,hV⟩:∃ V,V=fcA a1 n1 c1 a2 n2 c2 a3 n3 c3 f:=⟨_,rfl⟩;rw [<- hV];have v15:V[15]?=some (.int .i64 f.ed):=by rw [hV];rfl
 have hx0:=Mod.alloc (Mod.refl (fun _=>False) w) (.cells V 28);have hT:=heap_alloc_new w (.cells V 28);have hwT:w.heap.size<=(w.alloc (.cells V 28)).heap.size:=hx0.size;replace hV:=Y hV;replace hG:=Y hG;replace h:=Y h;replace ok:=Y ok;replace hx0:=Y hx0;replace hT:=Y hT;replace v15:=Y v15;go_enter Tryz.func113,Tryz.ntmps113;go_upto_region 1 with fail
 generalize (w.alloc _)=W at hx0 hT hwT ⊢;generalize w.heap.size=T at hT ⊢;have q15:W.cell? ⟨T,15,none⟩=some (.int .i64 f.ed):=(zaa hT.o 15).trans v15.o;go_wp2_with fail
 refine (zaw f.ed ok.o.ed W (hG.o.ext hx0.o)).mono ?_;rintro e W1 ⟨rfl,hxn⟩;have hx1:=Y (hx0.o.trans hxn);clear hxn;go_wp2_with fail
 go_ret;exact zaz hx1.o [itoa f.ed] rfl rfl
theorem zmh (a1:Option Addr) (n1 c1:Nat) (a2:Option Addr) (n2 c2:Nat) (a3:Option Addr) (n3 c3:Nat) (f:Fc) (w:World) (hG:Gl w) (h:FcAt (fun k=>k < w.heap.size) w ⟨.slice a1 n1 c1,.slice a2 n2 c2,.slice a3 n3 c3⟩ f) (ok:FcOk f):Calls Tryz.prog 115 #[.agg (fcA a1 n1 c1 a2 n2 c2 a3 n3 c3 f)] w (InP ([labelW f.lb]) w):=by
 obtain ⟨V,hV⟩:∃ V,V=fcA a1 n1 c1 a2 n2 c2 a3 n3 c3 f:=⟨_,rfl⟩;rw [<- hV];have v11:V[11]?=some (.int .i64 f.lb.til):=by rw [hV];rfl
 have v12:V[12]?=some (.slice a3 n3 c3):=by rw [hV];rfl
 have v13:V[13]?=some (.int .i64 f.lb.app):=by rw [hV];rfl
 have v14:V[14]?=some (.int .i64 f.lb.den):=by rw [hV];rfl
 have hx0:=Mod.alloc (Mod.refl (fun _=>False) w) (.cells V 28);have hT:=heap_alloc_new w (.cells V 28);have hwT:w.heap.size<=(w.alloc (.cells V 28)).heap.size:=hx0.size;replace hV:=Y hV;replace hG:=Y hG;replace h:=Y h;replace ok:=Y ok;replace hx0:=Y hx0;replace hT:=Y hT;replace v11:=Y v11;replace v12:=Y v12;replace v13:=Y v13;replace v14:=Y v14;go_enter Tryz.func115,Tryz.ntmps115;go_upto_region 1 with fail
 generalize (w.alloc _)=W at hx0 hT hwT ⊢;generalize w.heap.size=T at hT ⊢;have q11:W.cell? ⟨T,11,none⟩=some (.int .i64 f.lb.til):=(zaa hT.o 11).trans v11.o;have q12:W.cell? ⟨T,12,none⟩=some (.slice a3 n3 c3):=(zaa hT.o 12).trans v12.o;have q13:W.cell? ⟨T,13,none⟩=some (.int .i64 f.lb.app):=(zaa hT.o 13).trans v13.o;have q14:W.cell? ⟨T,14,none⟩=some (.int .i64 f.lb.den):=(zaa hT.o 14).trans v14.o;go_wp2_with fail
 refine (zd6 (.slice a3 n3 c3) f.lb W (hG.o.ext hx0.o) ((h.o.af.ext hx0.o).mono (fun k hk=>Nat.lt_of_lt_of_le hk hx0.o.size)) ok.o.lb.til ok.o.lb.app ok.o.lb.den ok.o.lb.aft ok.o.lb.len).mono ?_;rintro e W1 ⟨rfl,hxn⟩;have hx1:=Y (hx0.o.trans hxn);clear hxn;go_wp2_with fail
 go_ret;exact zaz hx1.o [labelW f.lb] rfl rfl
theorem zm2 (a1:Option Addr) (n1 c1:Nat) (a2:Option Addr) (n2 c2:Nat) (a3:Option Addr) (n3 c3:Nat) (f:Fc) (w:World) (hG:Gl w) (h:FcAt (fun k=>k < w.heap.size) w ⟨.slice a1 n1 c1,.slice a2 n2 c2,.slice a3 n3 c3⟩ f) (ok:FcOk f):Calls Tryz.prog 119 #[.agg (fcA a1 n1 c1 a2 n2 c2 a3 n3 c3 f)] w (InP ([f.lg,itoa f.bk,itoa f.se,f.tx]) w):=by
 obtain ⟨V,hV⟩:∃ V,V=fcA a1 n1 c1 a2 n2 c2 a3 n3 c3 f:=⟨_,rfl⟩;rw [<- hV];have v4:V[4]?=some (.string ⟨f.lg.toArray⟩):=by rw [hV];rfl
 have v16:V[16]?=some (.int .i64 f.bk):=by rw [hV];rfl
 have v17:V[17]?=some (.int .i64 f.se):=by rw [hV];rfl
 have v18:V[18]?=some (.string ⟨f.tx.toArray⟩):=by rw [hV];rfl
 have hx0:=Mod.alloc (Mod.refl (fun _=>False) w) (.cells V 28);have hT:=heap_alloc_new w (.cells V 28);have hwT:w.heap.size<=(w.alloc (.cells V 28)).heap.size:=hx0.size;replace hV:=Y hV;replace hG:=Y hG;replace h:=Y h;replace ok:=Y ok;replace hx0:=Y hx0;replace hT:=Y hT;replace v4:=Y v4;replace v16:=Y v16;replace v17:=Y v17;replace v18:=Y v18;go_enter Tryz.func119,Tryz.ntmps119;go_upto_region 1 with fail
 generalize (w.alloc _)=W at hx0 hT hwT ⊢;generalize w.heap.size=T at hT ⊢;have hT0:=Y ((Mod.drew0 (fun _=>False) W).at hT.o id);have hy0:=Y (hx0.o.drew);clear hT hx0;refine rS (fun w'=>w'.heap[T]?=some (.cells V 28 (0,0))) [(0,true),(1,true),(2,true),(3,true),(5,true),(6,true),(8,true),(9,true),(4,false),(7,false),(10,false),(11,true)] hT0.o ?_;generalize W.drew=W0 at hT0 hy0 ⊢;simp only [zah,List.map_cons,List.map_nil,List.getD_cons_zero,List.getD_cons_succ];repeat (refine zav (by rfl) ?_ (fun w' hC=>?_) ?_;rotate_left;(have q4:w'.cell? ⟨T,4,none⟩=some (.string ⟨f.lg.toArray⟩):=(zaa hC 4).trans v4.o;have q16:w'.cell? ⟨T,16,none⟩=some (.int .i64 f.bk):=(zaa hC 16).trans v16.o;have q17:w'.cell? ⟨T,17,none⟩=some (.int .i64 f.se):=(zaa hC 17).trans v17.o;have q18:w'.cell? ⟨T,18,none⟩=some (.string ⟨f.tx.toArray⟩):=(zaa hC 18).trans v18.o;go_simp;try with_reducible rfl);try simp only [Act.put,sA,sZ,sS])
 refine zak (by rfl) (fun K hK=>?_);go_simp;refine (zaw f.bk ok.o.bk W0 (hG.o.ext hy0.o)).mono ?_;rintro e W1 ⟨rfl,hxn⟩;refine hK.o _ _ (hxn.at hT0.o id) ?_;have hT1:=Y (hxn.at hT0.o id);have hy1:=Y (hy0.o.trans hxn);clear hK K hT0 hy0 hxn;try simp only [Act.put,sA,sZ,sS]
 refine zak (by rfl) (fun K hK=>?_);go_simp;refine (zaw f.se ok.o.se W1 (hG.o.ext hy1.o)).mono ?_;rintro e W2 ⟨rfl,hxn⟩;refine hK.o _ _ (hxn.at hT1.o id) ?_;have hT2:=Y (hxn.at hT1.o id);have hy2:=Y (hy1.o.trans hxn);clear hK K hT1 hy1 hxn;try simp only [Act.put,sA,sZ,sS]
 repeat (refine qT ?_)
 refine zak (by rfl) (fun K hK=>?_);go_simp;have hfin:=Y (zaz hy2.o [f.lg,itoa f.bk,itoa f.se,f.tx] rfl rfl);refine hK.o _ _ ((Mod.alloc (Mod.refl (fun _=>False) W2) _).at hT2.o id) ?_;clear hK K hT2 hy2;try simp only [Act.put,sA,sZ,sS]
 repeat (refine qT ?_)
 refine zar ?_;go_wp2_with fail
 go_ret;exact hfin.o
theorem zmO (a1:Option Addr) (n1 c1:Nat) (a2:Option Addr) (n2 c2:Nat) (a3:Option Addr) (n3 c3:Nat) (f:Fc) (w:World) (hG:Gl w) (h:FcAt (fun k=>k < w.heap.size) w ⟨.slice a1 n1 c1,.slice a2 n2 c2,.slice a3 n3 c3⟩ f) (ok:FcOk f):Calls Tryz.prog 122 #[.agg (fcA a1 n1 c1 a2 n2 c2 a3 n3 c3 f)] w (InP ([f.tx]) w):=by
 obtain ⟨V,hV⟩:∃ V,V=fcA a1 n1 c1 a2 n2 c2 a3 n3 c3 f:=⟨_,rfl⟩;rw [<- hV];have v18:V[18]?=some (.string ⟨f.tx.toArray⟩):=by rw [hV];rfl
 have hx0:=Mod.alloc (Mod.refl (fun _=>False) w) (.cells V 28);have hT:=heap_alloc_new w (.cells V 28);have hwT:w.heap.size<=(w.alloc (.cells V 28)).heap.size:=hx0.size;replace hV:=Y hV;replace hG:=Y hG;replace h:=Y h;replace ok:=Y ok;replace hx0:=Y hx0;replace hT:=Y hT;replace v18:=Y v18;go_enter Tryz.func122,Tryz.ntmps122;go_upto_region 1 with fail
 generalize (w.alloc _)=W at hx0 hT hwT ⊢;generalize w.heap.size=T at hT ⊢;have q18:W.cell? ⟨T,18,none⟩=some (.string ⟨f.tx.toArray⟩):=(zaa hT.o 18).trans v18.o;go_wp2_with fail
 go_ret;exact zaz hx0.o [f.tx] rfl rfl
theorem zlO (a1:Option Addr) (n1 c1:Nat) (a2:Option Addr) (n2 c2:Nat) (a3:Option Addr) (n3 c3:Nat) (f:Fc) (w:World) (hG:Gl w) (h:FcAt (fun k=>k < w.heap.size) w ⟨.slice a1 n1 c1,.slice a2 n2 c2,.slice a3 n3 c3⟩ f) (ok:FcOk f):Calls Tryz.prog 124 #[.agg (fcA a1 n1 c1 a2 n2 c2 a3 n3 c3 f)] w (InP ([]) w):=by
 obtain ⟨V,hV⟩:∃ V,V=fcA a1 n1 c1 a2 n2 c2 a3 n3 c3 f:=⟨_,rfl⟩;rw [<- hV];have hx0:=Mod.alloc (Mod.refl (fun _=>False) w) (.cells V 28);have hT:=heap_alloc_new w (.cells V 28);have hwT:w.heap.size<=(w.alloc (.cells V 28)).heap.size:=hx0.size;replace hV:=Y hV;replace hG:=Y hG;replace h:=Y h;replace ok:=Y ok;replace hx0:=Y hx0;replace hT:=Y hT;go_enter Tryz.func124,Tryz.ntmps124;go_upto_region 1 with fail
 generalize (w.alloc _)=W at hx0 hT hwT ⊢;generalize w.heap.size=T at hT ⊢;go_wp2_with fail
 go_ret;exact ⟨none,0,rfl,zac.nil _ _ _,hx0.o⟩
end Go.Proofs.YtjjfphalcibjfaaGreatDoor
