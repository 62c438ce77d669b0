import Derived.Test.YtjjfphalcibjfaaGreatDoorA9
import Derived.Test.YtjjfphalcibjfaaGreatDoorWhole
import Derived.Test.YtjjfphalcibjfaaGreatDoorA13
set_option maxRecDepth 100000
set_option maxHeartbeats 16000000
namespace Go.Proofs.YtjjfphalcibjfaaGreatDoor
open Go.RowKit Cdk
theorem lW {ops:Array Oper} {C:World -> Prop} {Q:Exit -> Act -> World -> Prop} {o:Oper} {r:List (Oper × Bool)} {a:Act} {w:World} {x:Operand} {cs:Array Value} {t:TypeId} {fr:Nat × Nat} {d:TypeDesc} (ty:TypeId) (b:Nat) (hS:∀ w,C w -> w.heap[b]?=some (.cells cs t fr)) (h:wpS Tryz.prog ops C Q r (a.put o.dst (.agg cs)) w)
  (hw:Region.wanted o (yielded ops a.tmps)=true:=by rfl) (ho:o.op=.load ty x:=by rfl) (hx:a.eval x=.pointer (some ⟨b,0,none⟩):=by rfl) (hu:Tryz.prog.underlying ty=some d:=by first | exact Tryz.underlying28 | exact Tryz.underlying32) (hd:d.isRow=true:=by rfl) (hi:(Tryz.prog.info? ty).map (·.size)=some cs.size:=by kernel_rfl):wpS Tryz.prog ops C Q ((o,true)::r) a w:=
 zbu hw ty x ho b cs t fr d hx hS hu hd hi h
theorem lL {ops:Array Oper} {C:World -> Prop} {Q:Exit -> Act -> World -> Prop} {o:Oper} {r:List (Oper × Bool)} {a:Act} {w:World} {x:Operand} {t:TypeId} {fr:Nat × Nat} {d:TypeDesc} {x0 x1 x2 x3 x4 x5 x6 x7 x8 x9 x10 x11 x12 x13 x14 x15 x16 x17 x18 x19 x20 x21 x22:Value} (ty:TypeId) (b:Nat)
  (hS:∀ w,C w -> w.heap[b]?=some (.cells #[x0,x1,x2,x3,x4,x5,x6,x7,x8,x9,x10,x11,x12,x13,x14,x15,x16,x17,x18,x19,x20,x21,x22] t fr)) (h:wpS Tryz.prog ops C Q r (a.put o.dst (.agg #[x11,x12,x13,x14])) w)
  (hw:Region.wanted o (yielded ops a.tmps)=true:=by rfl) (ho:o.op=.load ty x:=by rfl) (hx:a.eval x=.pointer (some ⟨b,11,none⟩):=by rfl) (hu:Tryz.prog.underlying ty=some d:=by exact Tryz.underlying26) (hd:d.isRow=true:=by rfl) (hi:(Tryz.prog.info? ty).map (·.size)=some 4:=by kernel_rfl):wpS Tryz.prog ops C Q ((o,true)::r) a w:=
 zjm hw ty x ho b t fr d hx hS hu hd hi h
open Go.RowKit Cdk Scr
theorem zaH {P:Program} {fn:Func} {p u:Tmp} {ty:TypeId} (h:fn.results=#[.cell p ty,.tmp u]) (tmps:Array Value) (w:World) (g:Nat) (t:TypeId) (cs:Array Value) (fr:Nat × Nat) (d:TypeDesc)
  (hp:tmps.getD p undef=.pointer (some ⟨g,0,none⟩)) (hg:w.heap[g]?=some (.cells cs t fr))
  (hu:P.underlying ty=some d) (hd:(match d with | .struct _ | .array _ _=>true | _=>false)=true) (hi:(P.info? ty).map (·.size)=some cs.size):
  (results fn tmps).run P w=.ok (.tuple #[.agg cs,tmps.getD u undef]) w:=by
 rw [results_cell_tmp h,hp];simp [asAddr,run_loadVar_row w g t ty cs fr d hg hu hd hi,Result.andThen]
theorem zll (a1:Option Addr) (n1 c1:Nat) (a2:Option Addr) (n2 c2:Nat) (a3:Option Addr) (n3 c3:Nat) (n tm st rv bs til app den ed bk se pa cl un:Int) (lg ti au tx nm:Bs) (w:World):
  Calls Tryz.prog 54 #[.agg (y0 n tm 6 st lg rv bs ti au a1 n1 c1 a2 n2 c2 til a3 n3 c3 app den ed bk se tx nm pa cl un)] w fun e w'=>e=.returned (.tuple #[.agg #[.int .i64 n,.int .i64 tm,.int .i64 6,.int .i64 st,.string ⟨#[]⟩,.int .i64 0,.int .i64 0,.string ⟨#[]⟩,.string ⟨#[]⟩,.slice none 0 0,.slice none 0 0,.int .i64 0,.slice none 0 0,.int .i64 0,.int .i64 0,.int .i64 0,.int .i64 0,.int .i64 0,.string ⟨#[]⟩,.string ⟨#[]⟩,.int .i64 0,.int .i64 0,.int .i64 0],.bool (rng st 1 64)])/\Ext w w':=by
 obtain ⟨ok,hok⟩:∃ ok,ok=(rng st 1 64):=⟨_,rfl⟩;rw [<- hok];have k1:=hid (fun W=>zaf st 1 64 W);have k2:=hid (fun W=>zaf pa 1 8 W);have k3:=hid (fun W=>zaf un 0 1000000000 W);generalize rng st 1 64=b1 at k1 hok;generalize rng pa 1 8=b2 at k2 hok;generalize rng un 0 1000000000=b3 at k3 hok;replace hok:=hid hok;have h3:=hid (zaZ w (y0 n tm 6 st lg rv bs ti au a1 n1 c1 a2 n2 c2 til a3 n3 c3 app den ed bk se tx nm pa cl un) zF9 zF9 28 28 28);go_enter Tryz.func54,Tryz.ntmps54;go_wp2_with (refine zab rfl 28 _ _ rfl (w.heap.size+1+1) _ _ 28 rfl rfl h3.out.2.2.2 rfl (by kernel_rfl) rfl (fun W H1=>?_);have q_st:W.cell? ⟨w.heap.size,3,none⟩=some (.int .i64 st):=zaa (H1.out.2.at h3.out.2.1 (by omega)) 3)
 obtain ⟨hm0,hA0,hV0,-⟩:=h3.out;clear h3;have hA:=hid (H1.out.2.at hA0 (by omega));have hV:=hid (H1.out.2.at hV0 (by omega));have hU:=hid H1.out.1;have hm:=hid ((hm0.mono (T:=fun k=>w.heap.size<=k) (fun _ h=>h.elim)).then H1.out.2 (fun k _ e=>by omega));clear H1 hA0 hV0 hm0;have hfin:Hid (∀ w',Mod (fun k=>w.heap.size<=k) w w' -> Ext w w'):=hid (fun w' h=>h.mono' (fun k hk e=>by omega));generalize w.heap.size=R at hA hV hU hm hfin ⊢;refine (k1.out _).mono ?_;rintro e w' ⟨rfl,rfl⟩;have q_pa:W.cell? ⟨R,20,none⟩=some (.int .i64 pa):=zaa hA.out 20;have q_un:W.cell? ⟨R,22,none⟩=some (.int .i64 un):=zaa hA.out 22;have q_kd:W.cell? ⟨R,2,none⟩=some (.int .i64 6):=zaa hA.out 2;go_wp2_with fail
 refine (k2.out _).mono ?_;rintro e w' ⟨rfl,rfl⟩;cases b2
 case' false=>clear k1 k2 k3 q_st q_pa q_un
 case' true=>
  go_wp2_with fail
  refine (k3.out _).mono ?_;rintro e w' ⟨rfl,rfl⟩;clear k1 k2 k3 q_st q_pa q_un
 all_goals
  go_wp2_with (first | (refine zbx rfl 28 _ rfl _ 0 [] [.int .i64 n,.int .i64 tm,.int .i64 6,.int .i64 st,.string ⟨#[]⟩,.int .i64 0,.int .i64 0,.string ⟨#[]⟩,.string ⟨#[]⟩,.slice none 0 0,.slice none 0 0,.int .i64 0,.slice none 0 0,.int .i64 0,.int .i64 0,.int .i64 0,.int .i64 0,.int .i64 0,.string ⟨#[]⟩,.string ⟨#[]⟩,.int .i64 0,.int .i64 0,.int .i64 0] [] _ _ _ rfl rfl hU.out Tryz.underlying28 rfl (by kernel_rfl) ?_) | (refine zaP rfl 28 _ _ rfl (R+1) 0 [] (y1) [] _ 28 rfl rfl rfl hV.out rfl (by kernel_rfl) rfl (fun WF HF=>?_)))
  refine bodyPost_ret (zaH rfl _ _ (R+1) _ _ _ _ rfl HF.out.1 Tryz.underlying28 rfl (by kernel_rfl)) rfl ?_;exact ⟨by rw [hok.out];simp [*],hfin.out _ (hm.out.then HF.out.2 (fun k _ e=>by omega))⟩
theorem zkB (a1:Option Addr) (n1 c1:Nat) (a2:Option Addr) (n2 c2:Nat) (a3:Option Addr) (n3 c3:Nat) (n tm st rv bs til app den ed bk se pa cl un:Int) (lg ti au tx nm:Bs) (w:World):
  Calls Tryz.prog 54 #[.agg (y0 n tm 10 st lg rv bs ti au a1 n1 c1 a2 n2 c2 til a3 n3 c3 app den ed bk se tx nm pa cl un)] w fun e w'=>e=.returned (.tuple #[.agg #[.int .i64 n,.int .i64 tm,.int .i64 10,.int .i64 st,.string ⟨#[]⟩,.int .i64 0,.int .i64 0,.string ⟨#[]⟩,.string ⟨#[]⟩,.slice none 0 0,.slice none 0 0,.int .i64 0,.slice none 0 0,.int .i64 0,.int .i64 0,.int .i64 0,.int .i64 0,.int .i64 0,.string ⟨#[]⟩,.string ⟨#[]⟩,.int .i64 0,.int .i64 0,.int .i64 0],.bool (rng st 1 64)])/\Ext w w':=by
 obtain ⟨ok,hok⟩:∃ ok,ok=(rng st 1 64):=⟨_,rfl⟩;rw [<- hok];have k1:=hid (fun W=>zaf st 1 64 W);have k2:=hid (fun W=>zaf pa 1 8 W);have k3:=hid (fun W=>zaf un 0 1000000000 W);generalize rng st 1 64=b1 at k1 hok;generalize rng pa 1 8=b2 at k2 hok;generalize rng un 0 1000000000=b3 at k3 hok;replace hok:=hid hok;have h3:=hid (zaZ w (y0 n tm 10 st lg rv bs ti au a1 n1 c1 a2 n2 c2 til a3 n3 c3 app den ed bk se tx nm pa cl un) zF9 zF9 28 28 28);go_enter Tryz.func54,Tryz.ntmps54;go_wp2_with (refine zab rfl 28 _ _ rfl (w.heap.size+1+1) _ _ 28 rfl rfl h3.out.2.2.2 rfl (by kernel_rfl) rfl (fun W H1=>?_);have q_st:W.cell? ⟨w.heap.size,3,none⟩=some (.int .i64 st):=zaa (H1.out.2.at h3.out.2.1 (by omega)) 3)
 obtain ⟨hm0,hA0,hV0,-⟩:=h3.out;clear h3;have hA:=hid (H1.out.2.at hA0 (by omega));have hV:=hid (H1.out.2.at hV0 (by omega));have hU:=hid H1.out.1;have hm:=hid ((hm0.mono (T:=fun k=>w.heap.size<=k) (fun _ h=>h.elim)).then H1.out.2 (fun k _ e=>by omega));clear H1 hA0 hV0 hm0;have hfin:Hid (∀ w',Mod (fun k=>w.heap.size<=k) w w' -> Ext w w'):=hid (fun w' h=>h.mono' (fun k hk e=>by omega));generalize w.heap.size=R at hA hV hU hm hfin ⊢;refine (k1.out _).mono ?_;rintro e w' ⟨rfl,rfl⟩;have q_pa:W.cell? ⟨R,20,none⟩=some (.int .i64 pa):=zaa hA.out 20;have q_un:W.cell? ⟨R,22,none⟩=some (.int .i64 un):=zaa hA.out 22;have q_kd:W.cell? ⟨R,2,none⟩=some (.int .i64 10):=zaa hA.out 2;go_wp2_with fail
 refine (k2.out _).mono ?_;rintro e w' ⟨rfl,rfl⟩;cases b2
 case' false=>clear k1 k2 k3 q_st q_pa q_un
 case' true=>
  go_wp2_with fail
  refine (k3.out _).mono ?_;rintro e w' ⟨rfl,rfl⟩;clear k1 k2 k3 q_st q_pa q_un
 all_goals
  go_wp2_with (first | (refine zbx rfl 28 _ rfl _ 0 [] [.int .i64 n,.int .i64 tm,.int .i64 10,.int .i64 st,.string ⟨#[]⟩,.int .i64 0,.int .i64 0,.string ⟨#[]⟩,.string ⟨#[]⟩,.slice none 0 0,.slice none 0 0,.int .i64 0,.slice none 0 0,.int .i64 0,.int .i64 0,.int .i64 0,.int .i64 0,.int .i64 0,.string ⟨#[]⟩,.string ⟨#[]⟩,.int .i64 0,.int .i64 0,.int .i64 0] [] _ _ _ rfl rfl hU.out Tryz.underlying28 rfl (by kernel_rfl) ?_) | (refine zaP rfl 28 _ _ rfl (R+1) 0 [] (y1) [] _ 28 rfl rfl rfl hV.out rfl (by kernel_rfl) rfl (fun WF HF=>?_)))
  refine bodyPost_ret (zaH rfl _ _ (R+1) _ _ _ _ rfl HF.out.1 Tryz.underlying28 rfl (by kernel_rfl)) rfl ?_;exact ⟨by rw [hok.out];simp [*],hfin.out _ (hm.out.then HF.out.2 (fun k _ e=>by omega))⟩
open Go.Shelf Go.RowKit Cdk Scr
structure FR where
 kd:Int
 fk:Int
 wd:Bs
 wr:Value
 rd:Value
def frC (r:FR):List Value:=[.int .i64 r.kd,.int .i64 r.fk,.string ⟨r.wd.toArray⟩,r.wr,r.rd]
theorem zdC (r:FR):(frC r).length=5:=rfl
def clV (f:Nat):Value:=.func (.func f) #[] #[]
def wrF:Nat -> Nat
 | 0=>111
 | 1=>113
 | 2=>115
 | 3=>119
 | 4=>122
 | 5=>124
 | 6=>126
 | 7=>130
 | 8=>132
 | 9=>134
 | 10=>134
 | 11=>134
 | 12=>136
 | 13=>140
 | 14=>142
 | 15=>144
 | 16=>146
 | 17=>148
 | _=>0
def rdF:Nat -> Nat
 | 0=>112
 | 1=>114
 | 2=>117
 | 3=>120
 | 4=>123
 | 5=>125
 | 6=>128
 | 7=>131
 | 8=>133
 | 9=>135
 | 10=>135
 | 11=>135
 | 12=>138
 | 13=>141
 | 14=>143
 | 15=>145
 | 16=>147
 | 17=>150
 | _=>0
def znN (j:Nat):Int:=(forms.getD j ⟨0,0,[]⟩).kd
def znP (j:Nat):Int:=(forms.getD j ⟨0,0,[]⟩).fk
def zmQ (j:Nat):Bs:=(forms.getD j ⟨0,0,[]⟩).wd
def zc6 (F:Nat -> Prop) (w:World) (j:Nat) (r:FR):Prop:=
 r.kd=znN j/\r.fk=znP j/\r.wd=zmQ j ∧
  (if j < 6 then ∃ b:Nat,F b/\F (b+1)/\r.wr=.func (.func 106) #[] #[.pointer (some ⟨b,0,none⟩)]/\r.rd=.func (.func 108) #[] #[.pointer (some ⟨b+1,0,none⟩)] ∧
    w.heap[b]?=some (.cells #[clV (wrF j)] 98 (0,0))/\w.heap[b+1]?=some (.cells #[clV (rdF j)] 122 (0,0))
   else r.wr=clV (wrF j)/\r.rd=clV (rdF j))
theorem zc6.mod {F S:Nat -> Prop} {w w':World} {j:Nat} {r:FR} (h:zc6 F w j r) (hm:Mod S w w') (hS:∀ k,F k -> ¬ S k):zc6 F w' j r:=by
 obtain ⟨h1,h2,h3,h4⟩:=h;refine ⟨h1,h2,h3,?_⟩;split at h4
 ·rename_i hj
  rw [if_pos hj];obtain ⟨b,f1,f2,e1,e2,k1,k2⟩:=h4;exact ⟨b,f1,f2,e1,e2,hm.at k1 (hS _ f1),hm.at k2 (hS _ f2)⟩
 ·rename_i hj
  rw [if_neg hj];exact h4
theorem zc6.ext {F:Nat -> Prop} {w w':World} {j:Nat} {r:FR} (h:zc6 F w j r) (hm:Ext w w'):zc6 F w' j r:=h.mod hm (fun _ _ h=>h)
theorem zc6.mono {F F':Nat -> Prop} {w:World} {j:Nat} {r:FR} (h:zc6 F w j r) (hF:∀ k,F k -> F' k):zc6 F' w j r:=by
 obtain ⟨h1,h2,h3,h4⟩:=h;refine ⟨h1,h2,h3,?_⟩;split at h4
 ·rename_i hj
  rw [if_pos hj];obtain ⟨b,f1,f2,h⟩:=h4;exact ⟨b,hF _ f1,hF _ f2,h⟩
 ·rename_i hj
  rw [if_neg hj];exact h4
def znK (w:World) (i n:Nat) (e:Ending) (w':World):Prop:=∃ (k:Nat) (rows:List FR),w.heap.size<=k/\rows.length=n/\e=.returned (.slice (some ⟨k,0,none⟩) n n)/\w'.heap[k]?=some (.cells (rows.flatMap frC).toArray 95 (0,0)) ∧
 (∀ j (hj:j < rows.length),zc6 (fun k=>w.heap.size<=k) w' (i+j) rows[j])/\Ext w w'
theorem zcf (kd:Int) (wd:Bs) (f g:Nat) (w:World):Calls Tryz.prog 105 #[.int .i64 kd,.string ⟨wd.toArray⟩,.func (.func f) #[] #[],.func (.func g) #[] #[]] w fun e w'=>
  e=.returned (.agg #[.int .i64 1,.int .i64 kd,.string ⟨wd.toArray⟩,.func (.func 106) #[] #[.pointer (some ⟨w.heap.size,0,none⟩)],.func (.func 108) #[] #[.pointer (some ⟨w.heap.size+1,0,none⟩)]]) ∧
   w'.heap[w.heap.size]?=some (.cells #[clV f] 98 (0,0))/\w'.heap[w.heap.size+1]?=some (.cells #[clV g] 122 (0,0))/\Ext w w'/\w.heap.size+2<=w'.heap.size:=by
 go_enter Tryz.func105,Tryz.ntmps105;go_wp2_with fail
 have h0:=heap_alloc_new w (.cells #[.func (.func f) #[] #[]] 98);have hx:=Mod.alloc (Mod.refl (fun _=>False) w) (.cells #[.func (.func f) #[] #[]] 98);have hs1:(w.alloc (.cells #[.func (.func f) #[] #[]] 98)).heap.size=w.heap.size+1:=World.size_alloc _ _;generalize (w.alloc (.cells #[.func (.func f) #[] #[]] 98))=w1 at h0 hx hs1 ⊢;have h1:=heap_alloc_new w1 (.cells #[.func (.func g) #[] #[]] 122);have hx1:=Mod.alloc (Mod.refl (fun _=>False) w1) (.cells #[.func (.func g) #[] #[]] 122);have hs2:(w1.alloc (.cells #[.func (.func g) #[] #[]] 122)).heap.size=w.heap.size+2:=by rw [World.size_alloc,hs1]
 rw [hs1] at h1;generalize (w1.alloc (.cells #[.func (.func g) #[] #[]] 122))=w2 at h1 hx1 hs2 ⊢;have h2:=heap_alloc_new w2 (.cells #[.int .i64 1,.int .i64 kd,.string ⟨wd.toArray⟩,.func (.func 106) #[] #[.pointer (some ⟨w.heap.size,0,none⟩)],.func (.func 108) #[] #[.pointer (some ⟨w.heap.size+1,0,none⟩)]] 95);have hx2:=Mod.alloc (Mod.refl (fun _=>False) w2) (.cells #[.int .i64 1,.int .i64 kd,.string ⟨wd.toArray⟩,.func (.func 106) #[] #[.pointer (some ⟨w.heap.size,0,none⟩)],.func (.func 108) #[] #[.pointer (some ⟨w.heap.size+1,0,none⟩)]] 95);rw [hs2] at h2;refine bodyPost_ret (results_cell_row rfl _ _ (w.heap.size+2) _ _ _ _ rfl h2 Tryz.underlying95 rfl (by kernel_rfl)) rfl ⟨rfl,hx2.at (hx1.at h0 (fun h=>h)) (fun h=>h),hx2.at h1 (fun h=>h),(hx.trans hx1).trans hx2,?_⟩;have:=hx2.size;omega
theorem zeX (w:World):Calls Tryz.prog 68 #[] w (znK w 6 3):=by
 obtain ⟨rows,hrows⟩:∃ rows:List FR,rows=[⟨1,7,[116,101,109,112,108,97,116,101],clV 126,clV 128⟩,⟨1,8,[112,97,114,116,110,101,114],clV 130,clV 131⟩,⟨1,9,[108,101,97,115,101],clV 132,clV 133⟩]:=⟨_,rfl⟩;have hfm:∀ W j (hj:j < rows.length),zc6 (fun k=>w.heap.size<=k) W (6+j) rows[j]:=by
  intro W j hj;subst hrows;have hj':j < 3:=hj;have:j=0 \/ j=1 \/ j=2:=by omega
  rcases this with rfl | rfl | rfl
  ·exact ⟨rfl,rfl,rfl,by rw [if_neg (by decide)];exact ⟨rfl,rfl⟩⟩
  ·exact ⟨rfl,rfl,rfl,by rw [if_neg (by decide)];exact ⟨rfl,rfl⟩⟩
  ·exact ⟨rfl,rfl,rfl,by rw [if_neg (by decide)];exact ⟨rfl,rfl⟩⟩
 have hl:rows.length=3:=by rw [hrows];rfl
 have hx:=Mod.alloc (Mod.refl (fun _=>False) w) (.cells (rows.flatMap frC).toArray 95);have hk:=heap_alloc_new w (.cells (rows.flatMap frC).toArray 95);replace hl:=hid hl;replace hfm:=hid hfm;have hx:=hid hx;have hk:=hid hk;replace hrows:=hid hrows;go_enter Tryz.func68,Tryz.ntmps68;go_wp2_with fail
 go_ret;refine ⟨w.heap.size,rows,Nat.le_refl _,hl.out,rfl,?_,hfm.out _,?_⟩
 ·have:=hk.out
  rw [hrows.out] at this ⊢;exact this
 ·have:=hx.out
  rw [hrows.out] at this;exact this
theorem zeW (w:World):Calls Tryz.prog 69 #[] w (znK w 9 6):=by
 obtain ⟨rows,hrows⟩:∃ rows:List FR,rows=[⟨2,0,[116,105,99,107],clV 134,clV 135⟩,⟨3,0,[99,108,111,99,107],clV 134,clV 135⟩,⟨10,0,[99,117,116],clV 134,clV 135⟩,⟨4,0,[102,97,116,101,115],clV 136,clV 138⟩,⟨5,0,[99,114,97,115,104],clV 140,clV 141⟩,⟨9,0,[99,104,101,99,107],clV 142,clV 143⟩]:=⟨_,rfl⟩;have hfm:∀ W j (hj:j < rows.length),zc6 (fun k=>w.heap.size<=k) W (9+j) rows[j]:=by
  intro W j hj;subst hrows;have hj':j < 6:=hj;have:j=0 \/ j=1 \/ j=2 \/ j=3 \/ j=4 \/ j=5:=by omega
  rcases this with rfl | rfl | rfl | rfl | rfl | rfl
  ·exact ⟨rfl,rfl,rfl,by rw [if_neg (by decide)];exact ⟨rfl,rfl⟩⟩
  ·exact ⟨rfl,rfl,rfl,by rw [if_neg (by decide)];exact ⟨rfl,rfl⟩⟩
  ·exact ⟨rfl,rfl,rfl,by rw [if_neg (by decide)];exact ⟨rfl,rfl⟩⟩
  ·exact ⟨rfl,rfl,rfl,by rw [if_neg (by decide)];exact ⟨rfl,rfl⟩⟩
  ·exact ⟨rfl,rfl,rfl,by rw [if_neg (by decide)];exact ⟨rfl,rfl⟩⟩
  ·exact ⟨rfl,rfl,rfl,by rw [if_neg (by decide)];exact ⟨rfl,rfl⟩⟩
 have hl:rows.length=6:=by rw [hrows];rfl
 have hx:=Mod.alloc (Mod.refl (fun _=>False) w) (.cells (rows.flatMap frC).toArray 95);have hk:=heap_alloc_new w (.cells (rows.flatMap frC).toArray 95);replace hl:=hid hl;replace hfm:=hid hfm;have hx:=hid hx;have hk:=hid hk;replace hrows:=hid hrows;go_enter Tryz.func69,Tryz.ntmps69;go_wp2_with fail
 go_ret;refine ⟨w.heap.size,rows,Nat.le_refl _,hl.out,rfl,?_,hfm.out _,?_⟩
 ·have:=hk.out
  rw [hrows.out] at this ⊢;exact this
 ·have:=hx.out
  rw [hrows.out] at this;exact this
theorem zel (w:World):Calls Tryz.prog 70 #[] w (znK w 15 3):=by
 obtain ⟨rows,hrows⟩:∃ rows:List FR,rows=[⟨6,0,[103,101,116],clV 144,clV 145⟩,⟨7,0,[115,101,97,114,99,104],clV 146,clV 147⟩,⟨8,0,[102,111,114,103,101],clV 148,clV 150⟩]:=⟨_,rfl⟩;have hfm:∀ W j (hj:j < rows.length),zc6 (fun k=>w.heap.size<=k) W (15+j) rows[j]:=by
  intro W j hj;subst hrows;have hj':j < 3:=hj;have:j=0 \/ j=1 \/ j=2:=by omega
  rcases this with rfl | rfl | rfl
  ·exact ⟨rfl,rfl,rfl,by rw [if_neg (by decide)];exact ⟨rfl,rfl⟩⟩
  ·exact ⟨rfl,rfl,rfl,by rw [if_neg (by decide)];exact ⟨rfl,rfl⟩⟩
  ·exact ⟨rfl,rfl,rfl,by rw [if_neg (by decide)];exact ⟨rfl,rfl⟩⟩
 have hl:rows.length=3:=by rw [hrows];rfl
 have hx:=Mod.alloc (Mod.refl (fun _=>False) w) (.cells (rows.flatMap frC).toArray 95);have hk:=heap_alloc_new w (.cells (rows.flatMap frC).toArray 95);replace hl:=hid hl;replace hfm:=hid hfm;have hx:=hid hx;have hk:=hid hk;replace hrows:=hid hrows;go_enter Tryz.func70,Tryz.ntmps70;go_wp2_with fail
 go_ret;refine ⟨w.heap.size,rows,Nat.le_refl _,hl.out,rfl,?_,hfm.out _,?_⟩
 ·have:=hk.out
  rw [hrows.out] at this ⊢;exact this
 ·have:=hx.out
  rw [hrows.out] at this;exact this
theorem zeS (w:World):Calls Tryz.prog 67 #[] w (znK w 0 6):=by
 have hce:=enters_of Tryz.func105 (by kernel_rfl) rfl;go_enter Tryz.func67,Tryz.ntmps67;go_wp2_with fail
 refine (zcf 1 [114,101,118,105,115,101] 111 112 w).mono ?_;rintro e w1 ⟨rfl,p0,q0,x0,z0⟩;obtain ⟨s0,hs0⟩:∃ s,s=w.heap.size:=⟨_,rfl⟩;rw [<- hs0] at p0 q0 z0 ⊢;have y0:=x0;have b0:w.heap.size<=s0:=by have:=Nat.le_refl w.heap.size;omega
 replace hs0:=hid hs0;replace z0:=hid z0;replace x0:=hid x0;replace p0:=hid p0;replace q0:=hid q0;go_wp2_with fail
 refine (zcf 2 [97,112,112,114,111,118,101] 113 114 w1).mono ?_;rintro e w2 ⟨rfl,p1,q1,x1,z1⟩;obtain ⟨s1,hs1⟩:∃ s,s=w1.heap.size:=⟨_,rfl⟩;rw [<- hs1] at p1 q1 z1 ⊢;have y1:=y0.trans x1;have b1:w.heap.size<=s1:=by have:=y0.size;omega
 replace p0:=x1.at p0 (fun h=>h);replace q0:=x1.at q0 (fun h=>h);replace hs1:=hid hs1;replace z1:=hid z1;replace x1:=hid x1;replace p1:=hid p1;replace q1:=hid q1;go_wp2_with fail
 refine (zcf 3 [112,117,98,108,105,115,104] 115 117 w2).mono ?_;rintro e w3 ⟨rfl,p2,q2,x2,z2⟩;obtain ⟨s2,hs2⟩:∃ s,s=w2.heap.size:=⟨_,rfl⟩;rw [<- hs2] at p2 q2 z2 ⊢;have y2:=y1.trans x2;have b2:w.heap.size<=s2:=by have:=y1.size;omega
 replace p0:=x2.at p0 (fun h=>h);replace q0:=x2.at q0 (fun h=>h);replace p1:=x2.at p1 (fun h=>h);replace q1:=x2.at q1 (fun h=>h);replace hs2:=hid hs2;replace z2:=hid z2;replace x2:=hid x2;replace p2:=hid p2;replace q2:=hid q2;go_wp2_with fail
 refine (zcf 4 [99,111,114,114,101,99,116] 119 120 w3).mono ?_;rintro e w4 ⟨rfl,p3,q3,x3,z3⟩;obtain ⟨s3,hs3⟩:∃ s,s=w3.heap.size:=⟨_,rfl⟩;rw [<- hs3] at p3 q3 z3 ⊢;have y3:=y2.trans x3;have b3:w.heap.size<=s3:=by have:=y2.size;omega
 replace p0:=x3.at p0 (fun h=>h);replace q0:=x3.at q0 (fun h=>h);replace p1:=x3.at p1 (fun h=>h);replace q1:=x3.at q1 (fun h=>h);replace p2:=x3.at p2 (fun h=>h);replace q2:=x3.at q2 (fun h=>h);replace hs3:=hid hs3;replace z3:=hid z3;replace x3:=hid x3;replace p3:=hid p3;replace q3:=hid q3;go_wp2_with fail
 refine (zcf 5 [114,101,116,114,97,99,116] 122 123 w4).mono ?_;rintro e w5 ⟨rfl,p4,q4,x4,z4⟩;obtain ⟨s4,hs4⟩:∃ s,s=w4.heap.size:=⟨_,rfl⟩;rw [<- hs4] at p4 q4 z4 ⊢;have y4:=y3.trans x4;have b4:w.heap.size<=s4:=by have:=y3.size;omega
 replace p0:=x4.at p0 (fun h=>h);replace q0:=x4.at q0 (fun h=>h);replace p1:=x4.at p1 (fun h=>h);replace q1:=x4.at q1 (fun h=>h);replace p2:=x4.at p2 (fun h=>h);replace q2:=x4.at q2 (fun h=>h);replace p3:=x4.at p3 (fun h=>h);replace q3:=x4.at q3 (fun h=>h);replace hs4:=hid hs4;replace z4:=hid z4;replace x4:=hid x4;replace p4:=hid p4;replace q4:=hid q4;go_wp2_with fail
 refine (zcf 6 [116,97,107,101,100,111,119,110] 124 125 w5).mono ?_;rintro e w6 ⟨rfl,p5,q5,x5,z5⟩;obtain ⟨s5,hs5⟩:∃ s,s=w5.heap.size:=⟨_,rfl⟩;rw [<- hs5] at p5 q5 z5 ⊢;have y5:=y4.trans x5;have b5:w.heap.size<=s5:=by have:=y4.size;omega
 replace p0:=x5.at p0 (fun h=>h);replace q0:=x5.at q0 (fun h=>h);replace p1:=x5.at p1 (fun h=>h);replace q1:=x5.at q1 (fun h=>h);replace p2:=x5.at p2 (fun h=>h);replace q2:=x5.at q2 (fun h=>h);replace p3:=x5.at p3 (fun h=>h);replace q3:=x5.at q3 (fun h=>h);replace p4:=x5.at p4 (fun h=>h);replace q4:=x5.at q4 (fun h=>h);replace hs5:=hid hs5;replace z5:=hid z5;replace x5:=hid x5;replace p5:=hid p5;replace q5:=hid q5;go_wp2_with fail
 go_ret;have hxL:=Mod.alloc (Mod.refl (fun _=>False) w6) (.cells (([⟨1,1,[114,101,118,105,115,101],.func (.func 106) #[] #[.pointer (some ⟨s0,0,none⟩)],.func (.func 108) #[] #[.pointer (some ⟨s0+1,0,none⟩)]⟩,⟨1,2,[97,112,112,114,111,118,101],.func (.func 106) #[] #[.pointer (some ⟨s1,0,none⟩)],.func (.func 108) #[] #[.pointer (some ⟨s1+1,0,none⟩)]⟩,⟨1,3,[112,117,98,108,105,115,104],.func (.func 106) #[] #[.pointer (some ⟨s2,0,none⟩)],.func (.func 108) #[] #[.pointer (some ⟨s2+1,0,none⟩)]⟩,⟨1,4,[99,111,114,114,101,99,116],.func (.func 106) #[] #[.pointer (some ⟨s3,0,none⟩)],.func (.func 108) #[] #[.pointer (some ⟨s3+1,0,none⟩)]⟩,⟨1,5,[114,101,116,114,97,99,116],.func (.func 106) #[] #[.pointer (some ⟨s4,0,none⟩)],.func (.func 108) #[] #[.pointer (some ⟨s4+1,0,none⟩)]⟩,⟨1,6,[116,97,107,101,100,111,119,110],.func (.func 106) #[] #[.pointer (some ⟨s5,0,none⟩)],.func (.func 108) #[] #[.pointer (some ⟨s5+1,0,none⟩)]⟩]:List FR).flatMap frC).toArray 95);have hkL:=heap_alloc_new w6 (.cells (([⟨1,1,[114,101,118,105,115,101],.func (.func 106) #[] #[.pointer (some ⟨s0,0,none⟩)],.func (.func 108) #[] #[.pointer (some ⟨s0+1,0,none⟩)]⟩,⟨1,2,[97,112,112,114,111,118,101],.func (.func 106) #[] #[.pointer (some ⟨s1,0,none⟩)],.func (.func 108) #[] #[.pointer (some ⟨s1+1,0,none⟩)]⟩,⟨1,3,[112,117,98,108,105,115,104],.func (.func 106) #[] #[.pointer (some ⟨s2,0,none⟩)],.func (.func 108) #[] #[.pointer (some ⟨s2+1,0,none⟩)]⟩,⟨1,4,[99,111,114,114,101,99,116],.func (.func 106) #[] #[.pointer (some ⟨s3,0,none⟩)],.func (.func 108) #[] #[.pointer (some ⟨s3+1,0,none⟩)]⟩,⟨1,5,[114,101,116,114,97,99,116],.func (.func 106) #[] #[.pointer (some ⟨s4,0,none⟩)],.func (.func 108) #[] #[.pointer (some ⟨s4+1,0,none⟩)]⟩,⟨1,6,[116,97,107,101,100,111,119,110],.func (.func 106) #[] #[.pointer (some ⟨s5,0,none⟩)],.func (.func 108) #[] #[.pointer (some ⟨s5+1,0,none⟩)]⟩]:List FR).flatMap frC).toArray 95);refine ⟨w6.heap.size,[⟨1,1,[114,101,118,105,115,101],.func (.func 106) #[] #[.pointer (some ⟨s0,0,none⟩)],.func (.func 108) #[] #[.pointer (some ⟨s0+1,0,none⟩)]⟩,⟨1,2,[97,112,112,114,111,118,101],.func (.func 106) #[] #[.pointer (some ⟨s1,0,none⟩)],.func (.func 108) #[] #[.pointer (some ⟨s1+1,0,none⟩)]⟩,⟨1,3,[112,117,98,108,105,115,104],.func (.func 106) #[] #[.pointer (some ⟨s2,0,none⟩)],.func (.func 108) #[] #[.pointer (some ⟨s2+1,0,none⟩)]⟩,⟨1,4,[99,111,114,114,101,99,116],.func (.func 106) #[] #[.pointer (some ⟨s3,0,none⟩)],.func (.func 108) #[] #[.pointer (some ⟨s3+1,0,none⟩)]⟩,⟨1,5,[114,101,116,114,97,99,116],.func (.func 106) #[] #[.pointer (some ⟨s4,0,none⟩)],.func (.func 108) #[] #[.pointer (some ⟨s4+1,0,none⟩)]⟩,⟨1,6,[116,97,107,101,100,111,119,110],.func (.func 106) #[] #[.pointer (some ⟨s5,0,none⟩)],.func (.func 108) #[] #[.pointer (some ⟨s5+1,0,none⟩)]⟩],y5.size,rfl,rfl,hkL,?_,y5.trans hxL⟩;intro j hj;have hj':j < 6:=hj;have h6:j=0 \/ j=1 \/ j=2 \/ j=3 \/ j=4 \/ j=5:=by omega
 rcases h6 with rfl | rfl | rfl | rfl | rfl | rfl
 ·exact ⟨rfl,rfl,rfl,by rw [if_pos (by decide)];exact ⟨s0,b0,by omega,rfl,rfl,hxL.at p0 (fun h=>h),hxL.at q0 (fun h=>h)⟩⟩
 ·exact ⟨rfl,rfl,rfl,by rw [if_pos (by decide)];exact ⟨s1,b1,by omega,rfl,rfl,hxL.at p1 (fun h=>h),hxL.at q1 (fun h=>h)⟩⟩
 ·exact ⟨rfl,rfl,rfl,by rw [if_pos (by decide)];exact ⟨s2,b2,by omega,rfl,rfl,hxL.at p2 (fun h=>h),hxL.at q2 (fun h=>h)⟩⟩
 ·exact ⟨rfl,rfl,rfl,by rw [if_pos (by decide)];exact ⟨s3,b3,by omega,rfl,rfl,hxL.at p3 (fun h=>h),hxL.at q3 (fun h=>h)⟩⟩
 ·exact ⟨rfl,rfl,rfl,by rw [if_pos (by decide)];exact ⟨s4,b4,by omega,rfl,rfl,hxL.at p4 (fun h=>h),hxL.at q4 (fun h=>h)⟩⟩
 ·exact ⟨rfl,rfl,rfl,by rw [if_pos (by decide)];exact ⟨s5,b5,by omega,rfl,rfl,hxL.at p5 (fun h=>h),hxL.at q5 (fun h=>h)⟩⟩
end Go.Proofs.YtjjfphalcibjfaaGreatDoor
