import Derived.Test.YtcopgcdhkgenkaaGreatDoorPK4
set_option linter.all false
set_option maxRecDepth 100000
set_option maxHeartbeats 16000000
namespace Go.Proofs.YtcopgcdhkgenkaaGreatDoor.Ps
open Go.RowKit Cdk Tpl
attribute [local go_sem] Oper.semAt_some
theorem Ext.grown {w w':World} (h:Ext w w'):w.grownBy w' none:=
 ⟨h.os,h.tape,h.output,h.size,fun k hk _=>h.block k hk (fun h=>h)⟩
def tagV (t:Option Nat):Value:=match t with | none=>.int .i64 (-1) | some t=>.int .i64 t
theorem scan_open {f off:Nat} {c:UInt8} {r:Bs} (h:opensB (c::r)=true):scan (f+1) (c::r) off none=⟨6,[c],off⟩::scan f r (off+1) (some off):=by
 cases r with
 | nil=>
  simp only [opensB,decide_eq_true_eq] at h;simp [scan,h]
 | cons d r=>
  simp only [opensB,Bool.and_eq_true,decide_eq_true_eq,Bool.not_eq_true',decide_eq_false_iff_not] at h;simp [scan,h.1,h.2]
theorem scan_lit {f off:Nat} {c:UInt8} {r:Bs} (h:opensB (c::r)=false):
  scan (f+1) (c::r) off none=if (lit (c::r)).2.2.2 then ⟨1,(lit (c::r)).1,off⟩::scan f (lit (c::r)).2.2.1 (off+(lit (c::r)).2.1) none else [⟨0,[],off+(lit (c::r)).2.1⟩]:=by
 cases r with
 | nil=>
  have h':¬ c.toNat=123:=by simpa [opensB] using h
  simp [scan,h']
 | cons d r=>
  have hc:(decide (c.toNat=123) && !decide (d.toNat=123))=false:=h;simp only [scan];rw [if_neg (by rw [hc];decide)]
theorem lit_rest:∀ (n:Nat) (l:Bs),l.length<=n -> (lit l).2.2.1=l.drop (lit l).2.1
 | _,[],_=>by simp [lit]
 | _,[c],_=>by
  simp only [lit];split
  ·simp
  ·split <;> simp
 | n+1,c::d::r,h=>by
  simp only [lit];split
  ·split
   ·have:=lit_rest n r (by simp at h;omega)
    simp only [this];rfl
   ·simp
  ·split
   ·simp
   ·have:=lit_rest n (d::r) (by simpa using h)
    simp only [this];rfl
theorem lit_pos {c:UInt8} {r:Bs} (h:opensB (c::r)=false) (hok:(lit (c::r)).2.2.2=true):1<=(lit (c::r)).2.1:=by
 by_cases h123:c.toNat=123
 ·obtain ⟨d,r',rfl,hl⟩:=lit_brace h123 h
  rw [hl];simp
 ·by_cases hg:c.toNat=10 \/ isP c=true
  ·rw [lit_step h123 hg];simp
  ·have:isP c=false:=by cases hp:isP c with | true=>exact absurd (.inr hp) hg | false=>rfl
   rw [lit_bad (fun e=>hg (.inl e)) this] at hok;cases hok
theorem part_rest {c:UInt8} {r:Bs} {k:Nat} {w:Bs} {n:Nat} {t:Bs} (h:Tpl.part c r=some (k,w,n,t)):t=(c::r).drop n/\1<=n/\n<=r.length+1/\k ≠ 0:=by
 unfold Tpl.part at h;split at h
 ·simp only at h
  split at h
  ·cases h
  ·simp only [Option.some.injEq,Prod.mk.injEq] at h
   obtain ⟨rfl,rfl,rfl,rfl⟩:=h;refine ⟨by simp [drop_while],by simp,?_,by decide⟩;have:=(List.takeWhile_sublist isW (l:=r)).length_le;simp only [List.length_cons];omega
 ·split at h
  ·simp only at h
   split at h
   ·cases h
   ·simp only [Option.some.injEq,Prod.mk.injEq] at h
    obtain ⟨rfl,rfl,rfl,rfl⟩:=h;refine ⟨by simp [drop_while],by simp,?_,by decide⟩;have:=(List.takeWhile_sublist isD (l:=r)).length_le;simp only [List.length_cons];omega
  ·split at h
   ·simp only at h
    split at h
    ·cases h
    ·rename_i d t' hdw
     split at h
     ·simp only [Option.some.injEq,Prod.mk.injEq] at h
      obtain ⟨rfl,rfl,rfl,rfl⟩:=h;have h1:=drop_while isA r;rw [hdw] at h1;have h2:(r.takeWhile isA).length+1<=r.length:=by
       have:=congrArg List.length h1;rw [List.length_drop] at this;simp only [List.length_cons] at this;omega
      refine ⟨?_,by omega,by omega,by decide⟩;rw [List.drop_succ_cons,<- List.drop_drop,h1];rfl
     ·cases h
   ·split at h
    ·simp only [Option.some.injEq,Prod.mk.injEq] at h
     obtain ⟨rfl,rfl,rfl,rfl⟩:=h;exact ⟨rfl,by omega,by omega,by decide⟩
    ·split at h
     ·simp only [Option.some.injEq,Prod.mk.injEq] at h
      obtain ⟨rfl,rfl,rfl,rfl⟩:=h;exact ⟨rfl,by omega,by omega,by decide⟩
     ·cases h
theorem scanIn (n l Bn:Nat) (hn:1<=n) (s:ByteArray) (hs:s.size<=1000) (J:List Tk -> Nat -> World -> Prop) (Jx:List Tk -> World -> Prop) (hJ:∀ p M A B,J p M A -> A.grownBy B none -> J p M B)
  (hY:∀ pre x M W,J pre M W -> M<=W.heap.size -> pre.length < (scan (s.size+1) s.data.toList 0 none).length -> YieldAt Fence.wide (n - 1) Tryz.prog l #[tokV x] W fun e W'=>
   (e=.returned (.bool true)/\(∃ M',M'<=W'.heap.size/\J (pre++[x]) M' W')/\(W.heap.size<=W'.heap.size/\∀ k,k=Bn -> W'.heap[k]?=W.heap[k]?)/\∀ k,M<=k -> k < W.heap.size -> W'.heap[k]?=W.heap[k]?) \/ (e=.returned (.bool false)/\Jx (pre++[x]) W'))
  (W:World) (hc:W.cell? ⟨Bn,0,none⟩=some (.string s)) (h0:J [] W.heap.size W):
  CallsIn Fence.wide n Tryz.prog 559 #[.func (.yield l) #[] #[],.pointer (some ⟨Bn,0,none⟩)] W fun e W'=>(∃ v,e=.returned v) ∧
   ((∃ ys M,ys=scan (s.size+1) s.data.toList 0 none/\J ys M W') \/ (∃ pre,pre <+:scan (s.size+1) s.data.toList 0 none/\Jx pre W')):=by
 refine callsIn_wide.2 ?_;go_enter Tryz.func559,Tryz.ntmps559;obtain ⟨SC,hSC⟩:∃ SC,SC=scan (s.size+1) s.data.toList 0 none:=⟨_,rfl⟩;rw [<- hSC] at hY ⊢;replace hY:=hid hY;replace hJ:=hid hJ
 go_step3
 go_wp2_with fail
 go_step3
 go_wp2_with fail
 go_loopg [3,4] (s.size) (fun g a t wr=>∃ (pre:List Tk) (M f off:Nat) (tg:Option Nat),off+g=s.size/\a=.int .i64 off/\t=tagV tg/\(∀ t,tg=some t -> t<=off)/\SC=pre++scan f (s.data.toList.drop off) off tg/\s.size < f+off/\J pre M wr/\M<=wr.heap.size ∧
   wr.cell? ⟨Bn,0,none⟩=some (.string s)/\W.heap.size<=wr.heap.size)
 case atStart=>
  refine ⟨[],W.heap.size,s.size+1,0,none,?_⟩;refine ⟨by simp,by first | rfl | trivial,?_⟩;exact ⟨rfl,fun t h=>(by cases h),(by rw [hSC];rfl),by omega,h0,Nat.le_refl _,hc,Nat.le_refl _⟩
 case round=>
  clear h0 hc hSC;obtain ⟨pre,M,f,off,tg,hg,rfl,rfl,htg,hsc,hf,hJp,hMs,hcell,hsz⟩:=hrel;have hos:off<=s.size:=by omega
  obtain ⟨f,rfl⟩:∃ f',f=f'+1:=⟨f - 1,by omega⟩;replace hg:=hid hg;replace htg:=hid htg;replace hsc:=hid hsc;replace hJp:=hid hJp;have hBlt:=World.block_lt_of_cell? wr ⟨Bn,0,none⟩ hcell;have hTc:=heap_alloc_new wr (.cells #[.int .i64 0,.string ⟨#[]⟩,.int .i64 0] 669);have hxT:=Mod.alloc (Mod.refl (fun _=>False) wr) (.cells #[.int .i64 0,.string ⟨#[]⟩,.int .i64 0] 669);have hcT:=hxT.cell hcell (fun h=>h)
  go_upto_block 2 with fail
  obtain ⟨T,hT⟩:∃ T,T=wr.heap.size:=⟨_,rfl⟩;have hW1:(wr.alloc (.cells #[.int .i64 0,.string ⟨#[]⟩,.int .i64 0] 669)).heap[T]?=some (.cells #[.int .i64 0,.string ⟨#[]⟩,.int .i64 0] 669 (0,0)):=by rw [hT];exact hTc
  rw [<- hT];generalize (wr.alloc (.cells #[.int .i64 0,.string ⟨#[]⟩,.int .i64 0] 669))=w1 at hW1 hxT hcT ⊢;have hTlt:¬ T < wr.heap.size:=by omega
  replace hT:=hid hT
  go_cut [3,4,6] (fun sa st se wx=>sa=.int .i64 off/\∃ (x:Tk) (e:Nat) (tg2:Option Nat) (rest:List Tk),st=tagV tg2/\wx.heap[T]?=some (.cells #[.int .i64 x.kind,.string ⟨x.text.toArray⟩,.int .i64 x.off] 669 (0,0))/\Ext wr wx ∧
   SC=pre++x::rest/\(x.kind=0 -> rest=[])/\(x.kind ≠ 0 -> se=.int .i64 e/\off < e/\e<=s.size/\s.size < f+e/\(∀ t,tg2=some t -> t<=e)/\rest=scan f (s.data.toList.drop e) e (if x.kind=7 then none else tg2)))
  case first=>
   have fz:=free_of' hW1;have q0:w1.cell? ⟨T,0,none⟩=some (.int .i64 0):=cell_of' hW1 0;have q1:w1.cell? ⟨T,1,none⟩=some (.string ⟨#[]⟩):=cell_of' hW1 1;have q2:w1.cell? ⟨T,2,none⟩=some (.int .i64 0):=cell_of' hW1 2;replace hxT:=hid hxT;replace hW1:=hid hW1;clear hTc;have hw1:IntKind.i64.wrap ((off:Int)+1)=((off+1:Nat):Int):=by rw [Go.IntWalk.i64_in _ (by omega)];omega
   cases tg with
   | none=>
    simp only [tagV]
    by_cases hlt:off < s.size
    ·have hd:=drop_at s hlt
     have hop:=hid (opens_any s off hlt hs w1);have hoffI:((off:Int)==(s.size:Int))=false:=by rw [beq_eq_false_iff_ne];omega
     cases hb:opensB (s.data.toList.drop off) with
     | true=>
      rw [hb] at hop;rw [hd] at hb;have hsc':=hsc.out;rw [hd,scan_open hb] at hsc';have h123:s[off]=123:=by
       apply UInt8.toNat_inj.1;cases hr:s.data.toList.drop (off+1) with
       | nil=>rw [hr] at hb;simpa [opensB] using hb
       | cons d r=>rw [hr] at hb;simp only [opensB,Bool.and_eq_true,decide_eq_true_eq] at hb;exact hb.1
      rw [h123] at hsc';replace hsc':=hid hsc';clear hb h123 hd;go_wp2_with fail
      refine hop.out.mono ?_;rintro e' w' ⟨rfl,rfl⟩;go_wp2_with fail
      go_meet
      refine ⟨rfl,⟨6,[123],off⟩,off+1,some off,scan f (s.data.toList.drop (off+1)) (off+1) (some off),rfl,setCell3 hW1.out,((((hxT.out.setCell (fun h=>absurd h hTlt) _).setCell (fun h=>absurd h hTlt) _).setCell (fun h=>absurd h hTlt) _)),hsc'.out,fun h=>(by cases h),fun _=>⟨by go_num,by omega,by omega,by omega,fun t h=>(by cases h;omega),rfl⟩⟩
     | false=>
      rw [hb] at hop;rw [hd] at hb;have hsc':=hsc.out;rw [hd,scan_lit hb] at hsc';have hlc:=hid (literal_any s off hlt hs (by rw [hd];exact hb) w1);have hlen:=lit_len _ (s[off]::s.data.toList.drop (off+1)) (Nat.le_refl _);have hrest:=lit_rest _ (s[off]::s.data.toList.drop (off+1)) (Nat.le_refl _);have hpos:=lit_pos hb;rw [<- hd] at hsc' hlen hrest hpos;have hlR:=hid (show litR (s.data.toList.drop off) off=if (lit (s.data.toList.drop off)).2.2.2 then (⟨1,(lit (s.data.toList.drop off)).1,off⟩,((off+(lit (s.data.toList.drop off)).2.1:Nat):Int)) else (⟨0,[],off+(lit (s.data.toList.drop off)).2.1⟩,0) from rfl);generalize litR (s.data.toList.drop off) off=res at hlR hlc;rw [List.length_drop,show s.data.toList.length=s.size from rfl] at hlen;obtain ⟨y,hy⟩:∃ y,y=lit (s.data.toList.drop off):=⟨_,rfl⟩;rw [<- hy] at hsc' hlen hrest hpos hlR;rw [hrest,List.drop_drop] at hsc';have hle2:=hlen.1;replace hsc':=hid hsc';replace hy:=hid hy;replace hrest:=hid hrest;replace hpos:=hid hpos;clear hb hd hlen;unfold tokV at hlc;go_wp2_with fail
      refine hop.out.mono ?_;rintro e' w' ⟨rfl,rfl⟩;go_wp2_with fail
      refine hlc.out.mono ?_;rintro e' w2 ⟨rfl,hx2⟩;have p0:=hx2.cell q0 (fun h=>h);have p1:=hx2.cell q1 (fun h=>h);have p2:=hx2.cell q2 (fun h=>h);have hW2:=hx2.at hW1.out (fun h=>h);have fz2:=free_of' hW2;have hx2:=hxT.out.trans hx2;replace hx2:=hid hx2;replace hW2:=hid hW2;clear q0 q1 q2 fz;go_wp2_with fail
      go_meet
      have hlr:=hlR.out;have hscc:=hsc'.out;cases hok:y.2.2.2 with
      | true=>
       rw [hok] at hlr hscc;simp only [if_true] at hlr hscc;have h1:=hpos.out hok;rw [hlr];have hle3:y.2.1+off<=s.size:=by
        have:=List.length_drop (l:=s.data.toList) (i:=off);omega
       exact ⟨rfl,⟨1,y.1,off⟩,off+y.2.1,none,scan f (s.data.toList.drop (off+y.2.1)) (off+y.2.1) none,rfl,setCell3 hW2.out,((((hx2.out.setCell (fun h=>absurd h hTlt) _).setCell (fun h=>absurd h hTlt) _).setCell (fun h=>absurd h hTlt) _)),hscc,fun h=>(by cases h),fun _=>⟨rfl,by omega,by omega,by omega,fun t h=>(by cases h),rfl⟩⟩
      | false=>
       rw [hok] at hlr hscc;simp only [Bool.false_eq_true,if_false] at hlr hscc;rw [hlr];exact ⟨rfl,⟨0,[],off+y.2.1⟩,0,none,[],rfl,setCell3 hW2.out,((((hx2.out.setCell (fun h=>absurd h hTlt) _).setCell (fun h=>absurd h hTlt) _).setCell (fun h=>absurd h hTlt) _)),hscc,fun _=>rfl,fun h=>absurd rfl h⟩
    ·obtain rfl:off=s.size:=by omega
     have hd:s.data.toList.drop s.size=[]:=List.drop_eq_nil_of_le (Nat.le_refl _);have hsc':SC=pre:=by have h0:=hsc.out;rw [hd] at h0;rw [h0];simp [scan]
     have hJ1:=hid (hJ.out pre M wr w1 hJp.out (Ext.grown hxT.out));replace hsc':=hid hsc';clear hd;go_wp2_with fail
     refine bodyPost_ret (results_none rfl _ _ _) rfl ?_;refine ⟨⟨_,rfl⟩,.inl ?_⟩
     first
      | exact ⟨pre,M,hsc'.out.symm,hJ1.out⟩
      | exact ⟨M,by rw [hsc'.out];exact hJ1.out⟩
   | some tag=>
    simp only [tagV];have htl:=htg.out tag rfl;have htI:((tag:Int)==-1)=false:=by rw [beq_eq_false_iff_ne];omega
    by_cases hlt:off < s.size
    ·have hoffI:((off:Int)==(s.size:Int))=false:=by rw [beq_eq_false_iff_ne];omega
     have hd:=drop_at s hlt;have hsc':=hsc.out;rw [hd] at hsc';cases h32:(((s[off]).toNat:Int)==32) with
     | true=>
      have h':(s[off]).toNat=32:=by have:((s[off]).toNat:Int)=32:=(by simpa using h32);omega
      simp only [scan,h',true_or,if_true] at hsc';replace hsc':=hid hsc';clear h' hd;go_wp2_with fail
      go_roundg (gk - 1)
      case measure=>have:=hg.out;omega
      case rel=>exact ⟨pre,M,f,off+1,some tag,by have:=hg.out;omega,by go_num,rfl,fun t h=>(by cases h;omega),hsc'.out,by omega,hJ.out pre M wr w1 hJp.out (Ext.grown hxT.out),by have:=hxT.out.size;omega,hcT,by have:=hxT.out.size;omega⟩
     | false=>
      have hn32:¬ (s[off]).toNat=32:=by have:¬ ((s[off]).toNat:Int)=32:=(by simpa using h32);omega
      cases h10:(((s[off]).toNat:Int)==10) with
      | true=>
       have h':(s[off]).toNat=10:=by have:((s[off]).toNat:Int)=10:=(by simpa using h10);omega
       simp only [scan,h',or_true,if_true] at hsc';replace hsc':=hid hsc';clear h' hd hn32;go_wp2_with fail
       go_roundg (gk - 1)
       case measure=>have:=hg.out;omega
       case rel=>exact ⟨pre,M,f,off+1,some tag,by have:=hg.out;omega,by go_num,rfl,fun t h=>(by cases h;omega),hsc'.out,by omega,hJ.out pre M wr w1 hJp.out (Ext.grown hxT.out),by have:=hxT.out.size;omega,hcT,by have:=hxT.out.size;omega⟩
      | false=>
       have hn10:¬ (s[off]).toNat=10:=by have:¬ ((s[off]).toNat:Int)=10:=(by simpa using h10);omega
       simp only [scan,hn32,hn10,or_false,if_false] at hsc';have hpc:=hid (part_any s off hlt hs w1);have hpR:=hid (show partR (s.data.toList.drop off) off=(match Tpl.part s[off] (s.data.toList.drop (off+1)) with | none=>(⟨0,[],off⟩,0) | some x=>(⟨x.1,x.2.1,off⟩,((off+x.2.2.1:Nat):Int))) by rw [hd];rfl);generalize partR (s.data.toList.drop off) off=res at hpR hpc;have hpr:=fun k w n t=>part_rest (c:=s[off]) (r:=s.data.toList.drop (off+1)) (k:=k) (w:=w) (n:=n) (t:=t)
       rw [<- hd] at hpr;replace hsc':=hid hsc';replace hpr:=hid hpr;have hll:=List.length_drop (l:=s.data.toList) (i:=off+1);rw [show s.data.toList.length=s.size from rfl] at hll;replace hll:=hid hll;clear hn32 hn10 hd;unfold tokV at hpc;go_wp2_with fail
       refine hpc.out.mono ?_;rintro e' w2 ⟨rfl,hx2⟩;have p0:=hx2.cell q0 (fun h=>h);have p1:=hx2.cell q1 (fun h=>h);have p2:=hx2.cell q2 (fun h=>h);have hW2:=hx2.at hW1.out (fun h=>h);have fz2:=free_of' hW2;have hx2:=hxT.out.trans hx2;replace hx2:=hid hx2;replace hW2:=hid hW2;clear q0 q1 q2 fz;go_wp2_with fail
       go_meet
       have hlr:=hpR.out;have hscc:=hsc'.out;cases hp:Tpl.part s[off] (s.data.toList.drop (off+1)) with
       | none=>
        rw [hp] at hlr hscc;simp only at hlr hscc;rw [hlr];exact ⟨rfl,⟨0,[],off⟩,0,some tag,[],rfl,setCell3 hW2.out,(((hx2.out.setCell (fun h=>absurd h hTlt) _).setCell (fun h=>absurd h hTlt) _).setCell (fun h=>absurd h hTlt) _),hscc,fun _=>rfl,fun h=>absurd rfl h⟩
       | some x=>
        obtain ⟨xk,xw,xn,xt⟩:=x;rw [hp] at hlr hscc;simp only at hlr hscc;rw [hlr];obtain ⟨h1,h2,h3,h4⟩:=hpr.out xk xw xn xt hp;rw [h1,List.drop_drop] at hscc;have hlx:=hll.out;exact ⟨rfl,⟨xk,xw,off⟩,off+xn,some tag,scan f (s.data.toList.drop (off+xn)) (off+xn) (if xk=7 then none else some tag),rfl,setCell3 hW2.out,(((hx2.out.setCell (fun h=>absurd h hTlt) _).setCell (fun h=>absurd h hTlt) _).setCell (fun h=>absurd h hTlt) _),hscc,fun h=>absurd h h4,fun _=>⟨rfl,by omega,by omega,by omega,fun t h=>(by cases h;omega),rfl⟩⟩
    ·obtain rfl:off=s.size:=by omega
     have hd:s.data.toList.drop s.size=[]:=List.drop_eq_nil_of_le (Nat.le_refl _);have hsc':=hsc.out;rw [hd] at hsc';simp only [scan] at hsc';replace hsc':=hid hsc';clear hd;go_wp2_with fail
     go_meet
     exact ⟨rfl,⟨0,[],tag⟩,0,some tag,[],rfl,setCell3 hW1.out,(((hxT.out.setCell (fun h=>absurd h hTlt) _).setCell (fun h=>absurd h hTlt) _).setCell (fun h=>absurd h hTlt) _),hsc'.out,fun _=>rfl,fun h=>absurd rfl h⟩
  case rest=>
   obtain ⟨rfl,x,e,tg2,rest,rfl,hTx,hxx,hscx,hz,hnz⟩:=hcut;have t0:wc.cell? ⟨T,0,none⟩=some (.int .i64 x.kind):=cell_of' hTx 0;have t1:wc.cell? ⟨T,1,none⟩=some (.string ⟨x.text.toArray⟩):=cell_of' hTx 1;have t2:wc.cell? ⟨T,2,none⟩=some (.int .i64 x.off):=cell_of' hTx 2;have hJx:=hJ.out pre M wr wc hJp.out (Ext.grown hxx);have hMc:M<=wc.heap.size:=by have:=hxx.size;omega
   have hy:=hY.out pre x M wc hJx hMc (by rw [hscx];simp);have hcx:=hxx.cell hcell (fun h=>h);have hpre:pre++[x] <+:SC:=⟨rest,by rw [hscx];simp⟩;have hszx:W.heap.size<=wc.heap.size:=by have:=hxx.size;omega
   have hMT:M<=T:=by rw [hT.out];exact hMs
   have hTlt2:T < wc.heap.size:=lt_of_at hTx;obtain ⟨yfn,ytmps,yassign,ybody,hyr,hyR⟩:=hy;unfold tokV at hyr;replace hyR:=hid hyR;replace hTx:=hid hTx;replace hxx:=hid hxx;replace hscx:=hid hscx;replace hz:=hid hz;replace hnz:=hid hnz;replace hpre:=hid hpre;clear hJx
   by_cases hxk:x.kind=0
   ·have hk0:((x.kind:Int)==0)=true:=by rw [hxk];rfl
    have hk7:((x.kind:Int)==7)=false:=by rw [hxk];rfl
    have hrest:=hz.out hxk;have hfull:pre++[x]=SC:=by rw [hscx.out,hrest]
    replace hfull:=hid hfull;replace hxk:=hid hxk;clear hrest;go_upto_region 15 with fail
    refine (wpIn_wide (n:=n)).1 ?_
    gi_wp2
    refine hyR.out.mono ?_;rintro e' W3 (⟨rfl,⟨M',hM',hJ3⟩,hB3,hK3⟩ | ⟨rfl,hJx3⟩)
    ·have hT3:W3.heap[T]?=_:=(hK3 T hMT hTlt2).trans hTx.out
     have r0:W3.cell? ⟨T,0,none⟩=some (.int .i64 x.kind):=cell_of' hT3 0;replace hJ3:=hid hJ3;clear hK3 hB3
     gi_wp2
     go_wp2_with fail
     simp only [Exit.noGoto_normal]
     go_end0
     refine ⟨⟨_,rfl⟩,.inl ?_⟩
     first
      | exact ⟨pre++[x],M',hfull.out,hJ3.out⟩
      | exact ⟨M',by rw [<- hfull.out];exact hJ3.out⟩
    ·replace hJx3:=hid hJx3
     gi_wp2
     go_wp2_with fail
     simp only [Exit.noGoto_normal]
     go_end0
     exact ⟨⟨_,rfl⟩,.inr ⟨pre++[x],hpre.out,hJx3.out⟩⟩
   ·cases hk7:((x.kind:Int)==7) with
    | true=>
     have hk7':x.kind=7:=by have:(x.kind:Int)=7:=(by simpa using hk7);omega
     replace hk7':=hid hk7';have hxkN:¬ x.kind=0:=hxk;obtain ⟨rfl,he1,he2,he3,he4,he5⟩:=hnz.out hxkN;have hk0:((x.kind:Int)==0)=false:=by rw [beq_eq_false_iff_ne];omega
     replace he5:=hid he5;replace he4:=hid he4;go_upto_region 15 with fail
     refine (wpIn_wide (n:=n)).1 ?_
     gi_wp2
     refine hyR.out.mono ?_;rintro e' W3 (⟨rfl,⟨M',hM',hJ3⟩,hB3,hK3⟩ | ⟨rfl,hJx3⟩)
     ·have hT3:W3.heap[T]?=_:=(hK3 T hMT hTlt2).trans hTx.out
      have r0:W3.cell? ⟨T,0,none⟩=some (.int .i64 x.kind):=cell_of' hT3 0;have hc3:W3.cell? ⟨Bn,0,none⟩=some (.string s):=by rw [World.cell?_of_block (hB3.2 Bn rfl)];exact hcx
      have hs3:W.heap.size<=W3.heap.size:=by have:=hB3.1;omega
      replace hJ3:=hid hJ3;clear hK3 hB3
      gi_wp2
      go_wp2_with fail
      go_roundg (s.size - e)
      case measure=>have:=hg.out;omega
      case rel=>exact ⟨pre++[x],M',f,e,none,by omega,rfl,rfl,fun t h=>(by cases h),by rw [hscx.out,he5.out];simp [hk7'.out],by omega,hJ3.out,hM',hc3,hs3⟩
     ·replace hJx3:=hid hJx3
      gi_wp2
      go_wp2_with fail
      simp only [Exit.noGoto_normal]
      go_end0
      exact ⟨⟨_,rfl⟩,.inr ⟨pre++[x],hpre.out,hJx3.out⟩⟩
    | false=>
     have hk7':¬ x.kind=7:=by have:¬ (x.kind:Int)=7:=(by simpa using hk7);omega
     replace hk7':=hid hk7';have hxkN:¬ x.kind=0:=hxk;obtain ⟨rfl,he1,he2,he3,he4,he5⟩:=hnz.out hxkN;have hk0:((x.kind:Int)==0)=false:=by rw [beq_eq_false_iff_ne];omega
     replace he5:=hid he5;replace he4:=hid he4;go_upto_region 15 with fail
     refine (wpIn_wide (n:=n)).1 ?_
     gi_wp2
     refine hyR.out.mono ?_;rintro e' W3 (⟨rfl,⟨M',hM',hJ3⟩,hB3,hK3⟩ | ⟨rfl,hJx3⟩)
     ·have hT3:W3.heap[T]?=_:=(hK3 T hMT hTlt2).trans hTx.out
      have r0:W3.cell? ⟨T,0,none⟩=some (.int .i64 x.kind):=cell_of' hT3 0;have hc3:W3.cell? ⟨Bn,0,none⟩=some (.string s):=by rw [World.cell?_of_block (hB3.2 Bn rfl)];exact hcx
      have hs3:W.heap.size<=W3.heap.size:=by have:=hB3.1;omega
      replace hJ3:=hid hJ3;clear hK3 hB3
      gi_wp2
      go_wp2_with fail
      go_roundg (s.size - e)
      case measure=>have:=hg.out;omega
      case rel=>exact ⟨pre++[x],M',f,e,tg2,by omega,rfl,rfl,he4.out,by rw [hscx.out,he5.out];simp [hk7'.out],by omega,hJ3.out,hM',hc3,hs3⟩
     ·replace hJx3:=hid hJx3
      gi_wp2
      go_wp2_with fail
      simp only [Exit.noGoto_normal]
      go_end0
      exact ⟨⟨_,rfl⟩,.inr ⟨pre++[x],hpre.out,hJx3.out⟩⟩
end Go.Proofs.YtcopgcdhkgenkaaGreatDoor.Ps
namespace Cdk
open Go Go.RowKit
def SeqT {α:Type} (F:Fence) (n:Nat) (P:Program) (g:Nat) (lb:Array Value) (encs:α -> Array Value) (Kb:Nat -> Prop) (S Sp:List α -> Prop) (N:Nat) (w:World):Prop:=
 ∀ (l:Nat) (J:List α -> Nat -> World -> Prop) (Jx:List α -> World -> Prop) (W:World),Below w.heap.size w W -> (∀ p M A B,J p M A -> A.grownBy B none -> J p M B) →
  (∀ pre x M W1,J pre M W1 -> M<=W1.heap.size -> pre.length < N -> YieldAt F (n - 1) P l (encs x) W1 fun e W'=>
   (e=.returned (.bool true)/\(∃ M',M'<=W'.heap.size/\J (pre++[x]) M' W')/\(W1.heap.size<=W'.heap.size/\∀ k,Kb k -> W'.heap[k]?=W1.heap[k]?)/\∀ k,M<=k -> k < W1.heap.size -> W'.heap[k]?=W1.heap[k]?) \/ (e=.returned (.bool false)/\Jx (pre++[x]) W')) →
  J [] W.heap.size W →
  CallsIn F n P g (#[.func (.yield l) #[] #[]]++lb) W fun e W'=>(∃ v,e=.returned v)/\((∃ xs M,S xs/\J xs M W') \/ (∃ pre,Sp pre/\Jx pre W'))
def postT {α:Type} (Kb:Nat -> Prop) (M B:Nat) (I:List α -> Nat -> World -> Prop) (Ix:Code -> List α -> World -> Prop) (xs:List α) (W:World):Exit -> Act -> World -> Prop
 | .normal,_,W'=>KeepsOthers W W'/\(∀ k,Kb k -> W'.heap[k]?=W.heap[k]?)/\(∀ k,M<=k -> k < B -> W'.heap[k]?=W.heap[k]?)/\I xs W'.heap.size W'
 | .ret,_,W'=>KeepsOthers W W'/\Ix .ret xs W'
 | .exit id,_,W'=>KeepsOthers W W'/\Ix (.exit id) xs W'
 | .goto t,_,W'=>KeepsOthers W W'/\Ix (.goto t) xs W'
 | .panic _,_,_=>False
 | .outgrown,_,_=>False
variable {F:Fence} {n:Nat} {P:Program}
theorem wpIn_rangeFunc_T {α:Type} {g:Operand} {ps:Array Tmp} {assign body:Code} {Q:Exit -> Act -> World -> Prop} {a:Act} {w:World}
  (hro:F.round=none) (h1:1<=n) {gf:Nat} {lb:Array Value} (hg:a.eval g=.func (.func gf) #[] lb) (hFg:F.fn gf) (eg:∀ args w,(callFunc gf args).run P w=.ok (.enter gf args) w)
  {encs:α -> Array Value} {Kb:Nat -> Prop} {S Sp:List α -> Prop} {N:Nat} {w0:World} (hseq:SeqT F (n - 1) P gf lb encs Kb S Sp N w0) (hKb:∀ k,Kb k -> k < w.heap.size) (hb0:Below w0.heap.size w0 w) (hps:∀ x,(encs x).size=ps.size)
  (I:List α -> Nat -> World -> Prop) (Ix:Code -> List α -> World -> Prop) (hI:∀ M,OwnFrom w.heap.size (fun p W=>I p M W)) (hIx:∀ c,OwnFrom w.heap.size (Ix c)) (h0:I [] (w.heap.size+2) w)
  (bx:α -> Array Value) (bt:TypeId) (a₁:α -> Nat -> Act)
  (hassign:∀ (l:Nat) (x:α) (W:World) (K:Act -> World -> Prop),K (a₁ x W.heap.size) (W.alloc (.cells (bx x) bt)) →
   assign.wpIn (F.inRound l) (n - 1 - 1) P (Exit.then K (fun _ _ _=>False)) { tmps:=(ps.zip (encs x)).foldl (fun t (p,v)=>t.setIfInBounds p v) a.tmps,defers:=[] } W)
  (hbody:∀ (l:Nat) (pre:List α) (x:α) (M B:Nat) (W:World),I pre M W -> M<=B -> w.heap.size+2<=M -> B < W.heap.size -> W.heap[B]?=some (.cells (bx x) bt (0,0)) -> pre.length < N →
   body.wpIn (F.inRound l) (n - 1 - 1) P (postT Kb M B I Ix (pre++[x]) W) (a₁ x B) W)
  (hdone:∀ (D:Nat) (xs:List α) (M:Nat) (W:World),w.heap.size<=D -> S xs -> I xs M W -> W.heap[D]?=some (.deferred (some [])) -> Q .normal { a with defers:={ target:=.collected D,args:=#[] }::a.defers } W)
  (hstop:∀ (D:Nat) (c:Code) (pre:List α) (W:World),w.heap.size<=D -> Sp pre -> Ix c pre W -> W.heap[D]?=some (.deferred (some [])) -> c.wpIn F n P Q { a with defers:={ target:=.collected D,args:=#[] }::a.defers } W):
  (Code.rangeFunc g ps assign body).wpIn F n P Q a w:=by
 refine wpIn_rangeFunc ?_;intro fn hfn;rw [hro];obtain ⟨rec,hrec⟩:∃ rec:LoopState -> Option Code -> Loop,rec=fun st pe=>{ state:=st,pending:=pe,fn,tmps:=a.tmps,params:=ps,assign,body,defers:=w.heap.size }:=⟨_,rfl⟩
 obtain ⟨W1,hW1⟩:∃ W1,(w.alloc (.deferred (some []))).alloc (.loop (rec .ready none))=W1:=⟨_,rfl⟩;have hsz1:W1.heap.size=w.heap.size+2:=by rw [<- hW1];simp
 have hL1:W1.heap[w.heap.size+1]?=some (.loop (rec .ready none)):=by
  rw [<- hW1];have:=World.alloc_heap_new (w.alloc (.deferred (some []))) (.loop (rec .ready none));rwa [World.size_alloc] at this
 have hK1:W1.heap[w.heap.size]?=some (.deferred (some [])):=by
  rw [<- hW1];exact (Below.heap_alloc _ _ _ (by simp)).trans (World.alloc_heap_new w _)
 have hI1:I [] W1.heap.size W1:=by rw [hsz1,<- hW1];exact (hI _).alloc (s:=[]) _ ((hI _).alloc (s:=[]) _ h0)
 have hb1:Below w0.heap.size w0 W1:=by
  rw [<- hW1];exact hb0.trans ((((Below.refl _ w).alloc (Nat.le_refl _) _).alloc (by simp) _).mono hb0.size)
 refine ⟨w.heap.size+1,[{ target:=.collected w.heap.size,args:=#[] }],W1,{ target:=.fn (.func gf) lb,args:=#[.func (.yield (w.heap.size+1)) #[] #[]] },W1,gf,
  #[.func (.yield (w.heap.size+1)) #[] #[]]++lb,W1,?_,?_,?_,?_,fun _=>h1,?_⟩
 ·rw [<- hW1,hrec];exact run_enterLoop_outer _ _ _ _ _
 ·simp only [resolve,hg]
  simp [go_sem]
 ·intro f' hf';simp [Target.leads] at hf';subst hf';exact hFg
 ·simp [invoke,go_sem,eg]
 ·have hkeep:∀ {A B:World} {o:Obj} {k:Nat},A.grownBy B none -> A.heap[k]?=some o -> B.heap[k]?=some o:=fun hg' hk=>
   (hg'.block _ (Array.getElem?_eq_some_iff.1 hk).1 (by simp)).trans hk
  refine (hseq (w.heap.size+1)
   (fun pre M W=>w.heap.size+2<=M/\I pre M W/\W.heap[w.heap.size+1]?=some (.loop (rec .ready none))/\W.heap[w.heap.size]?=some (.deferred (some [])))
   (fun pre W=>∃ c,Ix c pre W/\W.heap[w.heap.size+1]?=some (.loop (rec .done (some c)))/\W.heap[w.heap.size]?=some (.deferred (some [])))
   W1 hb1
   (fun s M A B hs hg'=>⟨hs.1,hI M s A B none hs.2.1 hg' (fun r e=>by cases e),hkeep hg' hs.2.2.1,hkeep hg' hs.2.2.2⟩)
   ?_ ⟨by omega,hI1,hL1,hK1⟩).mono ?_
  ·
   rintro pre x M W ⟨hM2,hi,hl,hk⟩ hMW hlen;have hlt:w.heap.size+1 < W.heap.size:=(Array.getElem?_eq_some_iff.1 hl).1;have hy:=run_yield (P:=P) (args:=encs x) hl (by rw [hrec];exact hps x);rw [hrec] at hy;obtain ⟨Wa,hWa⟩:∃ Wa,W.alloc (.cells (bx x) bt)=Wa:=⟨_,rfl⟩;have hga:W.grownBy Wa none:=by rw [<- hWa];exact World.grownBy_alloc W _ none
   have hsa:Wa.heap.size=W.heap.size+1:=by rw [<- hWa];simp
   have hba:Wa.heap[W.heap.size]?=some (.cells (bx x) bt (0,0)):=by rw [<- hWa];exact World.alloc_heap_new W _
   have hla:Wa.heap[w.heap.size+1]?=some (.loop (rec .ready none)):=hkeep hga hl;have hka:Wa.heap[w.heap.size]?=some (.deferred (some [])):=hkeep hga hk;have hia:I pre M Wa:=hI M pre W Wa none hi hga (fun r e=>by cases e);refine ⟨fn,_,assign,body,hy,roundIn_of_wpIn hfn (hassign _ x W _ ?_)⟩;rw [hWa];refine ⟨_,run_beginRound hla (by rw [hrec]),?_⟩;obtain ⟨W2,hW2⟩:∃ W2,Wa.putObj (w.heap.size+1) (.loop { rec .ready none with state:=.busy })=W2:=⟨_,rfl⟩;have hlta:w.heap.size+1 < Wa.heap.size:=by omega
   have hl2:W2.heap[w.heap.size+1]?=some (.loop { rec .ready none with state:=.busy }):=by rw [<- hW2];exact World.putObj_heap_same hlta
   have ho2:∀ k,k ≠ w.heap.size+1 -> W2.heap[k]?=Wa.heap[k]?:=fun k hk=>by rw [<- hW2];exact World.putObj_heap_other (by omega)
   have hk2:W2.heap[w.heap.size]?=some (.deferred (some [])):=(ho2 _ (by omega)).trans hka;have hs2:W2.heap.size=Wa.heap.size:=by rw [<- hW2];simp
   have hi2:I pre M W2:=by rw [<- hW2];exact (hI M).putObj (s:=pre) _ hia (by omega) hla rfl
   have hbox2:W2.heap[W.heap.size]?=some (.cells (bx x) bt (0,0)):=(ho2 _ (by omega)).trans hba;have hgoal:=hbody (w.heap.size+1) pre x M W.heap.size W2 hi2 hMW hM2 (by omega) hbox2 hlen;rw [hW2];refine wpIn_mono hgoal ?_;have fin:∀ (jump:Option Code) (W3:World),KeepsOthers W2 W3 →
     (Instr.endRound (w.heap.size+1) jump).run P W3=.ok (.bool jump.isNone) (W3.putObj (w.heap.size+1) (.loop (rec (if jump.isNone then .ready else .done) jump))) ∧
     W3.heap[w.heap.size+1]?=some (.loop { rec .ready none with state:=.busy }) ∧
     (W3.putObj (w.heap.size+1) (.loop (rec (if jump.isNone then .ready else .done) jump))).heap[w.heap.size+1]?=some (.loop (rec (if jump.isNone then .ready else .done) jump)) ∧
     (W3.putObj (w.heap.size+1) (.loop (rec (if jump.isNone then .ready else .done) jump))).heap[w.heap.size]?=some (.deferred (some [])):=fun jump W3 hk3=>by
    have hl3:=hk3.same _ _ hl2 rfl;have:=run_endRound (P:=P) jump hl3;rw [hrec] at this ⊢;exact ⟨this,by rw [hrec] at hl3;exact hl3,World.putObj_heap_same (Array.getElem?_eq_some_iff.1 hl3).1,(World.putObj_heap_other (by omega)).trans (hk3.same _ _ hk2 rfl)⟩
   rintro e a3 W3 hp;cases e with
   | normal=>
    obtain ⟨hk3,hb3,hsame,hi3⟩:=hp;obtain ⟨hr,hl3,hl4,hk4⟩:=fin none W3 hk3;refine ⟨_,_,hr,.inl ⟨rfl,⟨W3.heap.size,by simp,by have:=hk3.size;omega,(hI _).putObj (s:=pre++[x]) _ hi3 (by omega) hl3 rfl,hl4,hk4⟩,?_,?_⟩⟩
    ·refine ⟨by have:=hk3.size;simp;omega,fun k hk=>?_⟩
     have hkw:=hKb k hk;have e1:(W3.putObj (w.heap.size+1) (.loop (rec (if (none:Option Code).isNone then .ready else .done) none))).heap[k]?=W3.heap[k]?:=World.putObj_heap_other (by omega);rw [e1,hb3 k hk,ho2 k (by omega),hga.block k (by omega) (by simp)]
    ·intro k hMk hkW
     have e1:(W3.putObj (w.heap.size+1) (.loop (rec (if (none:Option Code).isNone then .ready else .done) none))).heap[k]?=W3.heap[k]?:=World.putObj_heap_other (by omega);rw [e1,hsame k hMk hkW,ho2 k (by omega),hga.block k hkW (by simp)]
   | ret=>
    obtain ⟨hk3,hi3⟩:=hp;obtain ⟨hr,hl3,hl4,hk4⟩:=fin (some .ret) W3 hk3;exact ⟨_,_,hr,.inr ⟨rfl,.ret,(hIx _).putObj _ hi3 (by omega) hl3 rfl,hl4,hk4⟩⟩
   | exit id=>
    obtain ⟨hk3,hi3⟩:=hp;obtain ⟨hr,hl3,hl4,hk4⟩:=fin (some (.exit id)) W3 hk3;exact ⟨_,_,hr,.inr ⟨rfl,.exit id,(hIx _).putObj _ hi3 (by omega) hl3 rfl,hl4,hk4⟩⟩
   | goto t=>
    obtain ⟨hk3,hi3⟩:=hp;obtain ⟨hr,hl3,hl4,hk4⟩:=fin (some (.goto t)) W3 hk3;exact ⟨_,_,hr,.inr ⟨rfl,.goto t,(hIx _).putObj _ hi3 (by omega) hl3 rfl,hl4,hk4⟩⟩
   | panic ch=>exact hp.elim
   | outgrown=>exact hp.elim
  ·rintro e W2 ⟨⟨v,rfl⟩,(⟨xs,M,hS,hM2,hi,hl,hk⟩ | ⟨pre,hSp,c,hi,hl,hk⟩)⟩
   ·exact ⟨none,_,by have:=run_endLoop (P:=P) hl (by rw [hrec];simp);rw [hrec] at this;exact this,hdone _ xs M _ (Nat.le_refl _) hS ((hI M).putObj (s:=xs) _ hi (by omega) hl rfl) ((World.putObj_heap_other (by omega)).trans hk)⟩
   ·exact ⟨some c,_,by have:=run_endLoop (P:=P) hl (by rw [hrec];simp);rw [hrec] at this;exact this,hstop _ c pre _ (Nat.le_refl _) hSp ((hIx c).putObj _ hi (by omega) hl rfl) ((World.putObj_heap_other (by omega)).trans hk)⟩
end Cdk
