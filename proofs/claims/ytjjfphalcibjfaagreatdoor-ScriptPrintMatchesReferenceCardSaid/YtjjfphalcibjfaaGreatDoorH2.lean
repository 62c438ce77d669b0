import Derived.Test.YtjjfphalcibjfaaGreatDoorH1
set_option maxRecDepth 100000
set_option maxHeartbeats 16000000
namespace Go.Proofs.YtjjfphalcibjfaaGreatDoor
open Go.Shelf Go.RowKit Cdk Scr
theorem zeg (ao:Option Addr) (n cap:Nat) (l:Lb) (w:World) (h:zaF (fun k=>k < w.heap.size) w (.slice ao n cap) l.aft) (hv:vLb l=true):
  Calls Tryz.prog 156 #[.agg #[.int .i64 l.til,.slice ao n cap,.int .i64 l.app,.int .i64 l.den]] w fun e w'=>e=.returned (.string ⟨(labelW l).toArray⟩)/\Ext w w':=by
 have hg:=hv;unfold vLb at hg;simp only [Bool.and_eq_true,zaq] at hg;obtain ⟨g1,g2,g3,g4⟩:=hg;have hal:=zgQ g4 (by decide);have ham:=zhk g4;have hwf:¬ (l.til=0/\l.aft=[]/\l.app=0/\l.den=0) -> labelW l=Scr.join 47 [itoa l.til,listW (l.aft.map itoa),itoa l.app,itoa l.den]:=fun hz=>by unfold labelW;rw [if_neg hz]
 have hwz:(l.til=0/\l.aft=[]/\l.app=0/\l.den=0) -> labelW l=[42]:=fun hz=>by unfold labelW;rw [if_pos hz]
 obtain ⟨tz,htz⟩:∃ tz,tz=labelW l:=⟨_,rfl⟩;rw [<- htz] at hwf hwz ⊢;obtain ⟨til,aft,app,den⟩:=l;simp only at g1 g2 g3 hal ham hwf hwz h ⊢;have hn:n=aft.length:=by obtain ⟨_,_,e⟩:=h.slice;injection e
 have hnl:n<=64:=by omega
 obtain ⟨T,hT⟩:∃ T,T=w.heap.size:=⟨_,rfl⟩;have hT0:(w.alloc (.cells #[.int .i64 til,.slice ao n cap,.int .i64 app,.int .i64 den] 26)).heap[T]?=some (.cells #[.int .i64 til,.slice ao n cap,.int .i64 app,.int .i64 den] 26 (0,0)):=by rw [hT];exact heap_alloc_new w _
 have hx:=Mod.alloc (Mod.refl (fun _=>False) w) (.cells #[.int .i64 til,.slice ao n cap,.int .i64 app,.int .i64 den] 26);have d0:=hid (fun W=>zaN til (by omega) (by omega) W);have d2:=hid (fun W=>zaN app (by omega) (by omega) W);have d3:=hid (fun W=>zaN den (by omega) (by omega) W);have dI:∀ W,Ext (w.alloc (.cells #[.int .i64 til,.slice ao n cap,.int .i64 app,.int .i64 den] 26)) W -> Calls Tryz.prog 75 #[.slice ao n cap] W fun e w'=>e=.returned (.string ⟨(listW (aft.map itoa)).toArray⟩)/\Ext W w':=fun W hX=>
  zdE _ aft (fun x hx=>by have:=ham x hx;omega) W (fun k hk=>by have:=(hx.trans hX).size;omega) (h.ext (hx.trans hX)) (by omega)
 have hlI:(listW (aft.map itoa)).length<=1000000:=by
  unfold listW;split
  ·decide
  ·have:=zcB 44 21 (aft.map itoa) (fun x hx=>by obtain ⟨z,-,rfl⟩:=List.mem_map.1 hx;exact zaM z)
   rw [List.length_map] at this;have:aft.length*(21+1)<=64*22:=Nat.mul_le_mul_right _ (by omega);omega
 have hle:∀ x ∈ [itoa til,listW (aft.map itoa),itoa app,itoa den],x.length<=1000000:=fun x hx=>by
  have:=zaM til;have:=zaM app;have:=zaM den;simp only [List.mem_cons,List.not_mem_nil,or_false] at hx;rcases hx with rfl | rfl | rfl | rfl <;> omega
 replace h:=hid h;replace dI:=hid dI;replace hx:=hid hx;replace hn:=hid hn;clear hlI ham hal g4 hv;go_enter Tryz.func156,Tryz.ntmps156;go_upto_region 1 with fail
 rw [<- hT];generalize (w.alloc _)=W at hT0 hx dI ⊢;have p0:W.cell? ⟨T,0,none⟩=some (.int .i64 til):=zaa hT0 0;have p1:W.cell? ⟨T,1,none⟩=some (.slice ao n cap):=zaa hT0 1;have p2:W.cell? ⟨T,2,none⟩=some (.int .i64 app):=zaa hT0 2;have p3:W.cell? ⟨T,3,none⟩=some (.int .i64 den):=zaa hT0 3;clear hT0;replace hT:=hid hT;replace htz:=hid htz
 by_cases z:til=0/\aft=[]/\app=0/\den=0
 ·have hw:=hid (hwz z)
  obtain ⟨rfl,z2,rfl,rfl⟩:=z;have n0:n=0:=by rw [hn.out,z2];rfl
  subst n0;clear z2 hwz hwf d0 d2 d3 dI hle hn;go_wp2_with fail
  go_ret;exact ⟨by rw [hw.out];rfl,hx.out⟩
 ·have hw:=hwf z
  clear hwz hwf;have hcase:(til ≠ 0) \/ (til=0/\n ≠ 0) \/ (til=0/\n=0/\app ≠ 0) \/ (til=0/\n=0/\app=0/\den ≠ 0):=by
   by_cases z0:til=0
   ·by_cases z1:n=0
    ·have:aft=[]:=List.eq_nil_of_length_eq_zero (by have:=hn.out;omega)
     by_cases z2:app=0
     ·exact .inr (.inr (.inr ⟨z0,z1,z2,fun z3=>z ⟨z0,this,z2,z3⟩⟩))
     ·exact .inr (.inr (.inl ⟨z0,z1,z2⟩))
    ·exact .inr (.inl ⟨z0,z1⟩)
   ·exact .inl z0
  clear z hn;have e0:=zam til 0;have e1:((n:Int)==0)=decide (n=0):=by rw [Bool.eq_iff_iff,beq_iff_eq];simp
  have e2:=zam app 0;have e3:=zam den 0;have hcb:(decide (til=0)=false) \/ (decide (til=0)=true/\decide (n=0)=false) \/ (decide (til=0)=true/\decide (n=0)=true/\decide (app=0)=false) \/ (decide (til=0)=true/\decide (n=0)=true/\decide (app=0)=true/\decide (den=0)=false):=by simpa using hcase
  clear hcase;generalize decide (til=0)=b0 at e0 hcb;generalize decide (n=0)=b1 at e1 hcb;generalize decide (app=0)=b2 at e2 hcb;generalize decide (den=0)=b3 at e3 hcb;generalize itoa til=t0 at d0 hle hw;generalize itoa app=t2 at d2 hle hw;generalize itoa den=t3 at d3 hle hw;generalize listW (aft.map itoa)=tI at dI hle hw;replace hw:=hid hw;replace hle:=hid hle;rcases hcb with rfl | ⟨rfl,rfl⟩ | ⟨rfl,rfl,rfl⟩ | ⟨rfl,rfl,rfl,rfl⟩
  all_goals
   go_upto_region 3 with fail
   replace p0:=hid p0;replace p1:=hid p1;replace p2:=hid p2;replace p3:=hid p3;go_upto_region 3 with fail
   try simp only [List.append_eq,List.cons_append,List.nil_append]
   refine zad (fun Wx=>Ext W Wx) [(0,true),(1,true),(3,true),(4,true),(6,true),(7,true),(9,true),(10,true),(2,false),(5,false),(8,false),(11,false),(12,false),(13,false),(14,true)]
    (by as_aux_lemma=>kernel_rfl) (by as_aux_lemma=>kernel_rfl) (by as_aux_lemma=>kernel_rfl) (by decide) (Mod.drew0 (fun _=>False) W) ?_
   simp only [zak,List.map_cons,List.map_nil,List.getD_cons_zero,List.getD_cons_succ];have hy0:=hid (Mod.drew0 (fun _=>False) W)
   iterate 8 (refine zaB (by rfl) ?_ (fun w' hC=>?_) ?_;rotate_left;(have q_p0:=hC.cell p0.out (fun h=>h);have q_p1:=hC.cell p1.out (fun h=>h);have q_p2:=hC.cell p2.out (fun h=>h);have q_p3:=hC.cell p3.out (fun h=>h);go_simp;try with_reducible rfl);try simp only [Act.put,sA,sZ,sS])
   refine zaj (by rfl) (fun K hK=>?_);go_simp;refine (d0.out _).mono ?_;rintro e w1 ⟨rfl,hxn⟩;refine hK.out _ _ (hy0.out.trans hxn) ?_;have hy1:=hid (hy0.out.trans hxn);clear hK K hxn;try simp only [Act.put,sA,sZ,sS]
   refine zaj (by rfl) (fun K hK=>?_);go_simp;refine (dI.out _ hy1.out).mono ?_;rintro e w2 ⟨rfl,hxn⟩;refine hK.out _ _ (hy1.out.trans hxn) ?_;have hy2:=hid (hy1.out.trans hxn);clear hK K hxn;try simp only [Act.put,sA,sZ,sS]
   refine zaj (by rfl) (fun K hK=>?_);go_simp;refine (d2.out _).mono ?_;rintro e w3 ⟨rfl,hxn⟩;refine hK.out _ _ (hy2.out.trans hxn) ?_;have hy3:=hid (hy2.out.trans hxn);clear hK K hxn;try simp only [Act.put,sA,sZ,sS]
   refine zaj (by rfl) (fun K hK=>?_);go_simp;refine (d3.out _).mono ?_;rintro e w4 ⟨rfl,hxn⟩;refine hK.out _ _ (hy3.out.trans hxn) ?_;have hy4:=hid (hy3.out.trans hxn);clear hK K hxn;try simp only [Act.put,sA,sZ,sS]
   refine zaj (by rfl) (fun K hK=>?_);go_simp;have hxm:=Mod.alloc (Mod.refl (fun _=>False) w4) (.cells #[.string ⟨t0.toArray⟩,.string ⟨tI.toArray⟩,.string ⟨t2.toArray⟩,.string ⟨t3.toArray⟩] 9);have hO:=zbk (zbh (B:=0) (heap_alloc_new w4 (.cells #[.string ⟨t0.toArray⟩,.string ⟨tI.toArray⟩,.string ⟨t2.toArray⟩,.string ⟨t3.toArray⟩] 9)) (l:=[t0,tI,t2,t3]) rfl rfl rfl (Nat.zero_le _) (by simp)) (by simp);have hjn:=hid (zbf _ [t0,tI,t2,t3] 47 _ hO (by simp) (fun x hx=>Nat.le_trans (hle.out x hx) (by decide)));refine hK.out _ _ (hy4.out.trans hxm) ?_;have hy5:=hid (hy4.out.trans hxm);clear hK K hxm hO;try simp only [Act.put,sA,sZ,sS]
   generalize (w4.alloc _)=w5 at hjn hy5 ⊢;refine zaj (by rfl) (fun K hK=>?_);go_simp;refine hjn.out.mono ?_;rintro e w6 ⟨rfl,rfl⟩;refine hK.out _ _ hy5.out ?_;clear hK K;try simp only [Act.put,sA,sZ,sS]
   refine qT ?_;refine zas ?_;go_wp2_with fail
   go_ret;exact ⟨by rw [hw.out];rfl,hx.out.trans hy5.out⟩
end Go.Proofs.YtjjfphalcibjfaaGreatDoor
