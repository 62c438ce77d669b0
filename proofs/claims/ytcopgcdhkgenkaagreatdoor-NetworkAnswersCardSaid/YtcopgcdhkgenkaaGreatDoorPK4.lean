import Derived.Test.YtcopgcdhkgenkaaGreatDoorPK2
set_option linter.all false
set_option maxRecDepth 100000
set_option maxHeartbeats 16000000
namespace Go.Proofs.YtcopgcdhkgenkaaGreatDoor.Ps
open Go.RowKit Cdk Tpl
theorem lit_open {c:UInt8} {r:Bs} (h:opensB (c::r)=true):lit (c::r)=([],0,c::r,true):=by
 cases r with
 | nil=>
  simp only [opensB,decide_eq_true_eq] at h;simp [lit,h]
 | cons d r=>
  simp only [opensB,Bool.and_eq_true,decide_eq_true_eq,Bool.not_eq_true',decide_eq_false_iff_not] at h;simp [lit,h.1,h.2]
theorem lit_bad {c:UInt8} {r:Bs} (h0:c.toNat ≠ 10) (hp:isP c=false):lit (c::r)=([],0,c::r,false):=by
 have h:c.toNat ≠ 123:=by
  intro h;unfold isP at hp;rw [h] at hp;revert hp;decide
 cases r with
 | nil=>simp [lit,h,h0,hp]
 | cons d r=>simp [lit,h,h0,hp]
theorem lit_step {c:UInt8} {r:Bs} (h:c.toNat ≠ 123) (h0:c.toNat=10 \/ isP c=true):lit (c::r)=(c::(lit r).1,(lit r).2.1+1,(lit r).2.2):=by
 have hb:(decide (c.toNat ≠ 10) && !isP c)=false:=by
  rcases h0 with h0 | h0 <;> simp [h0]
 cases r with
 | nil=>simp only [lit,if_neg h,hb];rfl
 | cons d r=>simp only [lit,if_neg h,hb];rfl
theorem lit_brace {c:UInt8} {r:Bs} (h:c.toNat=123) (ho:opensB (c::r)=false):∃ d r',r=d::r'/\lit (c::r)=(c::(lit r').1,(lit r').2.1+2,(lit r').2.2):=by
 cases r with
 | nil=>simp [opensB,h] at ho
 | cons d r=>
  have hd:d.toNat=123:=by
   simp only [opensB,h,decide_true,Bool.true_and,Bool.not_eq_false',decide_eq_true_eq] at ho;exact ho
  exact ⟨d,r,rfl,by simp [lit,h,hd]⟩
theorem lit_len:∀ (n:Nat) (l:Bs),l.length<=n -> (lit l).2.1+(lit l).2.2.1.length=l.length/\(lit l).1.length<=l.length
 | 0,[],_=>by simp [lit]
 | n+1,[],_=>by simp [lit]
 | n+1,[c],_=>by
  simp only [lit];split
  ·simp
  ·split <;> simp
 | n+1,c::d::r,h=>by
  simp only [lit];split
  ·split
   ·have:=lit_len n r (by simp at h;omega)
    simp only [List.length_cons];omega
   ·simp
  ·split
   ·simp
   ·have:=lit_len n (d::r) (by simpa using h)
    simp only [List.length_cons] at this ⊢;omega
def tokV (t:Tk):Value:=.agg #[.int .i64 t.kind,.string ⟨t.text.toArray⟩,.int .i64 t.off]
def byteC (c:UInt8):List Value:=[.int .u8 c.toNat]
theorem byteC_len (c:UInt8):(byteC c).length=1:=rfl
theorem byteC_one (c:UInt8):∀ u ∈ byteC c,u.oneCell'=true:=fun u hu=>by simp [byteC] at hu;subst hu;rfl
theorem el5:El Tryz.prog 5 (.int .u8 0) 1 1:=⟨by kernel_rfl,rfl,by decide,by decide⟩
theorem run_text {w:World} {base:Nat} {v:Value} {l:Bs} (h:Cdk.Own w base 5 1 byteC v l) (hne:l ≠ []):(convert 38 9 v).run Tryz.prog w=.ok (.string ⟨l.toArray⟩) w:=by
 obtain ⟨ao,cap,rfl,hr,-⟩:=h.row;obtain ⟨b,off,rfl,hc⟩:=hr.at (by rw [flat_length _ 1 byteC_len];cases l with | nil=>exact absurd rfl hne | cons a l=>simp);refine run_convert_bytes_back w _ _ _ ⟨b,off,none⟩ cap l Tryz.underlying38 Tryz.underlying5 Tryz.underlying9 (fun j hj=>?_);have f:=flat_get byteC 1 byteC_len l j 0 l[j] (List.getElem?_eq_getElem hj) (by omega);rw [Addr.add_lit];exact hc j _ (by simpa [byteC] using f)
theorem cell_of' {w:World} {b:Nat} {cs:Array Value} {t:TypeId} {fr:Nat × Nat} (h:w.heap[b]?=some (.cells cs t fr)) (j:Nat):w.cell? ⟨b,j,none⟩=cs[j]?:=by
 simp [World.cell?,h]
theorem free_of' {w:World} {b:Nat} {cs:Array Value} {t:TypeId} (h:w.heap[b]?=some (.cells cs t (0,0))) (j:Nat):w.frozen? ⟨b,j,none⟩=false:=by
 simp [World.frozen?,h]
theorem ret_cell_tmp {P:Program} {fn:Func} {p u:Tmp} {ty:TypeId} (h:fn.results=#[.cell p ty,.tmp u]) (tmps:Array Value) (w:World) (g:Nat) (t:TypeId) (cs:Array Value) (fr:Nat × Nat) (d:TypeDesc)
  (hp:tmps.getD p undef=.pointer (some ⟨g,0,none⟩)) (hg:w.heap[g]?=some (.cells cs t fr))
  (hu:P.underlying ty=some d) (hd:(match d with | .struct _ | .array _ _=>true | _=>false)=true) (hi:(P.info? ty).map (·.size)=some cs.size):
  (results fn tmps).run P w=.ok (.tuple #[.agg cs,tmps.getD u undef]) w:=by
 rw [results_cell_tmp h,hp];simp [asAddr,run_loadVar_row w g t ty cs fr d hg hu hd hi,Result.andThen]
theorem setCell3 {w:World} {R:Nat} {a b c x y z:Value} {t:TypeId} {fr:Nat × Nat} (h:w.heap[R]?=some (.cells #[a,b,c] t fr)):
  (((w.setCell ⟨R,0,none⟩ x).setCell ⟨R,1,none⟩ y).setCell ⟨R,2,none⟩ z).heap[R]?=some (.cells #[x,y,z] t fr):=by
 have key:∀ {w:World} {cs:Array Value} (j:Nat) (v:Value),w.heap[R]?=some (.cells cs t fr) -> (w.setCell ⟨R,j,none⟩ v).heap[R]?=some (.cells (cs.setIfInBounds j v) t fr):=by
  intro w cs j v h;simp only [World.setCell,Array.getElem?_modify,if_true];rw [h];simp
 exact key 2 z (key 1 y (key 0 x h))
theorem tok_size:(Tryz.prog.info? 669).map (·.size)=some 3:=by kernel_rfl
def litR (l:Bs) (k:Nat):Tk × Int:=let x:=lit l;if x.2.2.2 then (⟨1,x.1,k⟩,((k+x.2.1:Nat):Int)) else (⟨0,[],k+x.2.1⟩,0)
theorem literal_any (s:ByteArray) (k:Nat) (hk:k < s.size) (hs:s.size<=1000) (ho:opensB (s.data.toList.drop k)=false) (w:World):
  Calls Tryz.prog 561 #[.string s,.int .i64 k] w fun e w'=>e=.returned (.tuple #[tokV (litR (s.data.toList.drop k) k).1,.int .i64 (litR (s.data.toList.drop k) k).2])/\Ext w w':=by
 have hres:=hid (show litR (s.data.toList.drop k) k=if (lit (s.data.toList.drop k)).2.2.2 then (⟨1,(lit (s.data.toList.drop k)).1,k⟩,((k+(lit (s.data.toList.drop k)).2.1:Nat):Int)) else (⟨0,[],k+(lit (s.data.toList.drop k)).2.1⟩,0) from rfl);generalize litR (s.data.toList.drop k) k=res at hres ⊢;obtain ⟨L,hL⟩:∃ L,L=s.data.toList:=⟨_,rfl⟩;have hLn:L.length=s.size:=by rw [hL];rfl
 rw [<- hL] at ho hres;replace hLn:=hid hLn;replace hL:=hid hL;replace ho:=hid ho;unfold tokV;go_enter Tryz.func561,Tryz.ntmps561;go_wp2_with fail
 have hxR:=Mod.alloc (Mod.refl (fun _=>False) w) (.cells #[.int .i64 0,.string ⟨#[]⟩,.int .i64 0] 669);have hR0:=heap_alloc_new w (.cells #[.int .i64 0,.string ⟨#[]⟩,.int .i64 0] 669);generalize hR:w.heap.size=R at hR0 ⊢;generalize (w.alloc (.cells #[.int .i64 0,.string ⟨#[]⟩,.int .i64 0] 669))=w0 at hxR hR0 ⊢;have hRle:w.heap.size<=R:=Nat.le_of_eq hR;replace hR:=hid hR
 go_loopg [6,7] (s.size - k) (fun g v e wr=>∃ (j:Nat) (pre:Bs),k<=j/\j+g=s.size/\e=.int .i64 j/\Cdk.Own wr (R+1) 5 1 byteC v pre/\wr.heap[R]?=some (.cells #[.int .i64 0,.string ⟨#[]⟩,.int .i64 0] 669 (0,0))/\Ext w wr ∧
   lit (L.drop k)=(pre++(lit (L.drop j)).1,(j - k)+(lit (L.drop j)).2.1,(lit (L.drop j)).2.2)/\pre.length<=j - k/\(j ≠ k -> pre ≠ []))
 case atStart=>exact ⟨k,[],Nat.le_refl _,by omega,rfl,Own.nil _ _ _ _ _,hR0,hxR,by simp,by simp,fun h=>absurd rfl h⟩
 case round=>
  clear hxR hR0;obtain ⟨j,pre,hkj,hj,rfl,hown,hRc,hx,hlit,hpl,hpn⟩:=hrel;have hjs:j<=s.size:=by omega
  have hRw:=lt_of_at hRc;have fz:=free_of' hRc;have q0:wr.cell? ⟨R,0,none⟩=some (.int .i64 0):=cell_of' hRc 0;have q1:wr.cell? ⟨R,1,none⟩=some (.string ⟨#[]⟩):=cell_of' hRc 1;have q2:wr.cell? ⟨R,2,none⟩=some (.int .i64 0):=cell_of' hRc 2;replace hj:=hid hj;replace hx:=hid hx;replace hRc:=hid hRc
  by_cases hlt:j < s.size
  ·have hdj:L.drop j=s[j]::L.drop (j+1):=by rw [hL.out];exact drop_at s hlt
   have hop:=opens_any s j hlt hs wr;rw [<- hL.out] at hop;cases hb:opensB (L.drop j) with
   | true=>
    have hjk:j ≠ k:=fun e=>by rw [e,ho.out] at hb;cases hb
    rw [hb] at hop;rw [hdj] at hb;rw [hdj,lit_open hb] at hlit;have ht:=run_text hown (hpn hjk);rw [hlit] at hres;simp only [List.append_nil,Nat.add_zero,if_true] at hres;have hkj':k+(j - k)=j:=by omega
    rw [hkj'] at hres;clear hkj';replace hop:=hid hop;replace hown:=hid hown;replace hlit:=hid hlit;replace hres:=hid hres.out;clear hb hdj hpn;go_wp2_with fail
    refine hop.out.mono ?_;rintro e w' ⟨rfl,rfl⟩;go_wp2_with fail
    refine bodyPost_ret (ret_cell_tmp rfl _ _ R _ _ _ _ rfl (setCell3 hRc.out) Tryz.underlying669 rfl tok_size) rfl ?_;refine ⟨by rw [hres.out];rfl,(((hx.out.setCell (fun h=>by have:R < w.heap.size:=h;omega) _).setCell (fun h=>by have:R < w.heap.size:=h;omega) _).setCell (fun h=>by have:R < w.heap.size:=h;omega) _)⟩
   | false=>
    rw [hb] at hop;rw [hdj] at hb;replace hop:=hid hop;cases h10:(((s[j]).toNat:Int)==10) with
    | false=>
     have hn10:(((s[j]).toNat:Int) !=10)=true:=by simp only [bne,h10];rfl
     have hpr:=printable_any s[j] wr;cases hpb:isP s[j] with
     | false=>
      rw [hdj,lit_bad (by intro h;rw [h] at h10;simp at h10) hpb] at hlit;rw [hlit] at hres;simp only [Bool.false_eq_true,if_false,Nat.add_zero] at hres;rw [hpb] at hpr;have hkj':k+(j - k)=j:=by omega
      rw [hkj'] at hres;replace hres:=hid hres.out;replace hpr:=hid hpr;replace hown:=hid hown;replace hlit:=hid hlit;clear hb hpb hdj hpn hkj';go_wp2_with fail
      refine hop.out.mono ?_;rintro e w' ⟨rfl,rfl⟩;go_wp2_with fail
      refine hpr.out.mono ?_;rintro e w' ⟨rfl,rfl⟩;go_wp2_with fail
      refine bodyPost_ret (ret_cell_tmp rfl _ _ R _ _ _ _ rfl (setCell3 hRc.out) Tryz.underlying669 rfl tok_size) rfl ?_;refine ⟨by rw [hres.out];rfl,(((hx.out.setCell (fun h=>by have:R < w.heap.size:=h;omega) _).setCell (fun h=>by have:R < w.heap.size:=h;omega) _).setCell (fun h=>by have:R < w.heap.size:=h;omega) _)⟩
     | true=>
      rw [hpb] at hpr
      by_cases h123:(s[j]).toNat=123
      ·
       obtain ⟨d,r',hr',hst⟩:=lit_brace h123 hb;rw [hdj,hst] at hlit;have hbb:(((s[j]).toNat:Int)==123)=true:=by rw [h123];rfl
       have hj1:j+1 < s.size:=by
        have:=congrArg List.length hr';rw [List.length_drop,hLn.out] at this;simp at this;omega
       have hdr:L.drop (j+2)=r':=by
        rw [show j+2=(j+1)+1 by omega,<- List.drop_drop,hr'];rfl
       rw [<- hdr] at hlit;replace hlit:=hid hlit;replace hown:=hid hown;replace hpr:=hid hpr;clear hb hdj hpn hst h123 hr' hdr;go_wp2_with fail
       refine hop.out.mono ?_;rintro e w' ⟨rfl,rfl⟩;go_wp2_with fail
       refine hpr.out.mono ?_;rintro e w' ⟨rfl,rfl⟩;go_wp2_with (at_builtin;refine wpList_app rfl _ _ _ rfl Tryz.underlying38 el5 rfl (hown.out.ext ((Mod.refl _ _).alloc _)) _ 1 1 rfl [s[j]] rfl (by exact RowIs.new _ _ _) byteC_len (fun y _=>byteC_one y) (by simp only [List.length_singleton];omega) (by rw [World.size_alloc];omega) (by simp) (fun v6 w6 H6=>?_);go_frame)
       go_roundg (gk - 2)
       case measure=>have:=hj.out;omega
       case rel=>exact ⟨j+2,pre++[s[j]],by omega,by have:=hj.out;omega,by go_num,H6.out.1,(H6.out.2.at (((Mod.refl (fun _=>False) wr).alloc _).at hRc.out (fun h=>h)) (fun e=>by have:=(hown.out.block R e).1;omega)),((hx.out.alloc _).then H6.out.2 (fun k' hk' e=>by have:=(hown.out.block k' e).1;omega)),by rw [hlit.out];simp only [List.append_assoc,List.singleton_append];congr 2;omega,by simp only [List.length_append,List.length_singleton];omega,fun _=>by simp⟩
      ·have hst:=lit_step (r:=L.drop (j+1)) h123 (.inr hpb)
       rw [hdj,hst] at hlit;have hbb:(((s[j]).toNat:Int)==123)=false:=by rw [beq_eq_false_iff_ne];omega
       replace hlit:=hid hlit;replace hown:=hid hown;replace hpr:=hid hpr;clear hb hdj hpn hst h123;go_wp2_with fail
       refine hop.out.mono ?_;rintro e w' ⟨rfl,rfl⟩;go_wp2_with fail
       refine hpr.out.mono ?_;rintro e w' ⟨rfl,rfl⟩;go_wp2_with (at_builtin;refine wpList_app rfl _ _ _ rfl Tryz.underlying38 el5 rfl (hown.out.ext ((Mod.refl _ _).alloc _)) _ 1 1 rfl [s[j]] rfl (by exact RowIs.new _ _ _) byteC_len (fun y _=>byteC_one y) (by simp only [List.length_singleton];omega) (by rw [World.size_alloc];omega) (by simp) (fun v6 w6 H6=>?_);go_frame)
       go_roundg (gk - 1)
       case measure=>have:=hj.out;omega
       case rel=>exact ⟨j+1,pre++[s[j]],by omega,by have:=hj.out;omega,by go_num,H6.out.1,(H6.out.2.at (((Mod.refl (fun _=>False) wr).alloc _).at hRc.out (fun h=>h)) (fun e=>by have:=(hown.out.block R e).1;omega)),((hx.out.alloc _).then H6.out.2 (fun k' hk' e=>by have:=(hown.out.block k' e).1;omega)),by rw [hlit.out];simp only [List.append_assoc,List.singleton_append];congr 2;omega,by simp only [List.length_append,List.length_singleton];omega,fun _=>by simp⟩
    | true=>
     have hn10:(((s[j]).toNat:Int) !=10)=false:=by simp only [bne,h10];rfl
     by_cases h123:(s[j]).toNat=123
     ·
      obtain ⟨d,r',hr',hst⟩:=lit_brace h123 hb;rw [hdj,hst] at hlit;have hbb:(((s[j]).toNat:Int)==123)=true:=by rw [h123];rfl
      have hj1:j+1 < s.size:=by
       have:=congrArg List.length hr';rw [List.length_drop,hLn.out] at this;simp at this;omega
      have hdr:L.drop (j+2)=r':=by
       rw [show j+2=(j+1)+1 by omega,<- List.drop_drop,hr'];rfl
      rw [<- hdr] at hlit;replace hlit:=hid hlit;replace hown:=hid hown
      skip
      clear hb hdj hpn hst h123 hr' hdr;go_wp2_with fail
      refine hop.out.mono ?_;rintro e w' ⟨rfl,rfl⟩
      skip
      go_wp2_with (at_builtin;refine wpList_app rfl _ _ _ rfl Tryz.underlying38 el5 rfl (hown.out.ext ((Mod.refl _ _).alloc _)) _ 1 1 rfl [s[j]] rfl (by exact RowIs.new _ _ _) byteC_len (fun y _=>byteC_one y) (by simp only [List.length_singleton];omega) (by rw [World.size_alloc];omega) (by simp) (fun v6 w6 H6=>?_);go_frame)
      go_roundg (gk - 2)
      case measure=>have:=hj.out;omega
      case rel=>exact ⟨j+2,pre++[s[j]],by omega,by have:=hj.out;omega,by go_num,H6.out.1,(H6.out.2.at (((Mod.refl (fun _=>False) wr).alloc _).at hRc.out (fun h=>h)) (fun e=>by have:=(hown.out.block R e).1;omega)),((hx.out.alloc _).then H6.out.2 (fun k' hk' e=>by have:=(hown.out.block k' e).1;omega)),by rw [hlit.out];simp only [List.append_assoc,List.singleton_append];congr 2;omega,by simp only [List.length_append,List.length_singleton];omega,fun _=>by simp⟩
     ·have hst:=lit_step (r:=L.drop (j+1)) h123 (.inl (by have:((s[j]).toNat:Int)=10:=(by simpa using h10);omega))
      rw [hdj,hst] at hlit;have hbb:(((s[j]).toNat:Int)==123)=false:=by rw [beq_eq_false_iff_ne];omega
      replace hlit:=hid hlit;replace hown:=hid hown
      skip
      clear hb hdj hpn hst h123;go_wp2_with fail
      refine hop.out.mono ?_;rintro e w' ⟨rfl,rfl⟩
      skip
      go_wp2_with (at_builtin;refine wpList_app rfl _ _ _ rfl Tryz.underlying38 el5 rfl (hown.out.ext ((Mod.refl _ _).alloc _)) _ 1 1 rfl [s[j]] rfl (by exact RowIs.new _ _ _) byteC_len (fun y _=>byteC_one y) (by simp only [List.length_singleton];omega) (by rw [World.size_alloc];omega) (by simp) (fun v6 w6 H6=>?_);go_frame)
      go_roundg (gk - 1)
      case measure=>have:=hj.out;omega
      case rel=>exact ⟨j+1,pre++[s[j]],by omega,by have:=hj.out;omega,by go_num,H6.out.1,(H6.out.2.at (((Mod.refl (fun _=>False) wr).alloc _).at hRc.out (fun h=>h)) (fun e=>by have:=(hown.out.block R e).1;omega)),((hx.out.alloc _).then H6.out.2 (fun k' hk' e=>by have:=(hown.out.block k' e).1;omega)),by rw [hlit.out];simp only [List.append_assoc,List.singleton_append];congr 2;omega,by simp only [List.length_append,List.length_singleton];omega,fun _=>by simp⟩
  ·obtain rfl:j=s.size:=by omega
   have hjk:s.size ≠ k:=by omega
   have hdj:L.drop s.size=[]:=List.drop_eq_nil_of_le (by rw [hLn.out];exact Nat.le_refl _);rw [hdj] at hlit;have ht:=run_text hown (hpn hjk);rw [hlit] at hres;simp only [lit,List.append_nil,Nat.add_zero,if_true] at hres;have hkj':k+(s.size - k)=s.size:=by omega
   rw [hkj'] at hres;clear hkj';replace hown:=hid hown;replace hlit:=hid hlit;replace hres:=hid hres.out;clear hdj hpn;go_wp2_with fail
   refine bodyPost_ret (ret_cell_tmp rfl _ _ R _ _ _ _ rfl (setCell3 hRc.out) Tryz.underlying669 rfl tok_size) rfl ?_;refine ⟨by rw [hres.out];rfl,(((hx.out.setCell (fun h=>by have:R < w.heap.size:=h;omega) _).setCell (fun h=>by have:R < w.heap.size:=h;omega) _).setCell (fun h=>by have:R < w.heap.size:=h;omega) _)⟩
theorem extract_bytes (s:ByteArray) (k e:Nat) (_he:e<=s.size):s.extract k e=⟨((s.data.toList.drop k).take (e - k)).toArray⟩:=by
 have:(s.extract k e).data.toList=(s.data.toList.drop k).take (e - k):=by
  rw [ByteArray.data_extract,Array.toList_extract,List.extract_eq_take_drop]
 cases hx:s.extract k e with
 | mk d=>
  rw [hx] at this;simp only at this;rw [<- this]
theorem take_while (p:UInt8 -> Bool) (l:Bs):l.take (l.takeWhile p).length=l.takeWhile p:=by
 induction l with
 | nil=>rfl
 | cons a l ih=>
  rw [List.takeWhile_cons];split
  ·simp [ih]
  ·simp
theorem drop_while (p:UInt8 -> Bool) (l:Bs):l.drop (l.takeWhile p).length=l.dropWhile p:=by
 induction l with
 | nil=>rfl
 | cons a l ih=>
  rw [List.takeWhile_cons,List.dropWhile_cons];split
  ·simp [ih]
  ·simp
def partR (l:Bs) (k:Nat):Tk × Int:=
 match l with
 | []=>(⟨0,[],k⟩,0)
 | c::r=>match Tpl.part c r with
  | none=>(⟨0,[],k⟩,0)
  | some x=>(⟨x.1,x.2.1,k⟩,((k+x.2.2.1:Nat):Int))
theorem isW_of_isL {c:UInt8} (h:isL c=true):isW c=true:=by unfold isW;rw [h];rfl
theorem part_any (s:ByteArray) (k:Nat) (hk:k < s.size) (hs:s.size<=1000) (w:World):
  Calls Tryz.prog 562 #[.string s,.int .i64 k] w fun e w'=>e=.returned (.tuple #[tokV (partR (s.data.toList.drop k) k).1,.int .i64 (partR (s.data.toList.drop k) k).2])/\Ext w w':=by
 have hd:=drop_at s hk;obtain ⟨c,hc⟩:∃ c,c=s[k]:=⟨_,rfl⟩;obtain ⟨r,hr⟩:∃ r,r=s.data.toList.drop (k+1):=⟨_,rfl⟩;rw [<- hc,<- hr] at hd;have hres:=hid (show partR (s.data.toList.drop k) k=(match Tpl.part c r with | none=>(⟨0,[],k⟩,0) | some x=>(⟨x.1,x.2.1,k⟩,((k+x.2.2.1:Nat):Int))) by rw [hd];rfl);generalize partR (s.data.toList.drop k) k=res at hres ⊢;have hLn:s.data.toList.length=s.size:=rfl;have hrl:r.length+1+k=s.size:=by rw [hr,List.length_drop,hLn];omega
 have hlet:=hid (fun w=>letter_any c w);have hdig:=hid (fun w=>digit_any c w);unfold tokV;go_enter Tryz.func562,Tryz.ntmps562;go_upto_region 3 with fail
 have hx:=(Mod.refl (fun _=>False) w).alloc (.cells #[.int .i64 0,.string ⟨#[]⟩,.int .i64 0] 669);have hx:=hx.alloc (.cells #[.int .i64 0,.string ⟨#[]⟩,.int .i64 k] 669);have hRc:=(Mod.refl (fun _=>False) _).alloc (.cells #[.int .i64 0,.string ⟨#[]⟩,.int .i64 k] 669) |>.at (heap_alloc_new w (.cells #[.int .i64 0,.string ⟨#[]⟩,.int .i64 0] 669)) (fun h=>h)
 have hVc:=heap_alloc_new (w.alloc (.cells #[.int .i64 0,.string ⟨#[]⟩,.int .i64 0] 669)) (.cells #[.int .i64 0,.string ⟨#[]⟩,.int .i64 k] 669);rw [World.size_alloc] at hVc;generalize hR:w.heap.size=R at hRc hVc ⊢;generalize ((w.alloc (.cells #[.int .i64 0,.string ⟨#[]⟩,.int .i64 0] 669)).alloc (.cells #[.int .i64 0,.string ⟨#[]⟩,.int .i64 k] 669))=w1 at hx hRc hVc ⊢;have hRle:w.heap.size<=R:=Nat.le_of_eq hR;replace hR:=hid hR;have fz:=free_of' hRc;have q0:w1.cell? ⟨R,0,none⟩=some (.int .i64 0):=cell_of' hRc 0;have q1:w1.cell? ⟨R,1,none⟩=some (.string ⟨#[]⟩):=cell_of' hRc 1;have q2:w1.cell? ⟨R,2,none⟩=some (.int .i64 0):=cell_of' hRc 2;have v0:w1.cell? ⟨R+1,0,none⟩=some (.int .i64 0):=cell_of' hVc 0;have v1:w1.cell? ⟨R+1,1,none⟩=some (.string ⟨#[]⟩):=cell_of' hVc 1;have v2:w1.cell? ⟨R+1,2,none⟩=some (.int .i64 k):=cell_of' hVc 2;replace hRc:=hid hRc;replace hx:=hid hx;clear hVc;rw [<- hc];replace hc:=hid hc;replace hr:=hid hr;have hlet:=hlet.out w1;have hdig:=hdig.out w1;cases hL:isL c with
 | true=>
  have hrun:=run_word s k (Nat.le_of_lt hk) hs w1;rw [hd,List.takeWhile_cons,isW_of_isL hL] at hrun;simp only [if_true] at hrun;obtain ⟨n,hn⟩:∃ n,n=(c::r.takeWhile isW).length:=⟨_,rfl⟩;obtain ⟨e,he⟩:∃ e,e=k+n:=⟨_,rfl⟩;have hnr:n<=r.length+1:=by rw [hn];simp only [List.length_cons];have:=(List.takeWhile_sublist isW (l:=r)).length_le;omega
  have hes:e<=s.size:=by omega
  have hwe:IntKind.i64.wrap ((e:Int) - (k:Int))=(n:Int):=by rw [Go.IntWalk.i64_in _ (by omega)];omega
  have htx:s.extract k e=⟨(c::r.takeWhile isW).toArray⟩:=by
   rw [extract_bytes s k e hes,hd,show e - k=(c::r.takeWhile isW).length by omega];have:=take_while isW (c::r);rw [List.takeWhile_cons,isW_of_isL hL] at this;simp only [if_true] at this;rw [this]
  have hke:(k:Int)<=(e:Int):=by omega
  have hesI:(e:Int)<=(s.size:Int):=by omega
  rw [<- hn,<- he] at hrun;rw [hL] at hlet;replace hlet:=hid hlet;replace hrun:=hid hrun
  by_cases h20:(20:Int) < (n:Int)
  ·have hp:Tpl.part c r=none:=by unfold Tpl.part;rw [hL];simp only [if_true];rw [if_pos (by omega)]
   rw [hp] at hres;clear hp hL hd hn he htx hnr;go_wp2_with fail
   refine hlet.out.mono ?_;rintro e' w' ⟨rfl,rfl⟩;go_wp2_with fail
   refine hrun.out.mono ?_;rintro e' w' ⟨rfl,rfl⟩;go_wp2_with fail
   refine bodyPost_ret (ret_cell_tmp rfl _ _ R _ _ _ _ rfl (setCell3 hRc.out) Tryz.underlying669 rfl tok_size) rfl ?_;exact ⟨by rw [hres.out];rfl,(((hx.out.setCell (fun h=>by have:R < w.heap.size:=h;omega) _).setCell (fun h=>by have:R < w.heap.size:=h;omega) _).setCell (fun h=>by have:R < w.heap.size:=h;omega) _)⟩
  ·have hp:Tpl.part c r=some (2,c::r.takeWhile isW,n,r.dropWhile isW):=by unfold Tpl.part;rw [hL];simp only [if_true];rw [if_neg (by omega),hn]
   rw [hp] at hres;simp only [<- he] at hres;clear hp hL hd hn he hnr;go_wp2_with fail
   refine hlet.out.mono ?_;rintro e' w' ⟨rfl,rfl⟩;go_wp2_with fail
   refine hrun.out.mono ?_;rintro e' w' ⟨rfl,rfl⟩;go_wp2_with fail
   refine bodyPost_ret (ret_cell_tmp rfl _ _ R _ _ _ _ rfl (setCell3 hRc.out) Tryz.underlying669 rfl tok_size) rfl ?_;exact ⟨by rw [hres.out];rfl,(((hx.out.setCell (fun h=>by have:R < w.heap.size:=h;omega) _).setCell (fun h=>by have:R < w.heap.size:=h;omega) _).setCell (fun h=>by have:R < w.heap.size:=h;omega) _)⟩
 | false=>
  rw [hL] at hlet;replace hlet:=hid hlet;cases hD:isD c with
  | true=>
   rw [hD] at hdig;have hrun:=run_digit s k (Nat.le_of_lt hk) hs w1;rw [hd,List.takeWhile_cons,hD] at hrun;simp only [if_true] at hrun;obtain ⟨n,hn⟩:∃ n,n=(c::r.takeWhile isD).length:=⟨_,rfl⟩;obtain ⟨e,he⟩:∃ e,e=k+n:=⟨_,rfl⟩;have hnr:n<=r.length+1:=by rw [hn];simp only [List.length_cons];have:=(List.takeWhile_sublist isD (l:=r)).length_le;omega
   have hes:e<=s.size:=by omega
   have hwe:IntKind.i64.wrap ((e:Int) - (k:Int))=(n:Int):=by rw [Go.IntWalk.i64_in _ (by omega)];omega
   have htx:s.extract k e=⟨(c::r.takeWhile isD).toArray⟩:=by
    rw [extract_bytes s k e hes,hd,show e - k=(c::r.takeWhile isD).length by omega];have:=take_while isD (c::r);rw [List.takeWhile_cons,hD] at this;simp only [if_true] at this;rw [this]
   have hke:(k:Int)<=(e:Int):=by omega
   have hesI:(e:Int)<=(s.size:Int):=by omega
   rw [<- hn,<- he] at hrun;replace hdig:=hid hdig;replace hrun:=hid hrun;have hpart:Tpl.part c r=if decide (6 < n) || (decide (1 < n) && decide (c.toNat=48)) then none else some (3,c::r.takeWhile isD,n,r.dropWhile isD):=by
    unfold Tpl.part;rw [hL,hD,hn];rfl
   replace hpart:=hid hpart;clear hL hD hd hn hnr
   by_cases h6:(6:Int) < (n:Int)
   ·have hp:Tpl.part c r=none:=by rw [hpart.out,if_pos (by simp;omega)]
    rw [hp] at hres;clear hp he htx;go_wp2_with fail
    refine hlet.out.mono ?_;rintro e' w' ⟨rfl,rfl⟩;go_wp2_with fail
    refine hdig.out.mono ?_;rintro e' w' ⟨rfl,rfl⟩;go_wp2_with fail
    refine hrun.out.mono ?_;rintro e' w' ⟨rfl,rfl⟩;go_wp2_with fail
    refine bodyPost_ret (ret_cell_tmp rfl _ _ R _ _ _ _ rfl (setCell3 hRc.out) Tryz.underlying669 rfl tok_size) rfl ?_;exact ⟨by rw [hres.out];rfl,(((hx.out.setCell (fun h=>by have:R < w.heap.size:=h;omega) _).setCell (fun h=>by have:R < w.heap.size:=h;omega) _).setCell (fun h=>by have:R < w.heap.size:=h;omega) _)⟩
   ·by_cases h1:(1:Int) < (n:Int)
    ·cases h48:((c.toNat:Int)==48) with
     | true=>
      have hp:Tpl.part c r=none:=by
       have:(c.toNat:Int)=48:=by simpa using h48
       rw [hpart.out,if_pos (by simp;omega)]
      rw [hp] at hres;clear hp he htx;go_wp2_with fail
      refine hlet.out.mono ?_;rintro e' w' ⟨rfl,rfl⟩;go_wp2_with fail
      refine hdig.out.mono ?_;rintro e' w' ⟨rfl,rfl⟩;go_wp2_with fail
      refine hrun.out.mono ?_;rintro e' w' ⟨rfl,rfl⟩;go_wp2_with fail
      refine bodyPost_ret (ret_cell_tmp rfl _ _ R _ _ _ _ rfl (setCell3 hRc.out) Tryz.underlying669 rfl tok_size) rfl ?_;exact ⟨by rw [hres.out];rfl,(((hx.out.setCell (fun h=>by have:R < w.heap.size:=h;omega) _).setCell (fun h=>by have:R < w.heap.size:=h;omega) _).setCell (fun h=>by have:R < w.heap.size:=h;omega) _)⟩
     | false=>
      have hp:Tpl.part c r=some (3,c::r.takeWhile isD,n,r.dropWhile isD):=by
       have:¬ (c.toNat:Int)=48:=by simpa using h48
       rw [hpart.out,if_neg (by simp;omega)]
      rw [hp] at hres;simp only [<- he] at hres;clear hp he;go_wp2_with fail
      refine hlet.out.mono ?_;rintro e' w' ⟨rfl,rfl⟩;go_wp2_with fail
      refine hdig.out.mono ?_;rintro e' w' ⟨rfl,rfl⟩;go_wp2_with fail
      refine hrun.out.mono ?_;rintro e' w' ⟨rfl,rfl⟩;go_wp2_with fail
      refine bodyPost_ret (ret_cell_tmp rfl _ _ R _ _ _ _ rfl (setCell3 hRc.out) Tryz.underlying669 rfl tok_size) rfl ?_;exact ⟨by rw [hres.out];rfl,(((hx.out.setCell (fun h=>by have:R < w.heap.size:=h;omega) _).setCell (fun h=>by have:R < w.heap.size:=h;omega) _).setCell (fun h=>by have:R < w.heap.size:=h;omega) _)⟩
    ·have hp:Tpl.part c r=some (3,c::r.takeWhile isD,n,r.dropWhile isD):=by
      rw [hpart.out,if_neg (by simp;omega)]
     rw [hp] at hres;simp only [<- he] at hres;clear hp he;go_wp2_with fail
     refine hlet.out.mono ?_;rintro e' w' ⟨rfl,rfl⟩;go_wp2_with fail
     refine hdig.out.mono ?_;rintro e' w' ⟨rfl,rfl⟩;go_wp2_with fail
     refine hrun.out.mono ?_;rintro e' w' ⟨rfl,rfl⟩;go_wp2_with fail
     refine bodyPost_ret (ret_cell_tmp rfl _ _ R _ _ _ _ rfl (setCell3 hRc.out) Tryz.underlying669 rfl tok_size) rfl ?_;exact ⟨by rw [hres.out];rfl,(((hx.out.setCell (fun h=>by have:R < w.heap.size:=h;omega) _).setCell (fun h=>by have:R < w.heap.size:=h;omega) _).setCell (fun h=>by have:R < w.heap.size:=h;omega) _)⟩
  | false=>
   rw [hD] at hdig;replace hdig:=hid hdig;cases hq:((c.toNat:Int)==34) with
   | true=>
    have hq':c.toNat=34:=by have:(c.toNat:Int)=34:=(by simpa using hq);omega
    have hpart:Tpl.part c r=(match r.dropWhile isA with | []=>none | d::t=>if d.toNat=34 then some (4,r.takeWhile isA,(r.takeWhile isA).length+2,t) else none):=by
     unfold Tpl.part;rw [hL,hD];simp only [Bool.false_eq_true,if_false,hq',if_true];cases r.dropWhile isA <;> rfl
    have hrun:=run_quoted s (k+1) hk hs w1;rw [<- hr.out] at hrun;have hwk:IntKind.i64.wrap ((k:Int)+1)=((k+1:Nat):Int):=by rw [Go.IntWalk.i64_in _ (by omega)];omega
    obtain ⟨n,hn⟩:∃ n,n=(r.takeWhile isA).length:=⟨_,rfl⟩;obtain ⟨k1,hk1⟩:∃ k1,k1=k+1:=⟨_,rfl⟩;obtain ⟨e,he⟩:∃ e,e=k1+n:=⟨_,rfl⟩;have hnr:n<=r.length:=by rw [hn];exact (List.takeWhile_sublist isA (l:=r)).length_le
    have hes:e<=s.size:=by omega
    have htx:s.extract k1 e=⟨(r.takeWhile isA).toArray⟩:=by
     rw [extract_bytes s k1 e hes,hk1,<- hr.out,show e - (k+1)=(r.takeWhile isA).length by omega,take_while]
    have hdw:r.dropWhile isA=s.data.toList.drop e:=by
     rw [<- drop_while,<- hn,hr.out,List.drop_drop,he,hk1]
    rw [<- hk1] at hrun hwk;rw [<- hn,<- he] at hrun;have hke:(k1:Int)<=(e:Int):=by omega
    have hesI:(e:Int)<=(s.size:Int):=by omega
    have hwe:IntKind.i64.wrap ((e:Int)+1)=((e+1:Nat):Int):=by rw [Go.IntWalk.i64_in _ (by omega)];omega
    rw [hdw] at hpart;have hk1s:k1<=1000:=by omega
    replace hrun:=hid hrun;replace hpart:=hid hpart;clear hL hD hd hnr hq'
    by_cases hend:e=s.size
    ·have hp:Tpl.part c r=none:=by rw [hpart.out,List.drop_eq_nil_of_le (by rw [hend];exact Nat.le_refl _)]
     rw [hp] at hres;have hendb:((e:Int)==(s.size:Int))=true:=by rw [hend];simp
     replace hend:=hid hend;clear hp he htx hn hk1 hdw;go_wp2_with fail
     refine hlet.out.mono ?_;rintro e' w' ⟨rfl,rfl⟩;go_wp2_with fail
     refine hdig.out.mono ?_;rintro e' w' ⟨rfl,rfl⟩;go_wp2_with fail
     refine hrun.out.mono ?_;rintro e' w' ⟨rfl,rfl⟩;go_wp2_with fail
     refine bodyPost_ret (ret_cell_tmp rfl _ _ R _ _ _ _ rfl (setCell3 hRc.out) Tryz.underlying669 rfl tok_size) rfl ?_;exact ⟨by rw [hres.out];rfl,(((hx.out.setCell (fun h=>by have:R < w.heap.size:=h;omega) _).setCell (fun h=>by have:R < w.heap.size:=h;omega) _).setCell (fun h=>by have:R < w.heap.size:=h;omega) _)⟩
    ·have hel:e < s.size:=by omega
     have hendb:((e:Int)==(s.size:Int))=false:=by rw [beq_eq_false_iff_ne];omega
     have hde:=drop_at s hel;cases h34:(((s[e]).toNat:Int)==34) with
     | true=>
      have h34':(s[e]).toNat=34:=by have:((s[e]).toNat:Int)=34:=(by simpa using h34);omega
      have hn34:(((s[e]).toNat:Int) !=34)=false:=by simp only [bne,h34];rfl
      have hp:Tpl.part c r=some (4,r.takeWhile isA,n+2,s.data.toList.drop (e+1)):=by rw [hpart.out,hde];simp only [h34',if_true,hn]
      rw [hp] at hres;have hfin:k+(n+2)=e+1:=by omega
      simp only [hfin] at hres;clear hp he hn hk1 hdw hde h34' hend hfin;go_wp2_with fail
      refine hlet.out.mono ?_;rintro e' w' ⟨rfl,rfl⟩;go_wp2_with fail
      refine hdig.out.mono ?_;rintro e' w' ⟨rfl,rfl⟩;go_wp2_with fail
      refine hrun.out.mono ?_;rintro e' w' ⟨rfl,rfl⟩;go_wp2_with fail
      refine bodyPost_ret (ret_cell_tmp rfl _ _ R _ _ _ _ rfl (setCell3 hRc.out) Tryz.underlying669 rfl tok_size) rfl ?_;exact ⟨by rw [hres.out];rfl,(((hx.out.setCell (fun h=>by have:R < w.heap.size:=h;omega) _).setCell (fun h=>by have:R < w.heap.size:=h;omega) _).setCell (fun h=>by have:R < w.heap.size:=h;omega) _)⟩
     | false=>
      have h34':¬ (s[e]).toNat=34:=by have:¬ ((s[e]).toNat:Int)=34:=(by simpa using h34);omega
      have hn34:(((s[e]).toNat:Int) !=34)=true:=by simp only [bne,h34];rfl
      have hp:Tpl.part c r=none:=by rw [hpart.out,hde];simp only [h34',if_false]
      rw [hp] at hres;clear hp he hn hk1 hdw hde h34' hend htx;go_wp2_with fail
      refine hlet.out.mono ?_;rintro e' w' ⟨rfl,rfl⟩;go_wp2_with fail
      refine hdig.out.mono ?_;rintro e' w' ⟨rfl,rfl⟩;go_wp2_with fail
      refine hrun.out.mono ?_;rintro e' w' ⟨rfl,rfl⟩;go_wp2_with fail
      refine bodyPost_ret (ret_cell_tmp rfl _ _ R _ _ _ _ rfl (setCell3 hRc.out) Tryz.underlying669 rfl tok_size) rfl ?_;exact ⟨by rw [hres.out];rfl,(((hx.out.setCell (fun h=>by have:R < w.heap.size:=h;omega) _).setCell (fun h=>by have:R < w.heap.size:=h;omega) _).setCell (fun h=>by have:R < w.heap.size:=h;omega) _)⟩
   | false=>
    have hq':¬ c.toNat=34:=by have:¬ (c.toNat:Int)=34:=(by simpa using hq);omega
    have hwk:IntKind.i64.wrap ((k:Int)+1)=((k+1:Nat):Int):=by rw [Go.IntWalk.i64_in _ (by omega)];omega
    cases hpipe:((c.toNat:Int)==124) with
    | true=>
     have h':c.toNat=124:=by have:(c.toNat:Int)=124:=(by simpa using hpipe);omega
     have hp:Tpl.part c r=some (5,[124],1,r):=by
      unfold Tpl.part;rw [hL,hD];simp only [Bool.false_eq_true,if_false,h',if_true];rw [show c=124 from UInt8.toNat_inj.1 (by rw [h'];rfl)];rfl
     rw [hp] at hres;clear hp hL hD hd hq' h';go_wp2_with fail
     refine hlet.out.mono ?_;rintro e' w' ⟨rfl,rfl⟩;go_wp2_with fail
     refine hdig.out.mono ?_;rintro e' w' ⟨rfl,rfl⟩;go_wp2_with fail
     refine bodyPost_ret (ret_cell_tmp rfl _ _ R _ _ _ _ rfl (setCell3 hRc.out) Tryz.underlying669 rfl tok_size) rfl ?_;exact ⟨by rw [hres.out];rfl,(((hx.out.setCell (fun h=>by have:R < w.heap.size:=h;omega) _).setCell (fun h=>by have:R < w.heap.size:=h;omega) _).setCell (fun h=>by have:R < w.heap.size:=h;omega) _)⟩
    | false=>
     have hpipe':¬ c.toNat=124:=by have:¬ (c.toNat:Int)=124:=(by simpa using hpipe);omega
     cases hcl:((c.toNat:Int)==125) with
     | true=>
      have h':c.toNat=125:=by have:(c.toNat:Int)=125:=(by simpa using hcl);omega
      have hp:Tpl.part c r=some (7,[125],1,r):=by
       unfold Tpl.part;rw [hL,hD];simp only [Bool.false_eq_true,if_false,h',if_true];rw [show c=125 from UInt8.toNat_inj.1 (by rw [h'];rfl)];rfl
      rw [hp] at hres;clear hp hL hD hd hq' h' hpipe';go_wp2_with fail
      refine hlet.out.mono ?_;rintro e' w' ⟨rfl,rfl⟩;go_wp2_with fail
      refine hdig.out.mono ?_;rintro e' w' ⟨rfl,rfl⟩;go_wp2_with fail
      refine bodyPost_ret (ret_cell_tmp rfl _ _ R _ _ _ _ rfl (setCell3 hRc.out) Tryz.underlying669 rfl tok_size) rfl ?_;exact ⟨by rw [hres.out];rfl,(((hx.out.setCell (fun h=>by have:R < w.heap.size:=h;omega) _).setCell (fun h=>by have:R < w.heap.size:=h;omega) _).setCell (fun h=>by have:R < w.heap.size:=h;omega) _)⟩
     | false=>
      have h':¬ c.toNat=125:=by have:¬ (c.toNat:Int)=125:=(by simpa using hcl);omega
      have hp:Tpl.part c r=none:=by
       unfold Tpl.part;rw [hL,hD];simp only [Bool.false_eq_true,if_false,hq',hpipe',h']
      rw [hp] at hres;clear hp hL hD hd hq' h' hpipe';go_wp2_with fail
      refine hlet.out.mono ?_;rintro e' w' ⟨rfl,rfl⟩;go_wp2_with fail
      refine hdig.out.mono ?_;rintro e' w' ⟨rfl,rfl⟩;go_wp2_with fail
      refine bodyPost_ret (ret_cell_tmp rfl _ _ R _ _ _ _ rfl (setCell3 hRc.out) Tryz.underlying669 rfl tok_size) rfl ?_;exact ⟨by rw [hres.out];rfl,(((hx.out.setCell (fun h=>by have:R < w.heap.size:=h;omega) _).setCell (fun h=>by have:R < w.heap.size:=h;omega) _).setCell (fun h=>by have:R < w.heap.size:=h;omega) _)⟩end Go.Proofs.YtcopgcdhkgenkaaGreatDoor.Ps
