import Derived.Test.YtjjfphalcibjfaaGreatDoorMaps
namespace Scr
def ziW (r:UInt32):UInt32:=if r % 2=1 then (r / 2) ^^^ 0x82F63B78 else r / 2
def zn5:BitVec 32:=0x82F63B78#32
def zcQ (x:BitVec 32):BitVec 32:=(x >>> 1) ^^^ (if x.getLsbD 0 then zn5 else 0#32)
theorem zdX (r:UInt32):(ziW r).toBitVec=zcQ r.toBitVec:=by
 have hm:(r % 2=1) ↔ r.toBitVec.getLsbD 0=true:=by
  rw [<- UInt32.toNat_inj,UInt32.toNat_mod];simp only [BitVec.getLsbD,UInt32.toNat_toBitVec,Nat.testBit_zero,decide_eq_true_eq]
  rfl
 have hd:(r / 2).toBitVec=r.toBitVec >>> 1:=by
  apply BitVec.eq_of_toNat_eq;rw [BitVec.toNat_ushiftRight,UInt32.toNat_toBitVec,UInt32.toNat_toBitVec,UInt32.toNat_div,Nat.shiftRight_eq_div_pow]
  rfl
 unfold ziW zcQ zn5
 by_cases h:r % 2=1
 ·rw [if_pos h,if_pos (hm.1 h),<- hd];rfl
 ·rw [if_neg h,if_neg (fun k=>h (hm.2 k)),<- hd];simp
theorem zjC (a b:BitVec 32):zcQ (a ^^^ b)=zcQ a ^^^ zcQ b:=by
 unfold zcQ;rw [BitVec.ushiftRight_xor_distrib,BitVec.getLsbD_xor];cases a.getLsbD 0 <;> cases b.getLsbD 0
 ·simp
 ·simp [BitVec.xor_assoc]
 ·simp only [Bool.xor_false,if_true,if_false,Bool.false_eq_true,BitVec.xor_zero]
  rw [BitVec.xor_assoc,BitVec.xor_assoc,BitVec.xor_comm (b >>> 1)]
 ·simp only [Bool.xor_self,Bool.false_eq_true,if_false,if_true,BitVec.xor_zero]
  rw [BitVec.xor_assoc,BitVec.xor_comm zn5,BitVec.xor_assoc,BitVec.xor_self,BitVec.xor_zero]
theorem zcM {a:BitVec 32} (h:a.getLsbD 0=false):zcQ a=a >>> 1:=by
 unfold zcQ;rw [h];simp
def zdN (x:BitVec 32):BitVec 32:=zcQ (zcQ (zcQ (zcQ x)))
theorem zkt {a:BitVec 32} (h0:a.getLsbD 0=false) (h1:a.getLsbD 1=false) (h2:a.getLsbD 2=false) (h3:a.getLsbD 3=false):zdN a=a >>> 4:=by
 have e1:zcQ a=a >>> 1:=zcM h0;have e2:zcQ (a >>> 1)=a >>> 1 >>> 1:=zcM (by rw [BitVec.getLsbD_ushiftRight];exact h1);have e3:zcQ (a >>> 1 >>> 1)=a >>> 1 >>> 1 >>> 1:=zcM (by rw [BitVec.getLsbD_ushiftRight,BitVec.getLsbD_ushiftRight];exact h2);have e4:zcQ (a >>> 1 >>> 1 >>> 1)=a >>> 1 >>> 1 >>> 1 >>> 1:=zcM (by rw [BitVec.getLsbD_ushiftRight,BitVec.getLsbD_ushiftRight,BitVec.getLsbD_ushiftRight];exact h3);unfold zdN;rw [e1,e2,e3,e4];apply BitVec.eq_of_getLsbD_eq;intro i hi;simp only [BitVec.getLsbD_ushiftRight];congr 1;omega
theorem zn7:∀ k:Fin 16,zdN (BitVec.ofNat 32 k.val)=(zdv.getD k.val 0).toBitVec:=by decide+kernel
theorem zmv (r:UInt32):(nib r).toBitVec=zdN r.toBitVec:=by
 have hsplit:r.toBitVec=(r.toBitVec >>> 4 <<< 4) ^^^ BitVec.ofNat 32 (r.toNat % 16):=by
  apply BitVec.eq_of_getLsbD_eq;intro i hi;simp only [BitVec.getLsbD_xor,BitVec.getLsbD_shiftLeft,BitVec.getLsbD_ushiftRight,BitVec.getLsbD_ofNat];have e:(r.toNat % 16).testBit i=(decide (i < 4) && r.toNat.testBit i):=by
   rw [show (16:Nat)=2 ^ 4 from rfl,Nat.testBit_mod_two_pow]
  rw [e]
  by_cases h4:i < 4
  ·simp [h4,hi,BitVec.getLsbD]
  ·simp [h4,hi,show 4+(i - 4)=i by omega]
 have hlt:r.toNat % 16 < 16:=by omega
 have hl:=zn7 ⟨r.toNat % 16,hlt⟩;simp only at hl;have h4:∀ j,j < 4 -> (r.toBitVec >>> 4 <<< 4).getLsbD j=false:=fun j hj=>by
  rw [BitVec.getLsbD_shiftLeft];simp [hj]
 have hx:zdN r.toBitVec=zdN (r.toBitVec >>> 4 <<< 4) ^^^ zdN (BitVec.ofNat 32 (r.toNat % 16)):=by
  conv=>lhs;rw [hsplit]
  unfold zdN;simp only [zjC]
 rw [hx,hl,zkt (h4 0 (by decide)) (h4 1 (by decide)) (h4 2 (by decide)) (h4 3 (by decide))];unfold nib;rw [UInt32.toBitVec_xor];congr 1;apply BitVec.eq_of_getLsbD_eq;intro i hi;rw [UInt32.toBitVec_shiftRight];have e4:((4:UInt32).toBitVec % 32)=4#32:=by decide
 simp only [BitVec.getLsbD_ushiftRight,BitVec.getLsbD_shiftLeft,e4,BitVec.ushiftRight_eq',BitVec.toNat_ofNat]
 by_cases h28:4+i < 32
 ·simp [h28,show ¬ 4+i < 4 by omega]
 ·simp [h28]
  exact BitVec.getLsbD_of_ge _ _ (by omega)
theorem zhL (r:UInt32):nib r=ziW (ziW (ziW (ziW r))):=by
 apply UInt32.toBitVec_inj.1;rw [zmv,zdX,zdX,zdX,zdX]
 rfl
end Scr
