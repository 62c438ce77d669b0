import Derived.Test.YtcopgcdhkgenkaaGreatDoorW1
set_option linter.all false
namespace Go.Proofs.YtcopgcdhkgenkaaGreatDoor
open Go
def stepC (P:Program):List FuncId × List FuncId -> List FuncId × List FuncId
 | ([],s)=>([],s)
 | (f::t,s)=>if s.contains f then (t,s) else ((P.funcs[f]?).elim [] P.leadsTo++t,f::s)
def runC (P:Program):Nat -> List FuncId × List FuncId -> List FuncId × List FuncId
 | 0,x=>x
 | n+1,x=>runC P n (stepC P x)
theorem runC_add (P:Program):∀ (a b:Nat) x,runC P (a+b) x=runC P b (runC P a x)
 | 0,b,x=>by rw [Nat.zero_add];rfl
 | a+1,b,x=>by rw [Nat.add_right_comm];exact runC_add P a b (stepC P x)
theorem runC_nil (P:Program) (s:List FuncId):∀ n,runC P n ([],s)=([],s)
 | 0=>rfl
 | n+1=>runC_nil P s n
theorem via_nil (P:Program) (s:List FuncId):∀ n,P.closureVia n [] s=s.reverse
 | 0=>rfl
 | _+1=>rfl
theorem via_run (P:Program) (m:Nat):∀ (k:Nat) (t s:List FuncId),P.closureVia (k+m) t s=P.closureVia m (runC P k (t,s)).1 (runC P k (t,s)).2
 | 0,t,s=>by rw [Nat.zero_add];rfl
 | k+1,[],s=>by rw [runC_nil,via_nil,via_nil]
 | k+1,f::t,s=>by
  have e1:P.closureVia (k+1+m) (f::t) s=if s.contains f then P.closureVia (k+m) t s else P.closureVia (k+m) ((P.funcs[f]?).elim [] P.leadsTo++t) (f::s):=by rw [Nat.add_right_comm];rfl
  have e2:runC P (k+1) (f::t,s)=runC P k (if s.contains f then (t,s) else ((P.funcs[f]?).elim [] P.leadsTo++t,f::s)):=rfl
  rw [e1,e2]
  split
  ·exact via_run P m k t s
  ·exact via_run P m k _ (f::s)
def fuelB (P:Program) (K:Nat):Bool:=Nat.ble K (1+(P.funcs.toList.map fun g=>(P.leadsTo g).length+1).sum)
theorem closure_of (P:Program) (f:FuncId) (K:Nat) (s:List FuncId) (h:runC P K ([f],[])=([],s)) (hk:fuelB P K=true):P.closure f=s.reverse:=by
 unfold Program.closure
 unfold fuelB at hk
 generalize 1+(P.funcs.toList.map fun g=>(P.leadsTo g).length+1).sum=N at hk
 obtain ⟨m,rfl⟩:=Nat.exists_eq_add_of_le (Nat.le_of_ble_eq_true hk)
 rw [via_run,h]
 exact via_nil P s m
end Go.Proofs.YtcopgcdhkgenkaaGreatDoor
