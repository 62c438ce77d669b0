import Derived.Test.YtjjfphalcibjfaaGreatDoorF8
import Derived.Test.YtjjfphalcibjfaaGreatDoorF11
import Derived.Test.YtjjfphalcibjfaaGreatDoorH7
set_option maxRecDepth 100000
set_option maxHeartbeats 16000000
namespace Go.Proofs.YtjjfphalcibjfaaGreatDoor
open Go.Shelf Go.RowKit Cdk Scr
theorem AcSz.short {a:Ac} (h:AcSz a):AcSz (shA a):=⟨h.fc.short,by have:=h.tx;have:(shA a).tx.length<=a.tx.length:=List.length_take_le' _ _;omega,by have:=h.da;have:(shA a).ms.da.length<=a.ms.da.length:=List.length_take_le' _ _;omega⟩
theorem ziE (l:List Ac) (ao:Option Addr) (cap:Nat) (w:World) (hG:Gl w) (h:zbK (fun k=>k < w.heap.size) w (.slice ao l.length cap) l) (hb:∀ a ∈ l,AcSz a/\a.tx.length < 4611686018427387904/\a.ms.da.length < 4611686018427387904):
  Calls Tryz.prog 4 #[.slice ao l.length cap] w fun e w'=>e=.returned (.bool true)/\Ext w w':=by
 have hsn:=hid (zhT w hG);replace hG:=hid hG;have hsh:=hid (fun W (hX:Ext w W)=>ziv (.slice ao l.length cap) l W ((h.ext hX).mono (fun k hk=>by have:=hX.size;omega)) (fun a ha=>⟨(hb a ha).2.1,(hb a ha).2.2⟩));have hsz:∀ a ∈ (l.take 105).map shA,AcSz a:=fun a ha=>by
  obtain ⟨b,hb2,rfl⟩:=List.mem_map.1 ha;exact (hb b (List.mem_of_mem_take hb2)).1.short
 replace h:=hid h;generalize (l.take 105).map shA=L at hsh hsz;replace hsz:=hid hsz;go_enter Tryz.func4,Tryz.ntmps4;go_wp2_with fail
 refine hsn.out.mono ?_;rintro e w1 ⟨rfl,hx⟩;have hx01:=hid hx;clear hsn hx;go_wp2_with fail
 refine (hsh.out _ hx01.out).mono ?_;rintro e w2 ⟨ao2,cap2,rfl,hA,hx⟩;have hx02:=hid (hx01.out.trans hx);have hpr:=hid (print_any _ L w2 (hG.out.ext hx02.out) hA);have hrp:=hid (fun W (hX:Ext w2 W)=>zh4 _ L W ((hA.ext hX).mono (fun k hk=>by have:=hX.size;omega)) hsz.out);clear hx hA hsh hx01;go_wp2_with fail
 refine hpr.out.mono ?_;rintro e w3 ⟨hr,hx⟩;have hx03:=hid (hx02.out.trans hx);have hrp3:=hid (hrp.out w3 hx);obtain ⟨S,f,rfl,hpL⟩:=zdS hr;replace hpL:=hid hpL;clear hx hr hrp hpr hx02;go_wp2_with fail
 refine hrp3.out.mono ?_;rintro e w4 ⟨hr,hx⟩;have hx04:=hid (hx03.out.trans hx);obtain ⟨S2,f2,rfl,hpL2⟩:=zdS hr;have hSS:S2=S/\f2=f:=by
  rcases hpL.out with ⟨rfl,s,h1,rfl⟩ | ⟨rfl,h1,rfl⟩ <;> rcases hpL2 with ⟨rfl,s2,h2,rfl⟩ | ⟨rfl,h2,rfl⟩
  ·rw [h1] at h2;injection h2 with h2;subst h2;exact ⟨rfl,rfl⟩
  ·rw [h1] at h2;cases h2
  ·rw [h1] at h2;cases h2
  ·exact ⟨rfl,rfl⟩
 obtain ⟨rfl,rfl⟩:=hSS;have e1:(S2.toList==S2.toList)=true:=by simp
 have e2:(f2==f2)=true:=by simp
 clear hx hr hrp3 hpL hpL2 hx03;go_wp2_with fail
 go_ret;exact ⟨by simp,hx04.out⟩
end Go.Proofs.YtjjfphalcibjfaaGreatDoor
