import Derived.Test.YtcopgcdhkgenkaaGreatDoorW8
set_option linter.all false
set_option maxRecDepth 100000
set_option maxHeartbeats 16000000
namespace Go.Proofs.YtcopgcdhkgenkaaGreatDoor
open Go
def lasts_n0:List FuncId:=[578,577,576,519,575,518,427,517,242,241,424,418,417,416,415,83,428,361,281,378,379,303,589,594,595,652,622,593,651,643,620,592,538,644,621,590,587,619,588,586,584,585,532,531,530,439,377,414,413,412,411,328,340,426,355,354,195,425,353,352,46,351,350,349,348,347,277,265,194,130,133,85,45,276,207,206,148,52,205,204,147,19,50,146,98,145,94,96,97,59,58,57,32,56,31,12,9,5]
def lasts_f0:List FuncId:=lasts_n0.reverse
def lasts_n1:List FuncId:=[89,88,87,86,49,48,26,15,34,14,84,44,18,82,132,131,81,80,42,16,33,107,65,64,63,41,153,152,106,105,62,104,103,61,60,102,101,100,93,151,95,278,209,208,149,190,360,280,359,358,279,210,150,99,140,286,218,285,284,217,216,156,344,270,267,339,342,268,343,341,269,266,196,137,357,356]
def lasts_f1:List FuncId:=lasts_n1.reverse
def lasts_n2:List FuncId:=[449,382,387,381,306,240,307,243,169,167,115,239,238,166,237,165,114,70,38,186,185,264,193,192,336,335,334,333,516,423,422,332,421,420,331,419,330,329,262,338,337,263,191,126,184,183,182,180,181,121,120,110,68,67,283,215,214,213,282,212,211,154,109,108,66,37,36,35,13,21,79,78,77,39,51,136,135,134]
def lasts_f2:List FuncId:=lasts_n2.reverse
def lasts_n3:List FuncId:=[346,376,302,301,618,583,529,528,438,375,374,436,371,372,437,373,435,370,369,368,300,234,448,447,445,444,591,535,534,443,442,533,441,325,446,440,380,304,235,367,299,233,163,366,297,231,298,232,162,230,229,228,227,226,296,225,161,113,155,111,69,244,170,168,389,388,386,385,536,451,450,384,383]
def lasts_f3:List FuncId:=lasts_n3.reverse
def lasts_n4:List FuncId:=[409,326,260,188,259,189,258,545,257,544,469,468,466,543,465,464,396,623,596,540,454,539,453,537,452,390,308,463,462,634,633,613,612,568,567,611,610,566,565,498,403,315,461,460,394,393,311,434,433,527,526,525,292,555,582,642,641,640,639,654,650,649,638,637,648,636,635,617,581,616,580,522,515,410,524,523,432,431,364,521,551,579,520,430,429,363,288,395,312,362,287,219,318,250,177,158,157,112,305,236,164]
def lasts_f4:List FuncId:=lasts_n4.reverse
def lasts_n5:List FuncId:=[509,572,508,507,408,324,290,289,558,485,484,483,482,557,556,554,631,630,629,628,653,647,646,627,626,645,625,624,599,553,552,549,550,481,480,479,478,548,477,476,475,474,472,547,473,471,470,459,542,458,457,323,456,392,598,597,541,455,391,310,467,546,261,327]
def lasts_f5:List FuncId:=lasts_n5.reverse
def lasts_n6:List FuncId:=[249,496,495,402,494,609,632,608,607,606,564,493,497,563,492,401,400,314,491,490,489,488,487,399,398,605,604,603,602,601,562,600,561,560,559,486,397,313,248,247,246,172,116,71,173,160,295,294,224,223,222,171,221,220,159,256,365,309,245,293,291,514,513,512,511,615,574,573,510]
def lasts_f6:List FuncId:=lasts_n6.reverse
def lasts_n7:List FuncId:=[10,23,24,43,25,17,40,129,128,127,76,74,125,75,254,255,322,407,406,321,252,253,405,319,320,251,179,123,124,187,122,119,176,175,174,117,178,118,73,72,317,506,505,504,503,614,571,570,502,501,569,500,499,404,316]
def lasts_f7:List FuncId:=lasts_n7.reverse
def lasts_s0:List FuncId:=[]
def lasts_s1:List FuncId:=lasts_n0++lasts_s0
def lasts_t1:List FuncId:=[576,340,356,137,140,99,45,100,101,102,60,61,62,63,64,65,33,12,16,14,14,15,16,15,15,21,13,13,17,13,17,21,25,24,23,10,12,10,14,16,15,13,17]
def lasts_s2:List FuncId:=lasts_n1++lasts_s1
def lasts_t2:List FuncId:=[134,135,86,136,89,50,51,19,50,51,52,51,44,39,16,15,15,21,13,13,17,13,17,21,25,24,23,10,12,10,14,16,15,13,17]
def lasts_s3:List FuncId:=lasts_n2++lasts_s2
def lasts_t3:List FuncId:=[387,387,449,383,384,385,386,387,388,389,306,306,168,170,69,71,72,73,64,75,74,76,40,39,13,17,13,17,21,25,24,23,10,12,10,14,16,15,13,17]
def lasts_s4:List FuncId:=lasts_n3++lasts_s3
def lasts_t4:List FuncId:=[164,112,71,72,73,64,75,74,76,40,39,13,17,13,17,21,25,24,23,10,12,10,14,16,15,13,17]
def lasts_s5:List FuncId:=lasts_n4++lasts_s4
def lasts_t5:List FuncId:=[346,327,315,260,261,130,83,315,378,378,546,467,470,474,476,478,482,483,484,19,288,289,290,291,290,256,157,157,159,160,71,72,73,64,75,74,76,40,39,13,17,13,17,21,25,24,23,10,12,10,14,16,15,13,17]
def lasts_s6:List FuncId:=lasts_n5++lasts_s5
def lasts_t6:List FuncId:=[510,511,512,513,514,408,408,364,291,290,256,157,157,159,160,71,72,73,64,75,74,76,40,39,13,17,13,17,21,25,24,23,10,12,10,14,16,15,13,17]
def lasts_s7:List FuncId:=lasts_n6++lasts_s6
def lasts_t7:List FuncId:=[19,316,317,173,72,73,64,75,74,76,40,39,13,17,13,17,21,25,24,23,10,12,10,14,16,15,13,17]
def lasts_s8:List FuncId:=lasts_n7++lasts_s7
def lasts_t8:List FuncId:=[]
def lasts_t0:List FuncId:=[5]
theorem lasts_r0:runC Tryz.prog 150 (lasts_t0,lasts_s0)=(lasts_t1,lasts_s1):=by kernel_rfl
theorem lasts_r1:runC Tryz.prog 150 (lasts_t1,lasts_s1)=(lasts_t2,lasts_s2):=by kernel_rfl
theorem lasts_r2:runC Tryz.prog 150 (lasts_t2,lasts_s2)=(lasts_t3,lasts_s3):=by kernel_rfl
theorem lasts_r3:runC Tryz.prog 150 (lasts_t3,lasts_s3)=(lasts_t4,lasts_s4):=by kernel_rfl
theorem lasts_r4:runC Tryz.prog 150 (lasts_t4,lasts_s4)=(lasts_t5,lasts_s5):=by kernel_rfl
theorem lasts_r5:runC Tryz.prog 150 (lasts_t5,lasts_s5)=(lasts_t6,lasts_s6):=by kernel_rfl
theorem lasts_r6:runC Tryz.prog 150 (lasts_t6,lasts_s6)=(lasts_t7,lasts_s7):=by kernel_rfl
theorem lasts_r7:runC Tryz.prog 150 (lasts_t7,lasts_s7)=(lasts_t8,lasts_s8):=by kernel_rfl
theorem lasts_run:runC Tryz.prog 1200 ([5],[])=([],lasts_s8):=by
 show runC Tryz.prog (150+150+150+150+150+150+150+150) (lasts_t0,lasts_s0)=_
 rw [runC_add,runC_add,runC_add,runC_add,runC_add,runC_add,runC_add,lasts_r0,lasts_r1,lasts_r2,lasts_r3,lasts_r4,lasts_r5,lasts_r6,lasts_r7]
 rfl
theorem lasts_fuel:fuelB Tryz.prog 1200=true:=by kernel_rfl
theorem lasts_rev:lasts_s8.reverse=lasts_f0++(lasts_f1++(lasts_f2++(lasts_f3++(lasts_f4++(lasts_f5++(lasts_f6++(lasts_f7))))))):=by kernel_rfl
theorem lasts_closure:Tryz.prog.closure 5=lasts_f0++(lasts_f1++(lasts_f2++(lasts_f3++(lasts_f4++(lasts_f5++(lasts_f6++(lasts_f7))))))):=by
 have h:=closure_of Tryz.prog 5 1200 lasts_s8 lasts_run lasts_fuel
 rw [lasts_rev] at h
 exact h
noncomputable def lasts_p : FuncId -> Option String := (fun g => (Tryz.prog.funcs[g]?).bind fun fn => if fn.ours || fn.body.isNone || fn.name == "runtime.NumGoroutine" then some fn.name else none)
noncomputable def lasts_q:FuncId -> List Nat:=(fun g=>((Tryz.prog.funcs[g]?).bind (·.body)).elim [] Code.globalsNamed)
noncomputable def lasts_b:FuncId -> Option String:=(fun g=>(Tryz.prog.funcs[g]?).bind fun fn=>if fn.body.isNone then entryReads.lookup fn.name else none)
theorem lasts_ip0 : lasts_f0.filterMap lasts_p = ["internal/abi.NoEscape", "internal/bytealg.IndexByteString", "internal/bytealg.IndexString", "internal/bytealg.MakeNoZero"] := by kernel_rfl
theorem lasts_gn0:lasts_f0.flatMap lasts_q=[0,0,8,9]:=by kernel_rfl
theorem lasts_en0 : lasts_f0.filterMap lasts_b = ["internal/bytealg.MaxLen"] := by kernel_rfl
theorem lasts_ip1 : lasts_f1.filterMap lasts_p = ["internal/reflectlite.ValueOf", "(internal/reflectlite.Value).Type", "(internal/reflectlite.Value).IsNil"] := by kernel_rfl
theorem lasts_gn1:lasts_f1.flatMap lasts_q=[1]:=by kernel_rfl
theorem lasts_en1:lasts_f1.filterMap lasts_b=[]:=by kernel_rfl
theorem lasts_ip2 : lasts_f2.filterMap lasts_p = ["internal/reflectlite.TypeOf", "(internal/reflectlite.Value).Elem", "(internal/reflectlite.Value).Set"] := by kernel_rfl
theorem lasts_gn2:lasts_f2.flatMap lasts_q=[2,3,2,2]:=by kernel_rfl
theorem lasts_en2:lasts_f2.filterMap lasts_b=[]:=by kernel_rfl
theorem lasts_ip3 : lasts_f3.filterMap lasts_p = ["slices.overlaps[int]"] := by kernel_rfl
theorem lasts_gn3:lasts_f3.flatMap lasts_q=[]:=by kernel_rfl
theorem lasts_en3:lasts_f3.filterMap lasts_b=[]:=by kernel_rfl
theorem lasts_ip4 : lasts_f4.filterMap lasts_p = ["internal/bytealg.CountString"] := by kernel_rfl
theorem lasts_gn4:lasts_f4.flatMap lasts_q=[7,10,11,4,4,4]:=by kernel_rfl
theorem lasts_en4:lasts_f4.filterMap lasts_b=[]:=by kernel_rfl
theorem lasts_ip5:lasts_f5.filterMap lasts_p=[]:=by kernel_rfl
theorem lasts_gn5:lasts_f5.flatMap lasts_q=[5,6]:=by kernel_rfl
theorem lasts_en5:lasts_f5.filterMap lasts_b=[]:=by kernel_rfl
theorem lasts_ip6:lasts_f6.filterMap lasts_p=[]:=by kernel_rfl
theorem lasts_gn6:lasts_f6.flatMap lasts_q=[]:=by kernel_rfl
theorem lasts_en6:lasts_f6.filterMap lasts_b=[]:=by kernel_rfl
theorem lasts_ip7:lasts_f7.filterMap lasts_p=[]:=by kernel_rfl
theorem lasts_gn7:lasts_f7.flatMap lasts_q=[]:=by kernel_rfl
theorem lasts_en7:lasts_f7.filterMap lasts_b=[]:=by kernel_rfl
theorem lasts_inPlace:Tryz.prog.inPlace 5=Rows.networkLatestRow.inPlace:=by
 unfold Program.inPlace
 rw [lasts_closure]
 show List.filterMap lasts_p _=_
 simp only [List.filterMap_append,lasts_ip0,lasts_ip1,lasts_ip2,lasts_ip3,lasts_ip4,lasts_ip5,lasts_ip6,lasts_ip7]
 rfl
theorem lasts_k9:(Rows.networkLatestRow.inPlace==Tryz.prog.inPlace 5)=true:=by rw [lasts_inPlace];exact beq_self_eq_true _
theorem lasts_gl:(Tryz.prog.closure 5).flatMap lasts_q=[0,0,8,9,1,2,3,2,2,7,10,11,4,4,4,5,6]:=by
 rw [lasts_closure]
 simp only [List.flatMap_append,lasts_gn0,lasts_gn1,lasts_gn2,lasts_gn3,lasts_gn4,lasts_gn5,lasts_gn6,lasts_gn7]
 rfl
theorem lasts_el : (Tryz.prog.closure 5).filterMap lasts_b = ["internal/bytealg.MaxLen"] := by
 rw [lasts_closure]
 simp only [List.filterMap_append,lasts_en0,lasts_en1,lasts_en2,lasts_en3,lasts_en4,lasts_en5,lasts_en6,lasts_en7]
 rfl
theorem lasts_nl : (([0, 0, 8, 9, 1, 2, 3, 2, 2, 7, 10, 11, 4, 4, 4, 5, 6] : List Nat).eraseDups.filterMap (fun g => (Tryz.prog.globals[g]?).map (·.name)) ++ ["internal/bytealg.MaxLen"]).eraseDups = Rows.networkLatestRow.named := by kernel_rfl
theorem lasts_vars:Tryz.prog.varsNamed 5=Rows.networkLatestRow.named:=by
 unfold Program.varsNamed
 rw [show (Tryz.prog.closure 5).flatMap (fun g=>((Tryz.prog.funcs[g]?).bind (·.body)).elim [] Code.globalsNamed)=_ from lasts_gl,show (Tryz.prog.closure 5).filterMap (fun g=>(Tryz.prog.funcs[g]?).bind fun fn=>if fn.body.isNone then entryReads.lookup fn.name else none)=_ from lasts_el]
 exact lasts_nl
theorem lasts_k12:(Rows.networkLatestRow.named==Tryz.prog.varsNamed 5)=true:=by rw [lasts_vars];exact beq_self_eq_true _
theorem lasts_mem:402 ∈ Tryz.prog.closure 5:=by
 rw [lasts_closure]
 exact List.contains_iff_mem.1 (by kernel_rfl)
theorem lasts_unf:Tryz.prog.unfollowed 5=true:=List.any_eq_true.2 ⟨402,lasts_mem,by kernel_rfl⟩
theorem lasts_k10:(Rows.networkLatestRow.unfollowed==Tryz.prog.unfollowed 5)=true:=by rw [lasts_unf];rfl
theorem lasts_k11:(Rows.networkLatestRow.recurses==Tryz.prog.recurses 5)=true:=by
 unfold Program.recurses
 rw [lasts_unf]
 rfl
end Go.Proofs.YtcopgcdhkgenkaaGreatDoor
