import Derived.Test.YtcopgcdhkgenkaaGreatDoorW8
set_option linter.all false
set_option maxRecDepth 100000
set_option maxHeartbeats 16000000
namespace Go.Proofs.YtcopgcdhkgenkaaGreatDoor
open Go
def refusals_n0:List FuncId:=[578,577,576,519,575,518,427,517,242,241,424,418,417,416,415,83,428,361,281,378,379,303,589,594,595,652,622,593,651,643,620,592,538,644,621,590,587,619,588,586,584,585,532,531,530,439,377,414,413,412,411,328,340,426,355,354,195,425,353,352,46,351,350,349,348,347,277,265,194,130,133,85,45,276,207,206,148,52,205,204,147,19,50,146,98,145,94,96,97,59,58,57,32,56,31,12,9,8]
def refusals_f0:List FuncId:=refusals_n0.reverse
def refusals_n1:List FuncId:=[89,88,87,86,49,48,26,15,34,14,84,44,18,82,132,131,81,80,42,16,33,107,65,64,63,41,153,152,106,105,62,104,103,61,60,102,101,100,93,151,95,278,209,208,149,190,360,280,359,358,279,210,150,99,140,286,218,285,284,217,216,156,344,270,267,339,342,268,343,341,269,266,196,137,357,356]
def refusals_f1:List FuncId:=refusals_n1.reverse
def refusals_n2:List FuncId:=[449,382,387,381,306,240,307,243,169,167,115,239,238,166,237,165,114,70,38,186,185,264,193,192,336,335,334,333,516,423,422,332,421,420,331,419,330,329,262,338,337,263,191,126,184,183,182,180,181,121,120,110,68,67,283,215,214,213,282,212,211,154,109,108,66,37,36,35,13,21,79,78,77,39,51,136,135,134]
def refusals_f2:List FuncId:=refusals_n2.reverse
def refusals_n3:List FuncId:=[346,376,302,301,618,583,529,528,438,375,374,436,371,372,437,373,435,370,369,368,300,234,448,447,445,444,591,535,534,443,442,533,441,325,446,440,380,304,235,367,299,233,163,366,297,231,298,232,162,230,229,228,227,226,296,225,161,113,155,111,69,244,170,168,389,388,386,385,536,451,450,384,383]
def refusals_f3:List FuncId:=refusals_n3.reverse
def refusals_n4:List FuncId:=[409,326,260,188,259,189,258,545,257,544,469,468,466,543,465,464,396,623,596,540,454,539,453,537,452,390,308,463,462,634,633,613,612,568,567,611,610,566,565,498,403,315,461,460,394,393,311,434,433,527,526,525,292,555,582,642,641,640,639,654,650,649,638,637,648,636,635,617,581,616,580,522,515,410,524,523,432,431,364,521,551,579,520,430,429,363,288,395,312,362,287,219,318,250,177,158,157,112,305,236,164]
def refusals_f4:List FuncId:=refusals_n4.reverse
def refusals_n5:List FuncId:=[509,572,508,507,408,324,290,289,558,485,484,483,482,557,556,554,631,630,629,628,653,647,646,627,626,645,625,624,599,553,552,549,550,481,480,479,478,548,477,476,475,474,472,547,473,471,470,459,542,458,457,323,456,392,598,597,541,455,391,310,467,546,261,327]
def refusals_f5:List FuncId:=refusals_n5.reverse
def refusals_n6:List FuncId:=[249,496,495,402,494,609,632,608,607,606,564,493,497,563,492,401,400,314,491,490,489,488,487,399,398,605,604,603,602,601,562,600,561,560,559,486,397,313,248,247,246,172,116,71,173,160,295,294,224,223,222,171,221,220,159,256,365,309,245,293,291,514,513,512,511,615,574,573,510]
def refusals_f6:List FuncId:=refusals_n6.reverse
def refusals_n7:List FuncId:=[203,141,91,202,274,275,345,273,201,200,272,199,139,271,197,198,138,90,53,27,11,23,24,43,25,17,40,129,128,127,76,74,125,75,254,255,322,407,406,321,252,253,405,319,320,251,179,123,124,187,122,119,176,175,174,117,178,118,73,72,317,506,505,504,503,614,571,570,502,501,569,500,499,404,316]
def refusals_f7:List FuncId:=refusals_n7.reverse
def refusals_n8:List FuncId:=[55,30,54,29,28,47,22,144,143,92,142]
def refusals_f8:List FuncId:=refusals_n8.reverse
def refusals_s0:List FuncId:=[]
def refusals_s1:List FuncId:=refusals_n0++refusals_s0
def refusals_t1:List FuncId:=[576,340,356,137,140,99,45,100,101,102,60,61,62,63,64,65,33,12,16,14,14,15,16,15,15,21,13,13,17,13,17,21,25,24,23,11,12,25,14,26,15,27,25,22,28,23,24,21,14,13,29,30,15]
def refusals_s2:List FuncId:=refusals_n1++refusals_s1
def refusals_t2:List FuncId:=[134,135,86,136,89,50,51,19,50,51,52,51,44,39,16,15,15,21,13,13,17,13,17,21,25,24,23,11,12,25,14,26,15,27,25,22,28,23,24,21,14,13,29,30,15]
def refusals_s3:List FuncId:=refusals_n2++refusals_s2
def refusals_t3:List FuncId:=[387,387,449,383,384,385,386,387,388,389,306,306,168,170,69,71,72,73,64,75,74,76,40,39,13,17,13,17,21,25,24,23,11,12,25,14,26,15,27,25,22,28,23,24,21,14,13,29,30,15]
def refusals_s4:List FuncId:=refusals_n3++refusals_s3
def refusals_t4:List FuncId:=[164,112,71,72,73,64,75,74,76,40,39,13,17,13,17,21,25,24,23,11,12,25,14,26,15,27,25,22,28,23,24,21,14,13,29,30,15]
def refusals_s5:List FuncId:=refusals_n4++refusals_s4
def refusals_t5:List FuncId:=[346,327,315,260,261,130,83,315,378,378,546,467,470,474,476,478,482,483,484,19,288,289,290,291,290,256,157,157,159,160,71,72,73,64,75,74,76,40,39,13,17,13,17,21,25,24,23,11,12,25,14,26,15,27,25,22,28,23,24,21,14,13,29,30,15]
def refusals_s6:List FuncId:=refusals_n5++refusals_s5
def refusals_t6:List FuncId:=[510,511,512,513,514,408,408,364,291,290,256,157,157,159,160,71,72,73,64,75,74,76,40,39,13,17,13,17,21,25,24,23,11,12,25,14,26,15,27,25,22,28,23,24,21,14,13,29,30,15]
def refusals_s7:List FuncId:=refusals_n6++refusals_s6
def refusals_t7:List FuncId:=[19,316,317,173,72,73,64,75,74,76,40,39,13,17,13,17,21,25,24,23,11,12,25,14,26,15,27,25,22,28,23,24,21,14,13,29,30,15]
def refusals_s8:List FuncId:=refusals_n7++refusals_s7
def refusals_t8:List FuncId:=[100,142,97,101,102,106,65,92,25,22,28,23,24,21,14,13,29,30,15]
def refusals_s9:List FuncId:=refusals_n8++refusals_s8
def refusals_t9:List FuncId:=[]
def refusals_t0:List FuncId:=[8]
theorem refusals_r0:runC Tryz.prog 150 (refusals_t0,refusals_s0)=(refusals_t1,refusals_s1):=by kernel_rfl
theorem refusals_r1:runC Tryz.prog 150 (refusals_t1,refusals_s1)=(refusals_t2,refusals_s2):=by kernel_rfl
theorem refusals_r2:runC Tryz.prog 150 (refusals_t2,refusals_s2)=(refusals_t3,refusals_s3):=by kernel_rfl
theorem refusals_r3:runC Tryz.prog 150 (refusals_t3,refusals_s3)=(refusals_t4,refusals_s4):=by kernel_rfl
theorem refusals_r4:runC Tryz.prog 150 (refusals_t4,refusals_s4)=(refusals_t5,refusals_s5):=by kernel_rfl
theorem refusals_r5:runC Tryz.prog 150 (refusals_t5,refusals_s5)=(refusals_t6,refusals_s6):=by kernel_rfl
theorem refusals_r6:runC Tryz.prog 150 (refusals_t6,refusals_s6)=(refusals_t7,refusals_s7):=by kernel_rfl
theorem refusals_r7:runC Tryz.prog 150 (refusals_t7,refusals_s7)=(refusals_t8,refusals_s8):=by kernel_rfl
theorem refusals_r8:runC Tryz.prog 150 (refusals_t8,refusals_s8)=(refusals_t9,refusals_s9):=by kernel_rfl
theorem refusals_run:runC Tryz.prog 1350 ([8],[])=([],refusals_s9):=by
 show runC Tryz.prog (150+150+150+150+150+150+150+150+150) (refusals_t0,refusals_s0)=_
 rw [runC_add,runC_add,runC_add,runC_add,runC_add,runC_add,runC_add,runC_add,refusals_r0,refusals_r1,refusals_r2,refusals_r3,refusals_r4,refusals_r5,refusals_r6,refusals_r7,refusals_r8]
 rfl
theorem refusals_fuel:fuelB Tryz.prog 1350=true:=by kernel_rfl
theorem refusals_rev:refusals_s9.reverse=refusals_f0++(refusals_f1++(refusals_f2++(refusals_f3++(refusals_f4++(refusals_f5++(refusals_f6++(refusals_f7++(refusals_f8)))))))):=by kernel_rfl
theorem refusals_closure:Tryz.prog.closure 8=refusals_f0++(refusals_f1++(refusals_f2++(refusals_f3++(refusals_f4++(refusals_f5++(refusals_f6++(refusals_f7++(refusals_f8)))))))):=by
 have h:=closure_of Tryz.prog 8 1350 refusals_s9 refusals_run refusals_fuel
 rw [refusals_rev] at h
 exact h
noncomputable def refusals_p : FuncId -> Option String := (fun g => (Tryz.prog.funcs[g]?).bind fun fn => if fn.ours || fn.body.isNone || fn.name == "runtime.NumGoroutine" then some fn.name else none)
noncomputable def refusals_q:FuncId -> List Nat:=(fun g=>((Tryz.prog.funcs[g]?).bind (·.body)).elim [] Code.globalsNamed)
noncomputable def refusals_b:FuncId -> Option String:=(fun g=>(Tryz.prog.funcs[g]?).bind fun fn=>if fn.body.isNone then entryReads.lookup fn.name else none)
theorem refusals_ip0 : refusals_f0.filterMap refusals_p = ["internal/abi.NoEscape", "internal/bytealg.IndexByteString", "internal/bytealg.IndexString", "internal/bytealg.MakeNoZero"] := by kernel_rfl
theorem refusals_gn0:refusals_f0.flatMap refusals_q=[0,0,8,9]:=by kernel_rfl
theorem refusals_en0 : refusals_f0.filterMap refusals_b = ["internal/bytealg.MaxLen"] := by kernel_rfl
theorem refusals_ip1 : refusals_f1.filterMap refusals_p = ["internal/reflectlite.ValueOf", "(internal/reflectlite.Value).Type", "(internal/reflectlite.Value).IsNil"] := by kernel_rfl
theorem refusals_gn1:refusals_f1.flatMap refusals_q=[1]:=by kernel_rfl
theorem refusals_en1:refusals_f1.filterMap refusals_b=[]:=by kernel_rfl
theorem refusals_ip2 : refusals_f2.filterMap refusals_p = ["internal/reflectlite.TypeOf", "(internal/reflectlite.Value).Elem", "(internal/reflectlite.Value).Set"] := by kernel_rfl
theorem refusals_gn2:refusals_f2.flatMap refusals_q=[2,3,2,2]:=by kernel_rfl
theorem refusals_en2:refusals_f2.filterMap refusals_b=[]:=by kernel_rfl
theorem refusals_ip3 : refusals_f3.filterMap refusals_p = ["slices.overlaps[int]"] := by kernel_rfl
theorem refusals_gn3:refusals_f3.flatMap refusals_q=[]:=by kernel_rfl
theorem refusals_en3:refusals_f3.filterMap refusals_b=[]:=by kernel_rfl
theorem refusals_ip4 : refusals_f4.filterMap refusals_p = ["internal/bytealg.CountString"] := by kernel_rfl
theorem refusals_gn4:refusals_f4.flatMap refusals_q=[7,10,11,4,4,4]:=by kernel_rfl
theorem refusals_en4:refusals_f4.filterMap refusals_b=[]:=by kernel_rfl
theorem refusals_ip5:refusals_f5.filterMap refusals_p=[]:=by kernel_rfl
theorem refusals_gn5:refusals_f5.flatMap refusals_q=[5,6]:=by kernel_rfl
theorem refusals_en5:refusals_f5.filterMap refusals_b=[]:=by kernel_rfl
theorem refusals_ip6:refusals_f6.filterMap refusals_p=[]:=by kernel_rfl
theorem refusals_gn6:refusals_f6.flatMap refusals_q=[]:=by kernel_rfl
theorem refusals_en6:refusals_f6.filterMap refusals_b=[]:=by kernel_rfl
theorem refusals_ip7:refusals_f7.filterMap refusals_p=[]:=by kernel_rfl
theorem refusals_gn7:refusals_f7.flatMap refusals_q=[]:=by kernel_rfl
theorem refusals_en7:refusals_f7.filterMap refusals_b=[]:=by kernel_rfl
theorem refusals_ip8:refusals_f8.filterMap refusals_p=[]:=by kernel_rfl
theorem refusals_gn8:refusals_f8.flatMap refusals_q=[]:=by kernel_rfl
theorem refusals_en8:refusals_f8.filterMap refusals_b=[]:=by kernel_rfl
theorem refusals_inPlace:Tryz.prog.inPlace 8=Rows.networkRefusesRow.inPlace:=by
 unfold Program.inPlace
 rw [refusals_closure]
 show List.filterMap refusals_p _=_
 simp only [List.filterMap_append,refusals_ip0,refusals_ip1,refusals_ip2,refusals_ip3,refusals_ip4,refusals_ip5,refusals_ip6,refusals_ip7,refusals_ip8]
 rfl
theorem refusals_k9:(Rows.networkRefusesRow.inPlace==Tryz.prog.inPlace 8)=true:=by rw [refusals_inPlace];exact beq_self_eq_true _
theorem refusals_gl:(Tryz.prog.closure 8).flatMap refusals_q=[0,0,8,9,1,2,3,2,2,7,10,11,4,4,4,5,6]:=by
 rw [refusals_closure]
 simp only [List.flatMap_append,refusals_gn0,refusals_gn1,refusals_gn2,refusals_gn3,refusals_gn4,refusals_gn5,refusals_gn6,refusals_gn7,refusals_gn8]
 rfl
theorem refusals_el : (Tryz.prog.closure 8).filterMap refusals_b = ["internal/bytealg.MaxLen"] := by
 rw [refusals_closure]
 simp only [List.filterMap_append,refusals_en0,refusals_en1,refusals_en2,refusals_en3,refusals_en4,refusals_en5,refusals_en6,refusals_en7,refusals_en8]
 rfl
theorem refusals_nl : (([0, 0, 8, 9, 1, 2, 3, 2, 2, 7, 10, 11, 4, 4, 4, 5, 6] : List Nat).eraseDups.filterMap (fun g => (Tryz.prog.globals[g]?).map (·.name)) ++ ["internal/bytealg.MaxLen"]).eraseDups = Rows.networkRefusesRow.named := by kernel_rfl
theorem refusals_vars:Tryz.prog.varsNamed 8=Rows.networkRefusesRow.named:=by
 unfold Program.varsNamed
 rw [show (Tryz.prog.closure 8).flatMap (fun g=>((Tryz.prog.funcs[g]?).bind (·.body)).elim [] Code.globalsNamed)=_ from refusals_gl,show (Tryz.prog.closure 8).filterMap (fun g=>(Tryz.prog.funcs[g]?).bind fun fn=>if fn.body.isNone then entryReads.lookup fn.name else none)=_ from refusals_el]
 exact refusals_nl
theorem refusals_k12:(Rows.networkRefusesRow.named==Tryz.prog.varsNamed 8)=true:=by rw [refusals_vars];exact beq_self_eq_true _
theorem refusals_mem:402 ∈ Tryz.prog.closure 8:=by
 rw [refusals_closure]
 exact List.contains_iff_mem.1 (by kernel_rfl)
theorem refusals_unf:Tryz.prog.unfollowed 8=true:=List.any_eq_true.2 ⟨402,refusals_mem,by kernel_rfl⟩
theorem refusals_k10:(Rows.networkRefusesRow.unfollowed==Tryz.prog.unfollowed 8)=true:=by rw [refusals_unf];rfl
theorem refusals_k11:(Rows.networkRefusesRow.recurses==Tryz.prog.recurses 8)=true:=by
 unfold Program.recurses
 rw [refusals_unf]
 rfl
end Go.Proofs.YtcopgcdhkgenkaaGreatDoor
