import Derived.Test.YtcopgcdhkgenkaaGreatDoorW8
set_option linter.all false
set_option maxRecDepth 100000
set_option maxHeartbeats 16000000
namespace Go.Proofs.YtcopgcdhkgenkaaGreatDoor
open Go
def replies_n0:List FuncId:=[578,577,576,519,575,518,427,517,242,241,424,418,417,416,415,83,428,361,281,378,379,303,589,594,595,652,622,593,651,643,620,592,538,644,621,590,587,619,588,586,584,585,532,531,530,439,377,414,413,412,411,328,340,426,355,354,195,425,353,352,46,351,350,349,348,347,277,265,194,130,133,85,45,276,207,206,148,52,205,204,147,19,50,146,98,145,94,96,97,59,58,57,32,56,31,12,9,6]
def replies_f0:List FuncId:=replies_n0.reverse
def replies_n1:List FuncId:=[89,88,87,86,49,48,26,15,34,14,84,44,18,82,132,131,81,80,42,16,33,107,65,64,63,41,153,152,106,105,62,104,103,61,60,102,101,100,93,151,95,278,209,208,149,190,360,280,359,358,279,210,150,99,140,286,218,285,284,217,216,156,344,270,267,339,342,268,343,341,269,266,196,137,357,356]
def replies_f1:List FuncId:=replies_n1.reverse
def replies_n2:List FuncId:=[449,382,387,381,306,240,307,243,169,167,115,239,238,166,237,165,114,70,38,186,185,264,193,192,336,335,334,333,516,423,422,332,421,420,331,419,330,329,262,338,337,263,191,126,184,183,182,180,181,121,120,110,68,67,283,215,214,213,282,212,211,154,109,108,66,37,36,35,13,21,79,78,77,39,51,136,135,134]
def replies_f2:List FuncId:=replies_n2.reverse
def replies_n3:List FuncId:=[346,376,302,301,618,583,529,528,438,375,374,436,371,372,437,373,435,370,369,368,300,234,448,447,445,444,591,535,534,443,442,533,441,325,446,440,380,304,235,367,299,233,163,366,297,231,298,232,162,230,229,228,227,226,296,225,161,113,155,111,69,244,170,168,389,388,386,385,536,451,450,384,383]
def replies_f3:List FuncId:=replies_n3.reverse
def replies_n4:List FuncId:=[409,326,260,188,259,189,258,545,257,544,469,468,466,543,465,464,396,623,596,540,454,539,453,537,452,390,308,463,462,634,633,613,612,568,567,611,610,566,565,498,403,315,461,460,394,393,311,434,433,527,526,525,292,555,582,642,641,640,639,654,650,649,638,637,648,636,635,617,581,616,580,522,515,410,524,523,432,431,364,521,551,579,520,430,429,363,288,395,312,362,287,219,318,250,177,158,157,112,305,236,164]
def replies_f4:List FuncId:=replies_n4.reverse
def replies_n5:List FuncId:=[509,572,508,507,408,324,290,289,558,485,484,483,482,557,556,554,631,630,629,628,653,647,646,627,626,645,625,624,599,553,552,549,550,481,480,479,478,548,477,476,475,474,472,547,473,471,470,459,542,458,457,323,456,392,598,597,541,455,391,310,467,546,261,327]
def replies_f5:List FuncId:=replies_n5.reverse
def replies_n6:List FuncId:=[249,496,495,402,494,609,632,608,607,606,564,493,497,563,492,401,400,314,491,490,489,488,487,399,398,605,604,603,602,601,562,600,561,560,559,486,397,313,248,247,246,172,116,71,173,160,295,294,224,223,222,171,221,220,159,256,365,309,245,293,291,514,513,512,511,615,574,573,510]
def replies_f6:List FuncId:=replies_n6.reverse
def replies_n7:List FuncId:=[20,10,23,24,43,25,17,40,129,128,127,76,74,125,75,254,255,322,407,406,321,252,253,405,319,320,251,179,123,124,187,122,119,176,175,174,117,178,118,73,72,317,506,505,504,503,614,571,570,502,501,569,500,499,404,316]
def replies_f7:List FuncId:=replies_n7.reverse
def replies_s0:List FuncId:=[]
def replies_s1:List FuncId:=replies_n0++replies_s0
def replies_t1:List FuncId:=[576,340,356,137,140,99,45,100,101,102,60,61,62,63,64,65,33,12,16,14,14,15,16,15,15,21,13,13,17,13,17,21,25,24,23,10,12,10,16,15,19,18,13,21,20,13,21]
def replies_s2:List FuncId:=replies_n1++replies_s1
def replies_t2:List FuncId:=[134,135,86,136,89,50,51,19,50,51,52,51,44,39,16,15,15,21,13,13,17,13,17,21,25,24,23,10,12,10,16,15,19,18,13,21,20,13,21]
def replies_s3:List FuncId:=replies_n2++replies_s2
def replies_t3:List FuncId:=[387,387,449,383,384,385,386,387,388,389,306,306,168,170,69,71,72,73,64,75,74,76,40,39,13,17,13,17,21,25,24,23,10,12,10,16,15,19,18,13,21,20,13,21]
def replies_s4:List FuncId:=replies_n3++replies_s3
def replies_t4:List FuncId:=[164,112,71,72,73,64,75,74,76,40,39,13,17,13,17,21,25,24,23,10,12,10,16,15,19,18,13,21,20,13,21]
def replies_s5:List FuncId:=replies_n4++replies_s4
def replies_t5:List FuncId:=[346,327,315,260,261,130,83,315,378,378,546,467,470,474,476,478,482,483,484,19,288,289,290,291,290,256,157,157,159,160,71,72,73,64,75,74,76,40,39,13,17,13,17,21,25,24,23,10,12,10,16,15,19,18,13,21,20,13,21]
def replies_s6:List FuncId:=replies_n5++replies_s5
def replies_t6:List FuncId:=[510,511,512,513,514,408,408,364,291,290,256,157,157,159,160,71,72,73,64,75,74,76,40,39,13,17,13,17,21,25,24,23,10,12,10,16,15,19,18,13,21,20,13,21]
def replies_s7:List FuncId:=replies_n6++replies_s6
def replies_t7:List FuncId:=[19,316,317,173,72,73,64,75,74,76,40,39,13,17,13,17,21,25,24,23,10,12,10,16,15,19,18,13,21,20,13,21]
def replies_s8:List FuncId:=replies_n7++replies_s7
def replies_t8:List FuncId:=[]
def replies_t0:List FuncId:=[6]
theorem replies_r0:runC Tryz.prog 150 (replies_t0,replies_s0)=(replies_t1,replies_s1):=by kernel_rfl
theorem replies_r1:runC Tryz.prog 150 (replies_t1,replies_s1)=(replies_t2,replies_s2):=by kernel_rfl
theorem replies_r2:runC Tryz.prog 150 (replies_t2,replies_s2)=(replies_t3,replies_s3):=by kernel_rfl
theorem replies_r3:runC Tryz.prog 150 (replies_t3,replies_s3)=(replies_t4,replies_s4):=by kernel_rfl
theorem replies_r4:runC Tryz.prog 150 (replies_t4,replies_s4)=(replies_t5,replies_s5):=by kernel_rfl
theorem replies_r5:runC Tryz.prog 150 (replies_t5,replies_s5)=(replies_t6,replies_s6):=by kernel_rfl
theorem replies_r6:runC Tryz.prog 150 (replies_t6,replies_s6)=(replies_t7,replies_s7):=by kernel_rfl
theorem replies_r7:runC Tryz.prog 150 (replies_t7,replies_s7)=(replies_t8,replies_s8):=by kernel_rfl
theorem replies_run:runC Tryz.prog 1200 ([6],[])=([],replies_s8):=by
 show runC Tryz.prog (150+150+150+150+150+150+150+150) (replies_t0,replies_s0)=_
 rw [runC_add,runC_add,runC_add,runC_add,runC_add,runC_add,runC_add,replies_r0,replies_r1,replies_r2,replies_r3,replies_r4,replies_r5,replies_r6,replies_r7]
 rfl
theorem replies_fuel:fuelB Tryz.prog 1200=true:=by kernel_rfl
theorem replies_rev:replies_s8.reverse=replies_f0++(replies_f1++(replies_f2++(replies_f3++(replies_f4++(replies_f5++(replies_f6++(replies_f7))))))):=by kernel_rfl
theorem replies_closure:Tryz.prog.closure 6=replies_f0++(replies_f1++(replies_f2++(replies_f3++(replies_f4++(replies_f5++(replies_f6++(replies_f7))))))):=by
 have h:=closure_of Tryz.prog 6 1200 replies_s8 replies_run replies_fuel
 rw [replies_rev] at h
 exact h
noncomputable def replies_p : FuncId -> Option String := (fun g => (Tryz.prog.funcs[g]?).bind fun fn => if fn.ours || fn.body.isNone || fn.name == "runtime.NumGoroutine" then some fn.name else none)
noncomputable def replies_q:FuncId -> List Nat:=(fun g=>((Tryz.prog.funcs[g]?).bind (·.body)).elim [] Code.globalsNamed)
noncomputable def replies_b:FuncId -> Option String:=(fun g=>(Tryz.prog.funcs[g]?).bind fun fn=>if fn.body.isNone then entryReads.lookup fn.name else none)
theorem replies_ip0 : replies_f0.filterMap replies_p = ["internal/abi.NoEscape", "internal/bytealg.IndexByteString", "internal/bytealg.IndexString", "internal/bytealg.MakeNoZero"] := by kernel_rfl
theorem replies_gn0:replies_f0.flatMap replies_q=[0,0,8,9]:=by kernel_rfl
theorem replies_en0 : replies_f0.filterMap replies_b = ["internal/bytealg.MaxLen"] := by kernel_rfl
theorem replies_ip1 : replies_f1.filterMap replies_p = ["internal/reflectlite.ValueOf", "(internal/reflectlite.Value).Type", "(internal/reflectlite.Value).IsNil"] := by kernel_rfl
theorem replies_gn1:replies_f1.flatMap replies_q=[1]:=by kernel_rfl
theorem replies_en1:replies_f1.filterMap replies_b=[]:=by kernel_rfl
theorem replies_ip2 : replies_f2.filterMap replies_p = ["internal/reflectlite.TypeOf", "(internal/reflectlite.Value).Elem", "(internal/reflectlite.Value).Set"] := by kernel_rfl
theorem replies_gn2:replies_f2.flatMap replies_q=[2,3,2,2]:=by kernel_rfl
theorem replies_en2:replies_f2.filterMap replies_b=[]:=by kernel_rfl
theorem replies_ip3 : replies_f3.filterMap replies_p = ["slices.overlaps[int]"] := by kernel_rfl
theorem replies_gn3:replies_f3.flatMap replies_q=[]:=by kernel_rfl
theorem replies_en3:replies_f3.filterMap replies_b=[]:=by kernel_rfl
theorem replies_ip4 : replies_f4.filterMap replies_p = ["internal/bytealg.CountString"] := by kernel_rfl
theorem replies_gn4:replies_f4.flatMap replies_q=[7,10,11,4,4,4]:=by kernel_rfl
theorem replies_en4:replies_f4.filterMap replies_b=[]:=by kernel_rfl
theorem replies_ip5:replies_f5.filterMap replies_p=[]:=by kernel_rfl
theorem replies_gn5:replies_f5.flatMap replies_q=[5,6]:=by kernel_rfl
theorem replies_en5:replies_f5.filterMap replies_b=[]:=by kernel_rfl
theorem replies_ip6:replies_f6.filterMap replies_p=[]:=by kernel_rfl
theorem replies_gn6:replies_f6.flatMap replies_q=[]:=by kernel_rfl
theorem replies_en6:replies_f6.filterMap replies_b=[]:=by kernel_rfl
theorem replies_ip7:replies_f7.filterMap replies_p=[]:=by kernel_rfl
theorem replies_gn7:replies_f7.flatMap replies_q=[]:=by kernel_rfl
theorem replies_en7:replies_f7.filterMap replies_b=[]:=by kernel_rfl
theorem replies_inPlace:Tryz.prog.inPlace 6=Rows.networkAnswersRow.inPlace:=by
 unfold Program.inPlace
 rw [replies_closure]
 show List.filterMap replies_p _=_
 simp only [List.filterMap_append,replies_ip0,replies_ip1,replies_ip2,replies_ip3,replies_ip4,replies_ip5,replies_ip6,replies_ip7]
 rfl
theorem replies_k9:(Rows.networkAnswersRow.inPlace==Tryz.prog.inPlace 6)=true:=by rw [replies_inPlace];exact beq_self_eq_true _
theorem replies_gl:(Tryz.prog.closure 6).flatMap replies_q=[0,0,8,9,1,2,3,2,2,7,10,11,4,4,4,5,6]:=by
 rw [replies_closure]
 simp only [List.flatMap_append,replies_gn0,replies_gn1,replies_gn2,replies_gn3,replies_gn4,replies_gn5,replies_gn6,replies_gn7]
 rfl
theorem replies_el : (Tryz.prog.closure 6).filterMap replies_b = ["internal/bytealg.MaxLen"] := by
 rw [replies_closure]
 simp only [List.filterMap_append,replies_en0,replies_en1,replies_en2,replies_en3,replies_en4,replies_en5,replies_en6,replies_en7]
 rfl
theorem replies_nl : (([0, 0, 8, 9, 1, 2, 3, 2, 2, 7, 10, 11, 4, 4, 4, 5, 6] : List Nat).eraseDups.filterMap (fun g => (Tryz.prog.globals[g]?).map (·.name)) ++ ["internal/bytealg.MaxLen"]).eraseDups = Rows.networkAnswersRow.named := by kernel_rfl
theorem replies_vars:Tryz.prog.varsNamed 6=Rows.networkAnswersRow.named:=by
 unfold Program.varsNamed
 rw [show (Tryz.prog.closure 6).flatMap (fun g=>((Tryz.prog.funcs[g]?).bind (·.body)).elim [] Code.globalsNamed)=_ from replies_gl,show (Tryz.prog.closure 6).filterMap (fun g=>(Tryz.prog.funcs[g]?).bind fun fn=>if fn.body.isNone then entryReads.lookup fn.name else none)=_ from replies_el]
 exact replies_nl
theorem replies_k12:(Rows.networkAnswersRow.named==Tryz.prog.varsNamed 6)=true:=by rw [replies_vars];exact beq_self_eq_true _
theorem replies_mem:402 ∈ Tryz.prog.closure 6:=by
 rw [replies_closure]
 exact List.contains_iff_mem.1 (by kernel_rfl)
theorem replies_unf:Tryz.prog.unfollowed 6=true:=List.any_eq_true.2 ⟨402,replies_mem,by kernel_rfl⟩
theorem replies_k10:(Rows.networkAnswersRow.unfollowed==Tryz.prog.unfollowed 6)=true:=by rw [replies_unf];rfl
theorem replies_k11:(Rows.networkAnswersRow.recurses==Tryz.prog.recurses 6)=true:=by
 unfold Program.recurses
 rw [replies_unf]
 rfl
end Go.Proofs.YtcopgcdhkgenkaaGreatDoor
