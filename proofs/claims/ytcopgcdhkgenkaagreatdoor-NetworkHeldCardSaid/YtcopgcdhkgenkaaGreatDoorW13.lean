import Derived.Test.YtcopgcdhkgenkaaGreatDoorW8
set_option linter.all false
set_option maxRecDepth 100000
set_option maxHeartbeats 16000000
namespace Go.Proofs.YtcopgcdhkgenkaaGreatDoor
open Go
def helds_n0:List FuncId:=[578,577,576,519,575,518,427,517,242,241,424,418,417,416,415,83,428,361,281,378,379,303,589,594,595,652,622,593,651,643,620,592,538,644,621,590,587,619,588,586,584,585,532,531,530,439,377,414,413,412,411,328,340,426,355,354,195,425,353,352,46,351,350,349,348,347,277,265,194,130,133,85,45,276,207,206,148,52,205,204,147,19,50,146,98,145,94,96,97,59,58,57,32,56,31,12,9,4]
def helds_f0:List FuncId:=helds_n0.reverse
def helds_n1:List FuncId:=[89,88,87,86,49,48,26,15,34,14,84,44,18,82,132,131,81,80,42,16,33,107,65,64,63,41,153,152,106,105,62,104,103,61,60,102,101,100,93,151,95,278,209,208,149,190,360,280,359,358,279,210,150,99,140,286,218,285,284,217,216,156,344,270,267,339,342,268,343,341,269,266,196,137,357,356]
def helds_f1:List FuncId:=helds_n1.reverse
def helds_n2:List FuncId:=[449,382,387,381,306,240,307,243,169,167,115,239,238,166,237,165,114,70,38,186,185,264,193,192,336,335,334,333,516,423,422,332,421,420,331,419,330,329,262,338,337,263,191,126,184,183,182,180,181,121,120,110,68,67,283,215,214,213,282,212,211,154,109,108,66,37,36,35,13,21,79,78,77,39,51,136,135,134]
def helds_f2:List FuncId:=helds_n2.reverse
def helds_n3:List FuncId:=[346,376,302,301,618,583,529,528,438,375,374,436,371,372,437,373,435,370,369,368,300,234,448,447,445,444,591,535,534,443,442,533,441,325,446,440,380,304,235,367,299,233,163,366,297,231,298,232,162,230,229,228,227,226,296,225,161,113,155,111,69,244,170,168,389,388,386,385,536,451,450,384,383]
def helds_f3:List FuncId:=helds_n3.reverse
def helds_n4:List FuncId:=[409,326,260,188,259,189,258,545,257,544,469,468,466,543,465,464,396,623,596,540,454,539,453,537,452,390,308,463,462,634,633,613,612,568,567,611,610,566,565,498,403,315,461,460,394,393,311,434,433,527,526,525,292,555,582,642,641,640,639,654,650,649,638,637,648,636,635,617,581,616,580,522,515,410,524,523,432,431,364,521,551,579,520,430,429,363,288,395,312,362,287,219,318,250,177,158,157,112,305,236,164]
def helds_f4:List FuncId:=helds_n4.reverse
def helds_n5:List FuncId:=[509,572,508,507,408,324,290,289,558,485,484,483,482,557,556,554,631,630,629,628,653,647,646,627,626,645,625,624,599,553,552,549,550,481,480,479,478,548,477,476,475,474,472,547,473,471,470,459,542,458,457,323,456,392,598,597,541,455,391,310,467,546,261,327]
def helds_f5:List FuncId:=helds_n5.reverse
def helds_n6:List FuncId:=[249,496,495,402,494,609,632,608,607,606,564,493,497,563,492,401,400,314,491,490,489,488,487,399,398,605,604,603,602,601,562,600,561,560,559,486,397,313,248,247,246,172,116,71,173,160,295,294,224,223,222,171,221,220,159,256,365,309,245,293,291,514,513,512,511,615,574,573,510]
def helds_f6:List FuncId:=helds_n6.reverse
def helds_n7:List FuncId:=[10,23,24,43,25,17,40,129,128,127,76,74,125,75,254,255,322,407,406,321,252,253,405,319,320,251,179,123,124,187,122,119,176,175,174,117,178,118,73,72,317,506,505,504,503,614,571,570,502,501,569,500,499,404,316]
def helds_f7:List FuncId:=helds_n7.reverse
def helds_s0:List FuncId:=[]
def helds_s1:List FuncId:=helds_n0++helds_s0
def helds_t1:List FuncId:=[576,340,356,137,140,99,45,100,101,102,60,61,62,63,64,65,33,12,16,14,14,15,16,15,15,21,13,13,17,13,17,21,25,24,23,10,10,10,12,14,16,15,14,13,17,16,15,13,17,17]
def helds_s2:List FuncId:=helds_n1++helds_s1
def helds_t2:List FuncId:=[134,135,86,136,89,50,51,19,50,51,52,51,44,39,16,15,15,21,13,13,17,13,17,21,25,24,23,10,10,10,12,14,16,15,14,13,17,16,15,13,17,17]
def helds_s3:List FuncId:=helds_n2++helds_s2
def helds_t3:List FuncId:=[387,387,449,383,384,385,386,387,388,389,306,306,168,170,69,71,72,73,64,75,74,76,40,39,13,17,13,17,21,25,24,23,10,10,10,12,14,16,15,14,13,17,16,15,13,17,17]
def helds_s4:List FuncId:=helds_n3++helds_s3
def helds_t4:List FuncId:=[164,112,71,72,73,64,75,74,76,40,39,13,17,13,17,21,25,24,23,10,10,10,12,14,16,15,14,13,17,16,15,13,17,17]
def helds_s5:List FuncId:=helds_n4++helds_s4
def helds_t5:List FuncId:=[346,327,315,260,261,130,83,315,378,378,546,467,470,474,476,478,482,483,484,19,288,289,290,291,290,256,157,157,159,160,71,72,73,64,75,74,76,40,39,13,17,13,17,21,25,24,23,10,10,10,12,14,16,15,14,13,17,16,15,13,17,17]
def helds_s6:List FuncId:=helds_n5++helds_s5
def helds_t6:List FuncId:=[510,511,512,513,514,408,408,364,291,290,256,157,157,159,160,71,72,73,64,75,74,76,40,39,13,17,13,17,21,25,24,23,10,10,10,12,14,16,15,14,13,17,16,15,13,17,17]
def helds_s7:List FuncId:=helds_n6++helds_s6
def helds_t7:List FuncId:=[19,316,317,173,72,73,64,75,74,76,40,39,13,17,13,17,21,25,24,23,10,10,10,12,14,16,15,14,13,17,16,15,13,17,17]
def helds_s8:List FuncId:=helds_n7++helds_s7
def helds_t8:List FuncId:=[]
def helds_t0:List FuncId:=[4]
theorem helds_r0:runC Tryz.prog 150 (helds_t0,helds_s0)=(helds_t1,helds_s1):=by kernel_rfl
theorem helds_r1:runC Tryz.prog 150 (helds_t1,helds_s1)=(helds_t2,helds_s2):=by kernel_rfl
theorem helds_r2:runC Tryz.prog 150 (helds_t2,helds_s2)=(helds_t3,helds_s3):=by kernel_rfl
theorem helds_r3:runC Tryz.prog 150 (helds_t3,helds_s3)=(helds_t4,helds_s4):=by kernel_rfl
theorem helds_r4:runC Tryz.prog 150 (helds_t4,helds_s4)=(helds_t5,helds_s5):=by kernel_rfl
theorem helds_r5:runC Tryz.prog 150 (helds_t5,helds_s5)=(helds_t6,helds_s6):=by kernel_rfl
theorem helds_r6:runC Tryz.prog 150 (helds_t6,helds_s6)=(helds_t7,helds_s7):=by kernel_rfl
theorem helds_r7:runC Tryz.prog 150 (helds_t7,helds_s7)=(helds_t8,helds_s8):=by kernel_rfl
theorem helds_run:runC Tryz.prog 1200 ([4],[])=([],helds_s8):=by
 show runC Tryz.prog (150+150+150+150+150+150+150+150) (helds_t0,helds_s0)=_
 rw [runC_add,runC_add,runC_add,runC_add,runC_add,runC_add,runC_add,helds_r0,helds_r1,helds_r2,helds_r3,helds_r4,helds_r5,helds_r6,helds_r7]
 rfl
theorem helds_fuel:fuelB Tryz.prog 1200=true:=by kernel_rfl
theorem helds_rev:helds_s8.reverse=helds_f0++(helds_f1++(helds_f2++(helds_f3++(helds_f4++(helds_f5++(helds_f6++(helds_f7))))))):=by kernel_rfl
theorem helds_closure:Tryz.prog.closure 4=helds_f0++(helds_f1++(helds_f2++(helds_f3++(helds_f4++(helds_f5++(helds_f6++(helds_f7))))))):=by
 have h:=closure_of Tryz.prog 4 1200 helds_s8 helds_run helds_fuel
 rw [helds_rev] at h
 exact h
noncomputable def helds_p : FuncId -> Option String := (fun g => (Tryz.prog.funcs[g]?).bind fun fn => if fn.ours || fn.body.isNone || fn.name == "runtime.NumGoroutine" then some fn.name else none)
noncomputable def helds_q:FuncId -> List Nat:=(fun g=>((Tryz.prog.funcs[g]?).bind (·.body)).elim [] Code.globalsNamed)
noncomputable def helds_b:FuncId -> Option String:=(fun g=>(Tryz.prog.funcs[g]?).bind fun fn=>if fn.body.isNone then entryReads.lookup fn.name else none)
theorem helds_ip0 : helds_f0.filterMap helds_p = ["internal/abi.NoEscape", "internal/bytealg.IndexByteString", "internal/bytealg.IndexString", "internal/bytealg.MakeNoZero"] := by kernel_rfl
theorem helds_gn0:helds_f0.flatMap helds_q=[0,0,8,9]:=by kernel_rfl
theorem helds_en0 : helds_f0.filterMap helds_b = ["internal/bytealg.MaxLen"] := by kernel_rfl
theorem helds_ip1 : helds_f1.filterMap helds_p = ["internal/reflectlite.ValueOf", "(internal/reflectlite.Value).Type", "(internal/reflectlite.Value).IsNil"] := by kernel_rfl
theorem helds_gn1:helds_f1.flatMap helds_q=[1]:=by kernel_rfl
theorem helds_en1:helds_f1.filterMap helds_b=[]:=by kernel_rfl
theorem helds_ip2 : helds_f2.filterMap helds_p = ["internal/reflectlite.TypeOf", "(internal/reflectlite.Value).Elem", "(internal/reflectlite.Value).Set"] := by kernel_rfl
theorem helds_gn2:helds_f2.flatMap helds_q=[2,3,2,2]:=by kernel_rfl
theorem helds_en2:helds_f2.filterMap helds_b=[]:=by kernel_rfl
theorem helds_ip3 : helds_f3.filterMap helds_p = ["slices.overlaps[int]"] := by kernel_rfl
theorem helds_gn3:helds_f3.flatMap helds_q=[]:=by kernel_rfl
theorem helds_en3:helds_f3.filterMap helds_b=[]:=by kernel_rfl
theorem helds_ip4 : helds_f4.filterMap helds_p = ["internal/bytealg.CountString"] := by kernel_rfl
theorem helds_gn4:helds_f4.flatMap helds_q=[7,10,11,4,4,4]:=by kernel_rfl
theorem helds_en4:helds_f4.filterMap helds_b=[]:=by kernel_rfl
theorem helds_ip5:helds_f5.filterMap helds_p=[]:=by kernel_rfl
theorem helds_gn5:helds_f5.flatMap helds_q=[5,6]:=by kernel_rfl
theorem helds_en5:helds_f5.filterMap helds_b=[]:=by kernel_rfl
theorem helds_ip6:helds_f6.filterMap helds_p=[]:=by kernel_rfl
theorem helds_gn6:helds_f6.flatMap helds_q=[]:=by kernel_rfl
theorem helds_en6:helds_f6.filterMap helds_b=[]:=by kernel_rfl
theorem helds_ip7:helds_f7.filterMap helds_p=[]:=by kernel_rfl
theorem helds_gn7:helds_f7.flatMap helds_q=[]:=by kernel_rfl
theorem helds_en7:helds_f7.filterMap helds_b=[]:=by kernel_rfl
theorem helds_inPlace:Tryz.prog.inPlace 4=Rows.networkHeldRow.inPlace:=by
 unfold Program.inPlace
 rw [helds_closure]
 show List.filterMap helds_p _=_
 simp only [List.filterMap_append,helds_ip0,helds_ip1,helds_ip2,helds_ip3,helds_ip4,helds_ip5,helds_ip6,helds_ip7]
 rfl
theorem helds_k9:(Rows.networkHeldRow.inPlace==Tryz.prog.inPlace 4)=true:=by rw [helds_inPlace];exact beq_self_eq_true _
theorem helds_gl:(Tryz.prog.closure 4).flatMap helds_q=[0,0,8,9,1,2,3,2,2,7,10,11,4,4,4,5,6]:=by
 rw [helds_closure]
 simp only [List.flatMap_append,helds_gn0,helds_gn1,helds_gn2,helds_gn3,helds_gn4,helds_gn5,helds_gn6,helds_gn7]
 rfl
theorem helds_el : (Tryz.prog.closure 4).filterMap helds_b = ["internal/bytealg.MaxLen"] := by
 rw [helds_closure]
 simp only [List.filterMap_append,helds_en0,helds_en1,helds_en2,helds_en3,helds_en4,helds_en5,helds_en6,helds_en7]
 rfl
theorem helds_nl : (([0, 0, 8, 9, 1, 2, 3, 2, 2, 7, 10, 11, 4, 4, 4, 5, 6] : List Nat).eraseDups.filterMap (fun g => (Tryz.prog.globals[g]?).map (·.name)) ++ ["internal/bytealg.MaxLen"]).eraseDups = Rows.networkHeldRow.named := by kernel_rfl
theorem helds_vars:Tryz.prog.varsNamed 4=Rows.networkHeldRow.named:=by
 unfold Program.varsNamed
 rw [show (Tryz.prog.closure 4).flatMap (fun g=>((Tryz.prog.funcs[g]?).bind (·.body)).elim [] Code.globalsNamed)=_ from helds_gl,show (Tryz.prog.closure 4).filterMap (fun g=>(Tryz.prog.funcs[g]?).bind fun fn=>if fn.body.isNone then entryReads.lookup fn.name else none)=_ from helds_el]
 exact helds_nl
theorem helds_k12:(Rows.networkHeldRow.named==Tryz.prog.varsNamed 4)=true:=by rw [helds_vars];exact beq_self_eq_true _
theorem helds_mem:402 ∈ Tryz.prog.closure 4:=by
 rw [helds_closure]
 exact List.contains_iff_mem.1 (by kernel_rfl)
theorem helds_unf:Tryz.prog.unfollowed 4=true:=List.any_eq_true.2 ⟨402,helds_mem,by kernel_rfl⟩
theorem helds_k10:(Rows.networkHeldRow.unfollowed==Tryz.prog.unfollowed 4)=true:=by rw [helds_unf];rfl
theorem helds_k11:(Rows.networkHeldRow.recurses==Tryz.prog.recurses 4)=true:=by
 unfold Program.recurses
 rw [helds_unf]
 rfl
end Go.Proofs.YtcopgcdhkgenkaaGreatDoor
