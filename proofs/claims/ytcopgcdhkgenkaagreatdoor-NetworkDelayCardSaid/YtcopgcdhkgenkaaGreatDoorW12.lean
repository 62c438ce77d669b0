import Derived.Test.YtcopgcdhkgenkaaGreatDoorW8
set_option linter.all false
set_option maxRecDepth 100000
set_option maxHeartbeats 16000000
namespace Go.Proofs.YtcopgcdhkgenkaaGreatDoor
open Go
def delays_f0:List FuncId:=[3,9,12,31,56,32,57,58,59,97,96,94,145,98,146,50,19,147,204,205,52,148,206,207,276,45,85,133,130,194,265,277,347,348,349,350,351,46,352,353,425,195,354,355,426,340,328,411,412,413,414,377,439,530,531,532,585,584,586,588,619,587,590,621,644,538,592,620,643,651,593,622,652,595,594,589,303,379,378,281,361,428,83,415,416,417,418,424,241,242,517,427,518,575,519,576,577,578]
def delays_f1:List FuncId:=[356,357,137,196,266,269,341,343,268,342,339,267,270,344,156,216,217,284,285,218,286,140,99,150,210,279,358,359,280,360,190,149,208,209,278,95,151,93,100,101,102,60,61,103,104,62,105,106,152,153,41,63,64,65,107,33,16,42,80,81,131,132,82,18,44,84,14,34,15,26,48,49,86,87,88,89]
def delays_f2:List FuncId:=[134,135,136,51,39,77,78,79,21,13,35,36,37,66,108,109,154,211,212,282,213,214,215,283,67,68,110,120,121,181,180,182,183,184,126,191,263,337,338,262,329,330,419,331,420,421,332,422,423,516,333,334,335,336,192,193,264,185,186,38,70,114,165,237,166,238,239,115,167,169,243,307,240,306,381,387,382,449]
def delays_f3:List FuncId:=[383,384,450,451,536,385,386,388,389,168,170,244,69,111,155,113,161,225,296,226,227,228,229,230,162,232,298,231,297,366,163,233,299,367,235,304,380,440,446,325,441,533,442,443,534,535,591,444,445,447,448,234,300,368,369,370,435,373,437,372,371,436,374,375,438,528,529,583,618,301,302,376,346]
def delays_f4:List FuncId:=[164,236,305,112,157,158,177,250,318,219,287,362,312,395,288,363,429,430,520,579,551,521,364,431,432,523,524,410,515,522,580,616,581,617,635,636,648,637,638,649,650,654,639,640,641,642,582,555,292,525,526,527,433,434,311,393,394,460,461,315,403,498,565,566,610,611,567,568,612,613,633,634,462,463,308,390,452,537,453,539,454,540,596,623,396,464,465,543,466,468,469,544,257,545,258,189,259,188,260,326,409]
def delays_f5:List FuncId:=[327,261,546,467,310,391,455,541,597,598,392,456,323,457,458,542,459,470,471,473,547,472,474,475,476,477,548,478,479,480,481,550,549,552,553,599,624,625,645,626,627,646,647,653,628,629,630,631,554,556,557,482,483,484,485,558,289,290,324,408,507,508,572,509]
def delays_f6:List FuncId:=[510,573,574,615,511,512,513,514,291,293,245,309,365,256,159,220,221,171,222,223,224,294,295,160,173,71,116,172,246,247,248,313,397,486,559,560,561,600,562,601,602,603,604,605,398,399,487,488,489,490,491,314,400,401,492,563,497,493,564,606,607,608,632,609,494,402,495,496,249]
def delays_f7:List FuncId:=[316,404,499,500,569,501,502,570,571,614,503,504,505,506,317,72,73,118,178,117,174,175,176,119,122,187,124,123,179,251,320,319,405,253,252,321,406,407,322,255,254,75,125,74,76,127,128,129,40,17,25,43,24,23,10,11]
def delays_s0:List FuncId:=[]
def delays_s1:List FuncId:=[578,577,576,519,575,518,427,517,242,241,424,418,417,416,415,83,428,361,281,378,379,303,589,594,595,652,622,593,651,643,620,592,538,644,621,590,587,619,588,586,584,585,532,531,530,439,377,414,413,412,411,328,340,426,355,354,195,425,353,352,46,351,350,349,348,347,277,265,194,130,133,85,45,276,207,206,148,52,205,204,147,19,50,146,98,145,94,96,97,59,58,57,32,56,31,12,9,3]++delays_s0
def delays_t1:List FuncId:=[576,340,356,137,140,99,45,100,101,102,60,61,62,63,64,65,33,12,16,14,14,15,16,15,15,21,13,13,17,13,17,21,25,24,23,10,10,10,11,12,10,13,14,16,15,13,17]
def delays_s2:List FuncId:=[89,88,87,86,49,48,26,15,34,14,84,44,18,82,132,131,81,80,42,16,33,107,65,64,63,41,153,152,106,105,62,104,103,61,60,102,101,100,93,151,95,278,209,208,149,190,360,280,359,358,279,210,150,99,140,286,218,285,284,217,216,156,344,270,267,339,342,268,343,341,269,266,196,137,357,356]++delays_s1
def delays_t2:List FuncId:=[134,135,86,136,89,50,51,19,50,51,52,51,44,39,16,15,15,21,13,13,17,13,17,21,25,24,23,10,10,10,11,12,10,13,14,16,15,13,17]
def delays_s3:List FuncId:=[449,382,387,381,306,240,307,243,169,167,115,239,238,166,237,165,114,70,38,186,185,264,193,192,336,335,334,333,516,423,422,332,421,420,331,419,330,329,262,338,337,263,191,126,184,183,182,180,181,121,120,110,68,67,283,215,214,213,282,212,211,154,109,108,66,37,36,35,13,21,79,78,77,39,51,136,135,134]++delays_s2
def delays_t3:List FuncId:=[387,387,449,383,384,385,386,387,388,389,306,306,168,170,69,71,72,73,64,75,74,76,40,39,13,17,13,17,21,25,24,23,10,10,10,11,12,10,13,14,16,15,13,17]
def delays_s4:List FuncId:=[346,376,302,301,618,583,529,528,438,375,374,436,371,372,437,373,435,370,369,368,300,234,448,447,445,444,591,535,534,443,442,533,441,325,446,440,380,304,235,367,299,233,163,366,297,231,298,232,162,230,229,228,227,226,296,225,161,113,155,111,69,244,170,168,389,388,386,385,536,451,450,384,383]++delays_s3
def delays_t4:List FuncId:=[164,112,71,72,73,64,75,74,76,40,39,13,17,13,17,21,25,24,23,10,10,10,11,12,10,13,14,16,15,13,17]
def delays_s5:List FuncId:=[409,326,260,188,259,189,258,545,257,544,469,468,466,543,465,464,396,623,596,540,454,539,453,537,452,390,308,463,462,634,633,613,612,568,567,611,610,566,565,498,403,315,461,460,394,393,311,434,433,527,526,525,292,555,582,642,641,640,639,654,650,649,638,637,648,636,635,617,581,616,580,522,515,410,524,523,432,431,364,521,551,579,520,430,429,363,288,395,312,362,287,219,318,250,177,158,157,112,305,236,164]++delays_s4
def delays_t5:List FuncId:=[346,327,315,260,261,130,83,315,378,378,546,467,470,474,476,478,482,483,484,19,288,289,290,291,290,256,157,157,159,160,71,72,73,64,75,74,76,40,39,13,17,13,17,21,25,24,23,10,10,10,11,12,10,13,14,16,15,13,17]
def delays_s6:List FuncId:=[509,572,508,507,408,324,290,289,558,485,484,483,482,557,556,554,631,630,629,628,653,647,646,627,626,645,625,624,599,553,552,549,550,481,480,479,478,548,477,476,475,474,472,547,473,471,470,459,542,458,457,323,456,392,598,597,541,455,391,310,467,546,261,327]++delays_s5
def delays_t6:List FuncId:=[510,511,512,513,514,408,408,364,291,290,256,157,157,159,160,71,72,73,64,75,74,76,40,39,13,17,13,17,21,25,24,23,10,10,10,11,12,10,13,14,16,15,13,17]
def delays_s7:List FuncId:=[249,496,495,402,494,609,632,608,607,606,564,493,497,563,492,401,400,314,491,490,489,488,487,399,398,605,604,603,602,601,562,600,561,560,559,486,397,313,248,247,246,172,116,71,173,160,295,294,224,223,222,171,221,220,159,256,365,309,245,293,291,514,513,512,511,615,574,573,510]++delays_s6
def delays_t7:List FuncId:=[19,316,317,173,72,73,64,75,74,76,40,39,13,17,13,17,21,25,24,23,10,10,10,11,12,10,13,14,16,15,13,17]
def delays_s8:List FuncId:=[11,10,23,24,43,25,17,40,129,128,127,76,74,125,75,254,255,322,407,406,321,252,253,405,319,320,251,179,123,124,187,122,119,176,175,174,117,178,118,73,72,317,506,505,504,503,614,571,570,502,501,569,500,499,404,316]++delays_s7
def delays_t8:List FuncId:=[]
def delays_t0:List FuncId:=[3]
theorem delays_r0:runC Tryz.prog 150 (delays_t0,delays_s0)=(delays_t1,delays_s1):=by kernel_rfl
theorem delays_r1:runC Tryz.prog 150 (delays_t1,delays_s1)=(delays_t2,delays_s2):=by kernel_rfl
theorem delays_r2:runC Tryz.prog 150 (delays_t2,delays_s2)=(delays_t3,delays_s3):=by kernel_rfl
theorem delays_r3:runC Tryz.prog 150 (delays_t3,delays_s3)=(delays_t4,delays_s4):=by kernel_rfl
theorem delays_r4:runC Tryz.prog 150 (delays_t4,delays_s4)=(delays_t5,delays_s5):=by kernel_rfl
theorem delays_r5:runC Tryz.prog 150 (delays_t5,delays_s5)=(delays_t6,delays_s6):=by kernel_rfl
theorem delays_r6:runC Tryz.prog 150 (delays_t6,delays_s6)=(delays_t7,delays_s7):=by kernel_rfl
theorem delays_r7:runC Tryz.prog 150 (delays_t7,delays_s7)=(delays_t8,delays_s8):=by kernel_rfl
theorem delays_run:runC Tryz.prog 1200 ([3],[])=([],delays_s8):=by
 show runC Tryz.prog (150+150+150+150+150+150+150+150) (delays_t0,delays_s0)=_
 rw [runC_add,runC_add,runC_add,runC_add,runC_add,runC_add,runC_add,delays_r0,delays_r1,delays_r2,delays_r3,delays_r4,delays_r5,delays_r6,delays_r7]
 rfl
theorem delays_fuel:fuelB Tryz.prog 1200=true:=by kernel_rfl
theorem delays_rev:delays_s8.reverse=delays_f0++(delays_f1++(delays_f2++(delays_f3++(delays_f4++(delays_f5++(delays_f6++(delays_f7))))))):=by kernel_rfl
theorem delays_closure:Tryz.prog.closure 3=delays_f0++(delays_f1++(delays_f2++(delays_f3++(delays_f4++(delays_f5++(delays_f6++(delays_f7))))))):=by
 have h:=closure_of Tryz.prog 3 1200 delays_s8 delays_run delays_fuel
 rw [delays_rev] at h
 exact h
theorem delays_ip0 : delays_f0.filterMap (fun g => (Tryz.prog.funcs[g]?).bind fun fn => if fn.ours || fn.body.isNone || fn.name == "runtime.NumGoroutine" then some fn.name else none) = ["internal/abi.NoEscape", "internal/bytealg.IndexByteString", "internal/bytealg.IndexString", "internal/bytealg.MakeNoZero"] := by kernel_rfl
theorem delays_gn0:delays_f0.flatMap (fun g=>((Tryz.prog.funcs[g]?).bind (·.body)).elim [] Code.globalsNamed)=[0,0,8,9]:=by kernel_rfl
theorem delays_en0 : delays_f0.filterMap (fun g => (Tryz.prog.funcs[g]?).bind fun fn => if fn.body.isNone then entryReads.lookup fn.name else none) = ["internal/bytealg.MaxLen"] := by kernel_rfl
theorem delays_ip1 : delays_f1.filterMap (fun g => (Tryz.prog.funcs[g]?).bind fun fn => if fn.ours || fn.body.isNone || fn.name == "runtime.NumGoroutine" then some fn.name else none) = ["internal/reflectlite.ValueOf", "(internal/reflectlite.Value).Type", "(internal/reflectlite.Value).IsNil"] := by kernel_rfl
theorem delays_gn1:delays_f1.flatMap (fun g=>((Tryz.prog.funcs[g]?).bind (·.body)).elim [] Code.globalsNamed)=[1]:=by kernel_rfl
theorem delays_en1:delays_f1.filterMap (fun g=>(Tryz.prog.funcs[g]?).bind fun fn=>if fn.body.isNone then entryReads.lookup fn.name else none)=[]:=by kernel_rfl
theorem delays_ip2 : delays_f2.filterMap (fun g => (Tryz.prog.funcs[g]?).bind fun fn => if fn.ours || fn.body.isNone || fn.name == "runtime.NumGoroutine" then some fn.name else none) = ["internal/reflectlite.TypeOf", "(internal/reflectlite.Value).Elem", "(internal/reflectlite.Value).Set"] := by kernel_rfl
theorem delays_gn2:delays_f2.flatMap (fun g=>((Tryz.prog.funcs[g]?).bind (·.body)).elim [] Code.globalsNamed)=[2,3,2,2]:=by kernel_rfl
theorem delays_en2:delays_f2.filterMap (fun g=>(Tryz.prog.funcs[g]?).bind fun fn=>if fn.body.isNone then entryReads.lookup fn.name else none)=[]:=by kernel_rfl
theorem delays_ip3 : delays_f3.filterMap (fun g => (Tryz.prog.funcs[g]?).bind fun fn => if fn.ours || fn.body.isNone || fn.name == "runtime.NumGoroutine" then some fn.name else none) = ["slices.overlaps[int]"] := by kernel_rfl
theorem delays_gn3:delays_f3.flatMap (fun g=>((Tryz.prog.funcs[g]?).bind (·.body)).elim [] Code.globalsNamed)=[]:=by kernel_rfl
theorem delays_en3:delays_f3.filterMap (fun g=>(Tryz.prog.funcs[g]?).bind fun fn=>if fn.body.isNone then entryReads.lookup fn.name else none)=[]:=by kernel_rfl
theorem delays_ip4 : delays_f4.filterMap (fun g => (Tryz.prog.funcs[g]?).bind fun fn => if fn.ours || fn.body.isNone || fn.name == "runtime.NumGoroutine" then some fn.name else none) = ["internal/bytealg.CountString"] := by kernel_rfl
theorem delays_gn4:delays_f4.flatMap (fun g=>((Tryz.prog.funcs[g]?).bind (·.body)).elim [] Code.globalsNamed)=[7,10,11,4,4,4]:=by kernel_rfl
theorem delays_en4:delays_f4.filterMap (fun g=>(Tryz.prog.funcs[g]?).bind fun fn=>if fn.body.isNone then entryReads.lookup fn.name else none)=[]:=by kernel_rfl
theorem delays_ip5 : delays_f5.filterMap (fun g => (Tryz.prog.funcs[g]?).bind fun fn => if fn.ours || fn.body.isNone || fn.name == "runtime.NumGoroutine" then some fn.name else none) = [] := by kernel_rfl
theorem delays_gn5:delays_f5.flatMap (fun g=>((Tryz.prog.funcs[g]?).bind (·.body)).elim [] Code.globalsNamed)=[5,6]:=by kernel_rfl
theorem delays_en5:delays_f5.filterMap (fun g=>(Tryz.prog.funcs[g]?).bind fun fn=>if fn.body.isNone then entryReads.lookup fn.name else none)=[]:=by kernel_rfl
theorem delays_ip6 : delays_f6.filterMap (fun g => (Tryz.prog.funcs[g]?).bind fun fn => if fn.ours || fn.body.isNone || fn.name == "runtime.NumGoroutine" then some fn.name else none) = [] := by kernel_rfl
theorem delays_gn6:delays_f6.flatMap (fun g=>((Tryz.prog.funcs[g]?).bind (·.body)).elim [] Code.globalsNamed)=[]:=by kernel_rfl
theorem delays_en6:delays_f6.filterMap (fun g=>(Tryz.prog.funcs[g]?).bind fun fn=>if fn.body.isNone then entryReads.lookup fn.name else none)=[]:=by kernel_rfl
theorem delays_ip7 : delays_f7.filterMap (fun g => (Tryz.prog.funcs[g]?).bind fun fn => if fn.ours || fn.body.isNone || fn.name == "runtime.NumGoroutine" then some fn.name else none) = [] := by kernel_rfl
theorem delays_gn7:delays_f7.flatMap (fun g=>((Tryz.prog.funcs[g]?).bind (·.body)).elim [] Code.globalsNamed)=[]:=by kernel_rfl
theorem delays_en7:delays_f7.filterMap (fun g=>(Tryz.prog.funcs[g]?).bind fun fn=>if fn.body.isNone then entryReads.lookup fn.name else none)=[]:=by kernel_rfl
theorem delays_inPlace:Tryz.prog.inPlace 3=Rows.networkDelayRow.inPlace:=by
 unfold Program.inPlace
 rw [delays_closure]
 simp only [List.filterMap_append,delays_ip0,delays_ip1,delays_ip2,delays_ip3,delays_ip4,delays_ip5,delays_ip6,delays_ip7]
 rfl
theorem delays_k9:(Rows.networkDelayRow.inPlace==Tryz.prog.inPlace 3)=true:=by rw [delays_inPlace];exact beq_self_eq_true _
theorem delays_gl:(Tryz.prog.closure 3).flatMap (fun g=>((Tryz.prog.funcs[g]?).bind (·.body)).elim [] Code.globalsNamed)=[0,0,8,9,1,2,3,2,2,7,10,11,4,4,4,5,6]:=by
 rw [delays_closure]
 simp only [List.flatMap_append,delays_gn0,delays_gn1,delays_gn2,delays_gn3,delays_gn4,delays_gn5,delays_gn6,delays_gn7]
 rfl
theorem delays_el : (Tryz.prog.closure 3).filterMap (fun g => (Tryz.prog.funcs[g]?).bind fun fn => if fn.body.isNone then entryReads.lookup fn.name else none) = ["internal/bytealg.MaxLen"] := by
 rw [delays_closure]
 simp only [List.filterMap_append,delays_en0,delays_en1,delays_en2,delays_en3,delays_en4,delays_en5,delays_en6,delays_en7]
 rfl
theorem delays_nl : (([0, 0, 8, 9, 1, 2, 3, 2, 2, 7, 10, 11, 4, 4, 4, 5, 6] : List Nat).eraseDups.filterMap (fun g => (Tryz.prog.globals[g]?).map (·.name)) ++ ["internal/bytealg.MaxLen"]).eraseDups = Rows.networkDelayRow.named := by kernel_rfl
theorem delays_vars:Tryz.prog.varsNamed 3=Rows.networkDelayRow.named:=by
 unfold Program.varsNamed
 rw [delays_gl,delays_el]
 exact delays_nl
theorem delays_k12:(Rows.networkDelayRow.named==Tryz.prog.varsNamed 3)=true:=by rw [delays_vars];exact beq_self_eq_true _
theorem delays_mem:402 ∈ Tryz.prog.closure 3:=by
 rw [delays_closure]
 exact List.contains_iff_mem.1 (by kernel_rfl)
theorem delays_unf:Tryz.prog.unfollowed 3=true:=List.any_eq_true.2 ⟨402,delays_mem,by kernel_rfl⟩
theorem delays_k10:(Rows.networkDelayRow.unfollowed==Tryz.prog.unfollowed 3)=true:=by rw [delays_unf];rfl
theorem delays_k11:(Rows.networkDelayRow.recurses==Tryz.prog.recurses 3)=true:=by
 unfold Program.recurses
 rw [delays_unf]
 rfl
end Go.Proofs.YtcopgcdhkgenkaaGreatDoor
