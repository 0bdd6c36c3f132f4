import Derived.Test.YtepdnjjfhbjcjaaGreatDoorC18
import Derived.Test.YtepdnjjfhbjcjaaGreatDoorC19
set_option linter.all false
section
set_option linter.all false
section
namespace Go.Proofs.YtepdnjjfhbjcjaaGreatDoorPA
open Go.RowKit Go.Proofs.YtepdnjjfhbjcjaaGreatDoor.Inj Go.Proofs.YtepdnjjfhbjcjaaGreatDoorW.PrintWords Go.Proofs.YtepdnjjfhbjcjaaGreatDoorW.PrintLast Go.Proofs.YtepdnjjfhbjcjaaGreatDoorW.PrintMore
attribute [local go_sem] max2_int min2_int max_two min_two max_three min_three max_four min_four
set_option linter.unusedVariables false
set_option linter.unusedSimpArgs false
attribute [local go_sem high] eqA23
abbrev tt:=true
abbrev ff:=false
theorem bA {w : World} {g : Nat} {o : Obj} (h : w.heap[g]? = some o) (o' : Obj) : (w.alloc o').heap[g]? = some o := blk_alloc h o'
theorem bE {w : World} {g : Nat} {o : Obj} (h : w.heap[g]? = some o) : w.drew.heap[g]? = some o := h
theorem bD {w : World} {g : Nat} {o : Obj} (h : w.heap[g]? = some o) (n : Nat) : (w.drewN n).heap[g]? = some o := h
def spoondriftlaw01_awake.f  : Option (Bool) := (spoondriftlaw01_num.f 2 0 0 0 2).bind fun bt102 => ((ring_Least.f bt102.1 bt102.2.1 bt102.2.2.1 bt102.2.2.2.1 bt102.2.2.2.2).bind fun bt107 => ((spoondriftlaw01_num.f 1 0 1 0 1).bind fun bt114 => ((ring_Least.f bt114.1 bt114.2.1 bt114.2.2.1 bt114.2.2.2.1 bt114.2.2.2.2).bind fun bt119 => ((spoondriftlaw01_num.f 0 1 0 0 0).bind fun bt126 => ((ring_Omega.f 7).bind fun bt131 => ((ring_Mul.f bt126.1 bt126.2.1 bt126.2.2.1 bt126.2.2.2.1 bt126.2.2.2.2 bt131.1 bt131.2.1 bt131.2.2.1 bt131.2.2.2.1 bt131.2.2.2.2).bind fun bt136 => ((spoondriftlaw01_num.f 1 0 0 0 1).bind fun bt143 => ((ring_Dot.f bt143.1 bt143.2.1 bt143.2.2.1 bt143.2.2.2.1 bt143.2.2.2.2).bind fun bt148 => ((spoondriftlaw01_num.f 1 1 0 0 0).bind fun bt155 => ((ring_Norm.f bt155.1 bt155.2.1 bt155.2.2.1 bt155.2.2.2.1 bt155.2.2.2.2).bind fun bt160 => ((spoondriftlaw01_num.f 2 (-1) 0 1 0).bind fun bt167 => ((spoondriftlaw01_num.f 1 0 0 0 0).bind fun bt172 => ((ring_Less.f bt167.1 bt167.2.1 bt167.2.2.1 bt167.2.2.2.1 bt167.2.2.2.2 bt172.1 bt172.2.1 bt172.2.2.1 bt172.2.2.2.1 bt172.2.2.2.2).bind fun bt177 => ((spoondriftlaw01_num.f 2 (-1) 0 1 0).bind fun bt179 => ((spoondriftlaw01_num.f 1 0 0 0 2).bind fun bt184 => ((ring_Less.f bt179.1 bt179.2.1 bt179.2.2.1 bt179.2.2.2.1 bt179.2.2.2.2 bt184.1 bt184.2.1 bt184.2.2.1 bt184.2.2.2.1 bt184.2.2.2.2).bind fun bt189 => ((spoondriftlaw01_num.f 1 0 0 0 0).bind fun bt191 => ((spoondriftlaw01_num.f 1 1 0 0 0).bind fun bt196 => ((ring_Divide.f bt191.1 bt191.2.1 bt191.2.2.1 bt191.2.2.2.1 bt191.2.2.2.2 bt196.1 bt196.2.1 bt196.2.2.1 bt196.2.2.2.1 bt196.2.2.2.2).bind fun bt201 => ((spoondriftlaw01_num.f 1 0 0 0 0).bind fun bt208 => ((spoondriftlaw01_num.f 3 0 0 0 0).bind fun bt213 => ((ring_Divide.f bt208.1 bt208.2.1 bt208.2.2.1 bt208.2.2.2.1 bt208.2.2.2.2 bt213.1 bt213.2.1 bt213.2.2.1 bt213.2.2.2.1 bt213.2.2.2.2).bind fun bt218 => ((spoondriftlaw01_num.f 0 0 1 0 0).bind fun bt225 => ((spoondriftlaw01_num.f 0 (-1) 0 0 0).bind fun bt230 => ((ring_Phase.f bt225.1 bt225.2.1 bt225.2.2.1 bt225.2.2.2.1 bt225.2.2.2.2 bt230.1 bt230.2.1 bt230.2.2.1 bt230.2.2.2.1 bt230.2.2.2.2).bind fun bt235 => ((spoondriftlaw01_num.f 0 1 (-2) (-1) 0).bind fun bt237 => ((ring_Print.f bt237.1 bt237.2.1 bt237.2.2.1 bt237.2.2.2.1 bt237.2.2.2.2).bind fun bt242 => ((ring_Parse.f (⟨#[40,49,41,47,114,49]⟩ : ByteArray)).bind fun bt244 => (if bt107.2.2.2.2.2 = 0 then (if bt119.2.2.2.2.2 = 0 then (if bt136.2.2.2.2.2 = 0 then (if bt148.2.2.2.2.2 = 0 then (if bt160.2.2.2.2.2 = 0 then (if bt177.2 = 0 then (if bt189.2 = 0 then (if bt201.2.2.2.2.2 = 0 then (if bt218.2.2.2.2.2 = 6 then (if bt235.2 = 0 then (if bt242.2 = 0 then (if bt244.2.2.2.2.2 = 0 then ((spoondriftlaw01_num.f 1 0 0 0 0).bind fun bt251 => (if (bt107.1 == bt251.1 && (bt107.2.1 == bt251.2.1 && (bt107.2.2.1 == bt251.2.2.1 && (bt107.2.2.2.1 == bt251.2.2.2.1 && (bt107.2.2.2.2.1 == bt251.2.2.2.2))))) = true then ((spoondriftlaw01_num.f 0 1 0 0 0).bind fun bt256 => (if (bt119.1 == bt256.1 && (bt119.2.1 == bt256.2.1 && (bt119.2.2.1 == bt256.2.2.1 && (bt119.2.2.2.1 == bt256.2.2.2.1 && (bt119.2.2.2.2.1 == bt256.2.2.2.2))))) = true then ((spoondriftlaw01_num.f 1 0 0 0 0).bind fun bt261 => (if (bt136.1 == bt261.1 && (bt136.2.1 == bt261.2.1 && (bt136.2.2.1 == bt261.2.2.1 && (bt136.2.2.2.1 == bt261.2.2.2.1 && (bt136.2.2.2.2.1 == bt261.2.2.2.2))))) = true then ((spoondriftlaw01_num.f (-1) 0 0 0 1).bind fun bt266 => (if (bt148.1 == bt266.1 && (bt148.2.1 == bt266.2.1 && (bt148.2.2.1 == bt266.2.2.1 && (bt148.2.2.2.1 == bt266.2.2.2.1 && (bt148.2.2.2.2.1 == bt266.2.2.2.2))))) = true then ((spoondriftlaw01_num.f 2 1 0 (-1) 0).bind fun bt271 => (if (bt160.1 == bt271.1 && (bt160.2.1 == bt271.2.1 && (bt160.2.2.1 == bt271.2.2.1 && (bt160.2.2.2.1 == bt271.2.2.2.1 && (bt160.2.2.2.2.1 == bt271.2.2.2.2))))) = true then (if bt177.1 = true then (if bt189.1 = true then (some false) else ((spoondriftlaw01_num.f 0 1 (-1) 0 1).bind fun bt276 => (if (bt201.1 == bt276.1 && (bt201.2.1 == bt276.2.1 && (bt201.2.2.1 == bt276.2.2.1 && (bt201.2.2.2.1 == bt276.2.2.2.1 && (bt201.2.2.2.2.1 == bt276.2.2.2.2))))) = true then (if bt235.1 = 5 then (if bt242.1.toList = ([119,45,50,119,50,45,119,51] : List UInt8) then ((spoondriftlaw01_num.f 1 0 0 0 1).bind fun bt281 => (some (bt244.1 == bt281.1 && (bt244.2.1 == bt281.2.1 && (bt244.2.2.1 == bt281.2.2.1 && (bt244.2.2.2.1 == bt281.2.2.2.1 && (bt244.2.2.2.2.1 == bt281.2.2.2.2))))))) else (some false)) else (some false)) else (some false)))) else (some false)) else (some false))) else (some false))) else (some false))) else (some false))) else (some false))) else (some false)) else (some false)) else (some false)) else (some false)) else (some false)) else (some false)) else (some false)) else (some false)) else (some false)) else (some false)) else (some false)) else (some false))))))))))))))))))))))))))))))
def spoondriftlaw01_awake.T13 : Bool × List (List Nat × List Nat) := (true,[([],[]),([0],[0]),([1],[1]),([2],[2]),([3,2],[2,3]),([2,4],[2,4]),([5,2],[5]),([6],[6]),([7,6],[6,7]),([6,8],[6,8]),([9,6],[9]),([10],[10]),([11,10],[10,11]),([10,12],[10,12]),([13,10],[13]),([14],[14]),([15,14],[14,15]),([14,16],[14,16]),([17,14],[17]),([18],[18]),([19,18],[18,19]),([18,20],[18,20]),([21,18],[21]),([22],[22]),([23,22],[22,23]),([22,24],[22,24]),([25,22],[25]),([26],[26]),([27,26],[26,27]),([26,28],[26,28]),([29,26],[29]),([30],[30]),([31,30],[30,31]),([30,32],[30,32]),([33,30],[33]),([34],[34]),([35,34],[34,35]),([34,36],[34,36]),([37,34],[37]),([38],[38]),([39,38],[38,39]),([38,40],[38,40]),([41,38],[41]),([42],[42]),([43,42],[42,43]),([42,44],[42,44]),([45,42],[45]),([46],[46]),([46,46],[46]),([47,48,46],[46,47,48]),([46,49],[46,49]),([50,48],[50]),([51],[51]),([51,51],[51]),([52,53,51],[51,52,53]),([51,54],[51,54]),([55,53],[55]),([56],[56]),([56,56],[56]),([57,58,56],[56,57,58]),([56,59],[56,59]),([60,58],[60]),([61],[61]),([61,61],[61]),([62,63,61],[61,62,63]),([61,64],[61,64]),([65,63],[65]),([66],[66]),([66,66],[66]),([67,68,66],[66,67,68]),([66,69],[66,69]),([70,68],[70]),([71],[71]),([71,72],[71,72]),([73,71],[73]),([74],[74]),([75,74],[74,75]),([74,76],[74,76]),([77,74],[77]),([78],[78]),([78,78],[78]),([79,80,78],[78,79,80]),([78,81],[78,81]),([82,80],[82]),([83],[83]),([84,83],[83,84]),([83,85],[83,85]),([86,83],[86]),([87],[87]),([88,87],[87,88]),([87,89],[87,89]),([90,87],[90]),([91],[91]),([91,91],[91]),([92,93,91],[91,92,93]),([91,94],[91,94]),([95,93,0,1,2,3,4,5,6,7,8,9,10,11,12,13,14,15,16,17,18,19,20,21,22,23,24,25,26,27,28,29,30,31,32,33,34,35,36,37,38,39,40,41,42,43,44,45,46,47,48,49,50,51,52,53,54,55,56,57,58,59,60,61,62,63,64,65,66,67,68,69,70,71,72,73,74,75,76,77,78,79,80,81,82,83,84,85,86,87,88,89,90,91,92,93,94,95],[95])])
def spoondriftlaw01_awake.B13 : List Nat := [0,1,3,7,15,31,63,127,255,511,1023,2047,4095,8191,16383,32767,65535,131071,262143,524287,1048575,2097151,4194303,8388607,16777215,33554431,67108863,134217727,268435455,536870911,1073741823,2147483647,4294967295,8589934591,17179869183,34359738367,68719476735,137438953471,274877906943,549755813887,1099511627775,2199023255551,4398046511103,8796093022207,17592186044415,35184372088831,70368744177663,140737488355327,140737488355327,562949953421311,1125899906842623,2251799813685247,4503599627370495,4503599627370495,18014398509481983,36028797018963967,72057594037927935,144115188075855871,144115188075855871,576460752303423487,1152921504606846975,2305843009213693951,4611686018427387903,4611686018427387903,18446744073709551615,36893488147419103231,73786976294838206463,147573952589676412927,147573952589676412927,590295810358705651711,1180591620717411303423,2361183241434822606847,4722366482869645213695,9444732965739290427391,18889465931478580854783,37778931862957161709567,75557863725914323419135,151115727451828646838271,302231454903657293676543,604462909807314587353087,604462909807314587353087,2417851639229258349412351,4835703278458516698824703,9671406556917033397649407,19342813113834066795298815,38685626227668133590597631,77371252455336267181195263,154742504910672534362390527,309485009821345068724781055,618970019642690137449562111,1237940039285380274899124223,2475880078570760549798248447,4951760157141521099596496895,4951760157141521099596496895,19807040628566084398385987583,39614081257132168796771975167,79228162514264337593543950335]
theorem spoondriftlaw01_awake.tab13 : rtab .any (opsOf Tryz.f5 13) = spoondriftlaw01_awake.T13 := by kernel_rfl
theorem spoondriftlaw01_awake.bits13 : waitsOk spoondriftlaw01_awake.T13.2 spoondriftlaw01_awake.B13 = true := by kernel_rfl
set_option maxHeartbeats 8000000 in
set_option maxRecDepth 100000 in
theorem spoondriftlaw01_awake.calls  (w : World) (h : spoondriftlaw01_awake.f  = some true) (ht : Go.Proofs.YtepdnjjfhbjcjaaGreatDoor.Tabs w) :
  Calls Tryz.prog 5 #[] w fun e w' => e = .returned (.bool true) ∧ Below w.heap.size w w' := by
 have hu23 := Tryz.underlying23
 have HTABS := Aside0.mk ht
 clear ht
 have HB := Aside0.mk (Below.refl w.heap.size w)
 have H : ((spoondriftlaw01_num.f 2 0 0 0 2).bind fun bt102 => ((ring_Least.f bt102.1 bt102.2.1 bt102.2.2.1 bt102.2.2.2.1 bt102.2.2.2.2).bind fun bt107 => ((spoondriftlaw01_num.f 1 0 1 0 1).bind fun bt114 => ((ring_Least.f bt114.1 bt114.2.1 bt114.2.2.1 bt114.2.2.2.1 bt114.2.2.2.2).bind fun bt119 => ((spoondriftlaw01_num.f 0 1 0 0 0).bind fun bt126 => ((ring_Omega.f 7).bind fun bt131 => ((ring_Mul.f bt126.1 bt126.2.1 bt126.2.2.1 bt126.2.2.2.1 bt126.2.2.2.2 bt131.1 bt131.2.1 bt131.2.2.1 bt131.2.2.2.1 bt131.2.2.2.2).bind fun bt136 => ((spoondriftlaw01_num.f 1 0 0 0 1).bind fun bt143 => ((ring_Dot.f bt143.1 bt143.2.1 bt143.2.2.1 bt143.2.2.2.1 bt143.2.2.2.2).bind fun bt148 => ((spoondriftlaw01_num.f 1 1 0 0 0).bind fun bt155 => ((ring_Norm.f bt155.1 bt155.2.1 bt155.2.2.1 bt155.2.2.2.1 bt155.2.2.2.2).bind fun bt160 => ((spoondriftlaw01_num.f 2 (-1) 0 1 0).bind fun bt167 => ((spoondriftlaw01_num.f 1 0 0 0 0).bind fun bt172 => ((ring_Less.f bt167.1 bt167.2.1 bt167.2.2.1 bt167.2.2.2.1 bt167.2.2.2.2 bt172.1 bt172.2.1 bt172.2.2.1 bt172.2.2.2.1 bt172.2.2.2.2).bind fun bt177 => ((spoondriftlaw01_num.f 2 (-1) 0 1 0).bind fun bt179 => ((spoondriftlaw01_num.f 1 0 0 0 2).bind fun bt184 => ((ring_Less.f bt179.1 bt179.2.1 bt179.2.2.1 bt179.2.2.2.1 bt179.2.2.2.2 bt184.1 bt184.2.1 bt184.2.2.1 bt184.2.2.2.1 bt184.2.2.2.2).bind fun bt189 => ((spoondriftlaw01_num.f 1 0 0 0 0).bind fun bt191 => ((spoondriftlaw01_num.f 1 1 0 0 0).bind fun bt196 => ((ring_Divide.f bt191.1 bt191.2.1 bt191.2.2.1 bt191.2.2.2.1 bt191.2.2.2.2 bt196.1 bt196.2.1 bt196.2.2.1 bt196.2.2.2.1 bt196.2.2.2.2).bind fun bt201 => ((spoondriftlaw01_num.f 1 0 0 0 0).bind fun bt208 => ((spoondriftlaw01_num.f 3 0 0 0 0).bind fun bt213 => ((ring_Divide.f bt208.1 bt208.2.1 bt208.2.2.1 bt208.2.2.2.1 bt208.2.2.2.2 bt213.1 bt213.2.1 bt213.2.2.1 bt213.2.2.2.1 bt213.2.2.2.2).bind fun bt218 => ((spoondriftlaw01_num.f 0 0 1 0 0).bind fun bt225 => ((spoondriftlaw01_num.f 0 (-1) 0 0 0).bind fun bt230 => ((ring_Phase.f bt225.1 bt225.2.1 bt225.2.2.1 bt225.2.2.2.1 bt225.2.2.2.2 bt230.1 bt230.2.1 bt230.2.2.1 bt230.2.2.2.1 bt230.2.2.2.2).bind fun bt235 => ((spoondriftlaw01_num.f 0 1 (-2) (-1) 0).bind fun bt237 => ((ring_Print.f bt237.1 bt237.2.1 bt237.2.2.1 bt237.2.2.2.1 bt237.2.2.2.2).bind fun bt242 => ((ring_Parse.f (⟨#[40,49,41,47,114,49]⟩ : ByteArray)).bind fun bt244 => (if bt107.2.2.2.2.2 = 0 then (if bt119.2.2.2.2.2 = 0 then (if bt136.2.2.2.2.2 = 0 then (if bt148.2.2.2.2.2 = 0 then (if bt160.2.2.2.2.2 = 0 then (if bt177.2 = 0 then (if bt189.2 = 0 then (if bt201.2.2.2.2.2 = 0 then (if bt218.2.2.2.2.2 = 6 then (if bt235.2 = 0 then (if bt242.2 = 0 then (if bt244.2.2.2.2.2 = 0 then ((spoondriftlaw01_num.f 1 0 0 0 0).bind fun bt251 => (if (bt107.1 == bt251.1 && (bt107.2.1 == bt251.2.1 && (bt107.2.2.1 == bt251.2.2.1 && (bt107.2.2.2.1 == bt251.2.2.2.1 && (bt107.2.2.2.2.1 == bt251.2.2.2.2))))) = true then ((spoondriftlaw01_num.f 0 1 0 0 0).bind fun bt256 => (if (bt119.1 == bt256.1 && (bt119.2.1 == bt256.2.1 && (bt119.2.2.1 == bt256.2.2.1 && (bt119.2.2.2.1 == bt256.2.2.2.1 && (bt119.2.2.2.2.1 == bt256.2.2.2.2))))) = true then ((spoondriftlaw01_num.f 1 0 0 0 0).bind fun bt261 => (if (bt136.1 == bt261.1 && (bt136.2.1 == bt261.2.1 && (bt136.2.2.1 == bt261.2.2.1 && (bt136.2.2.2.1 == bt261.2.2.2.1 && (bt136.2.2.2.2.1 == bt261.2.2.2.2))))) = true then ((spoondriftlaw01_num.f (-1) 0 0 0 1).bind fun bt266 => (if (bt148.1 == bt266.1 && (bt148.2.1 == bt266.2.1 && (bt148.2.2.1 == bt266.2.2.1 && (bt148.2.2.2.1 == bt266.2.2.2.1 && (bt148.2.2.2.2.1 == bt266.2.2.2.2))))) = true then ((spoondriftlaw01_num.f 2 1 0 (-1) 0).bind fun bt271 => (if (bt160.1 == bt271.1 && (bt160.2.1 == bt271.2.1 && (bt160.2.2.1 == bt271.2.2.1 && (bt160.2.2.2.1 == bt271.2.2.2.1 && (bt160.2.2.2.2.1 == bt271.2.2.2.2))))) = true then (if bt177.1 = true then (if bt189.1 = true then (some false) else ((spoondriftlaw01_num.f 0 1 (-1) 0 1).bind fun bt276 => (if (bt201.1 == bt276.1 && (bt201.2.1 == bt276.2.1 && (bt201.2.2.1 == bt276.2.2.1 && (bt201.2.2.2.1 == bt276.2.2.2.1 && (bt201.2.2.2.2.1 == bt276.2.2.2.2))))) = true then (if bt235.1 = 5 then (if bt242.1.toList = ([119,45,50,119,50,45,119,51] : List UInt8) then ((spoondriftlaw01_num.f 1 0 0 0 1).bind fun bt281 => (some (bt244.1 == bt281.1 && (bt244.2.1 == bt281.2.1 && (bt244.2.2.1 == bt281.2.2.1 && (bt244.2.2.2.1 == bt281.2.2.2.1 && (bt244.2.2.2.2.1 == bt281.2.2.2.2))))))) else (some false)) else (some false)) else (some false)))) else (some false)) else (some false))) else (some false))) else (some false))) else (some false))) else (some false))) else (some false)) else (some false)) else (some false)) else (some false)) else (some false)) else (some false)) else (some false)) else (some false)) else (some false)) else (some false)) else (some false)) else (some false))))))))))))))))))))))))))))))) = some true := h
 clear h
 replace H := Option.bind_eq_some_iff.mp H
 obtain ⟨⟨t102,t103,t104,t105,t106⟩,A10,H⟩ := H
 dsimp only at H
 have A1 := Aside0.mk A10
 clear A10
 replace H := Option.bind_eq_some_iff.mp H
 obtain ⟨⟨t107,t108,t109,t110,t111,t112⟩,A20,H⟩ := H
 dsimp only at H
 have A2 := Aside0.mk A20
 clear A20
 replace H := Option.bind_eq_some_iff.mp H
 obtain ⟨⟨t114,t115,t116,t117,t118⟩,A30,H⟩ := H
 dsimp only at H
 have A3 := Aside0.mk A30
 clear A30
 replace H := Option.bind_eq_some_iff.mp H
 obtain ⟨⟨t119,t120,t121,t122,t123,t124⟩,A40,H⟩ := H
 dsimp only at H
 have A4 := Aside0.mk A40
 clear A40
 replace H := Option.bind_eq_some_iff.mp H
 obtain ⟨⟨t126,t127,t128,t129,t130⟩,A50,H⟩ := H
 dsimp only at H
 have A5 := Aside0.mk A50
 clear A50
 replace H := Option.bind_eq_some_iff.mp H
 obtain ⟨⟨t131,t132,t133,t134,t135⟩,A60,H⟩ := H
 dsimp only at H
 have A6 := Aside0.mk A60
 clear A60
 replace H := Option.bind_eq_some_iff.mp H
 obtain ⟨⟨t136,t137,t138,t139,t140,t141⟩,A70,H⟩ := H
 dsimp only at H
 have A7 := Aside0.mk A70
 clear A70
 replace H := Option.bind_eq_some_iff.mp H
 obtain ⟨⟨t143,t144,t145,t146,t147⟩,A80,H⟩ := H
 dsimp only at H
 have A8 := Aside0.mk A80
 clear A80
 replace H := Option.bind_eq_some_iff.mp H
 obtain ⟨⟨t148,t149,t150,t151,t152,t153⟩,A90,H⟩ := H
 dsimp only at H
 have A9 := Aside0.mk A90
 clear A90
 replace H := Option.bind_eq_some_iff.mp H
 obtain ⟨⟨t155,t156,t157,t158,t159⟩,A100,H⟩ := H
 dsimp only at H
 have A10 := Aside0.mk A100
 clear A100
 replace H := Option.bind_eq_some_iff.mp H
 obtain ⟨⟨t160,t161,t162,t163,t164,t165⟩,A110,H⟩ := H
 dsimp only at H
 have A11 := Aside0.mk A110
 clear A110
 replace H := Option.bind_eq_some_iff.mp H
 obtain ⟨⟨t167,t168,t169,t170,t171⟩,A120,H⟩ := H
 dsimp only at H
 have A12 := Aside0.mk A120
 clear A120
 replace H := Option.bind_eq_some_iff.mp H
 obtain ⟨⟨t172,t173,t174,t175,t176⟩,A130,H⟩ := H
 dsimp only at H
 have A13 := Aside0.mk A130
 clear A130
 replace H := Option.bind_eq_some_iff.mp H
 obtain ⟨⟨t177,t178⟩,A140,H⟩ := H
 dsimp only at H
 have A14 := Aside0.mk A140
 clear A140
 replace H := Option.bind_eq_some_iff.mp H
 obtain ⟨⟨t179,t180,t181,t182,t183⟩,A150,H⟩ := H
 dsimp only at H
 have A15 := Aside0.mk A150
 clear A150
 replace H := Option.bind_eq_some_iff.mp H
 obtain ⟨⟨t184,t185,t186,t187,t188⟩,A160,H⟩ := H
 dsimp only at H
 have A16 := Aside0.mk A160
 clear A160
 replace H := Option.bind_eq_some_iff.mp H
 obtain ⟨⟨t189,t190⟩,A170,H⟩ := H
 dsimp only at H
 have A17 := Aside0.mk A170
 clear A170
 replace H := Option.bind_eq_some_iff.mp H
 obtain ⟨⟨t191,t192,t193,t194,t195⟩,A180,H⟩ := H
 dsimp only at H
 have A18 := Aside0.mk A180
 clear A180
 replace H := Option.bind_eq_some_iff.mp H
 obtain ⟨⟨t196,t197,t198,t199,t200⟩,A190,H⟩ := H
 dsimp only at H
 have A19 := Aside0.mk A190
 clear A190
 replace H := Option.bind_eq_some_iff.mp H
 obtain ⟨⟨t201,t202,t203,t204,t205,t206⟩,A200,H⟩ := H
 dsimp only at H
 have A20 := Aside0.mk A200
 clear A200
 replace H := Option.bind_eq_some_iff.mp H
 obtain ⟨⟨t208,t209,t210,t211,t212⟩,A210,H⟩ := H
 dsimp only at H
 have A21 := Aside0.mk A210
 clear A210
 replace H := Option.bind_eq_some_iff.mp H
 obtain ⟨⟨t213,t214,t215,t216,t217⟩,A220,H⟩ := H
 dsimp only at H
 have A22 := Aside0.mk A220
 clear A220
 replace H := Option.bind_eq_some_iff.mp H
 obtain ⟨⟨t218,t219,t220,t221,t222,t223⟩,A230,H⟩ := H
 dsimp only at H
 have A23 := Aside0.mk A230
 clear A230
 replace H := Option.bind_eq_some_iff.mp H
 obtain ⟨⟨t225,t226,t227,t228,t229⟩,A240,H⟩ := H
 dsimp only at H
 have A24 := Aside0.mk A240
 clear A240
 replace H := Option.bind_eq_some_iff.mp H
 obtain ⟨⟨t230,t231,t232,t233,t234⟩,A250,H⟩ := H
 dsimp only at H
 have A25 := Aside0.mk A250
 clear A250
 replace H := Option.bind_eq_some_iff.mp H
 obtain ⟨⟨t235,t236⟩,A260,H⟩ := H
 dsimp only at H
 have A26 := Aside0.mk A260
 clear A260
 replace H := Option.bind_eq_some_iff.mp H
 obtain ⟨⟨t237,t238,t239,t240,t241⟩,A270,H⟩ := H
 dsimp only at H
 have A27 := Aside0.mk A270
 clear A270
 replace H := Option.bind_eq_some_iff.mp H
 obtain ⟨⟨t242,t243⟩,A280,H⟩ := H
 dsimp only at H
 have A28 := Aside0.mk A280
 clear A280
 replace H := Option.bind_eq_some_iff.mp H
 obtain ⟨⟨t244,t245,t246,t247,t248,t249⟩,A290,H⟩ := H
 dsimp only at H
 have A29 := Aside0.mk A290
 clear A290
 by_cases c30 : t112 = 0
 ·rw [if_pos c30] at H
  have c30b0 : (t112 == 0) = true := beq_iff_eq.mpr c30
  have c30b1 : (t112 != 0) = false := bne_eq_false_iff_eq.mpr c30
  clear c30
  by_cases c31 : t124 = 0
  ·rw [if_pos c31] at H
   have c31b0 : (t124 == 0) = true := beq_iff_eq.mpr c31
   have c31b1 : (t124 != 0) = false := bne_eq_false_iff_eq.mpr c31
   clear c31
   by_cases c32 : t141 = 0
   ·rw [if_pos c32] at H
    have c32b0 : (t141 == 0) = true := beq_iff_eq.mpr c32
    have c32b1 : (t141 != 0) = false := bne_eq_false_iff_eq.mpr c32
    clear c32
    by_cases c33 : t153 = 0
    ·rw [if_pos c33] at H
     have c33b0 : (t153 == 0) = true := beq_iff_eq.mpr c33
     have c33b1 : (t153 != 0) = false := bne_eq_false_iff_eq.mpr c33
     clear c33
     by_cases c34 : t165 = 0
     ·rw [if_pos c34] at H
      have c34b0 : (t165 == 0) = true := beq_iff_eq.mpr c34
      have c34b1 : (t165 != 0) = false := bne_eq_false_iff_eq.mpr c34
      clear c34
      by_cases c35 : t178 = 0
      ·rw [if_pos c35] at H
       have c35b0 : (t178 == 0) = true := beq_iff_eq.mpr c35
       have c35b1 : (t178 != 0) = false := bne_eq_false_iff_eq.mpr c35
       clear c35
       by_cases c36 : t190 = 0
       ·rw [if_pos c36] at H
        have c36b0 : (t190 == 0) = true := beq_iff_eq.mpr c36
        have c36b1 : (t190 != 0) = false := bne_eq_false_iff_eq.mpr c36
        clear c36
        by_cases c37 : t206 = 0
        ·rw [if_pos c37] at H
         have c37b0 : (t206 == 0) = true := beq_iff_eq.mpr c37
         have c37b1 : (t206 != 0) = false := bne_eq_false_iff_eq.mpr c37
         clear c37
         by_cases c38 : t223 = 6
         ·rw [if_pos c38] at H
          have c38b0 : (t223 == 6) = true := beq_iff_eq.mpr c38
          have c38b1 : (t223 != 6) = false := bne_eq_false_iff_eq.mpr c38
          clear c38
          by_cases c39 : t236 = 0
          ·rw [if_pos c39] at H
           have c39b0 : (t236 == 0) = true := beq_iff_eq.mpr c39
           have c39b1 : (t236 != 0) = false := bne_eq_false_iff_eq.mpr c39
           clear c39
           by_cases c40 : t243 = 0
           ·rw [if_pos c40] at H
            have c40b0 : (t243 == 0) = true := beq_iff_eq.mpr c40
            have c40b1 : (t243 != 0) = false := bne_eq_false_iff_eq.mpr c40
            clear c40
            by_cases c41 : t249 = 0
            ·rw [if_pos c41] at H
             have c41b0 : (t249 == 0) = true := beq_iff_eq.mpr c41
             have c41b1 : (t249 != 0) = false := bne_eq_false_iff_eq.mpr c41
             clear c41
             replace H := Option.bind_eq_some_iff.mp H
             obtain ⟨⟨t251,t252,t253,t254,t255⟩,A420,H⟩ := H
             dsimp only at H
             have A42 := Aside0.mk A420
             clear A420
             by_cases c43 : (t107 == t251 && (t108 == t252 && (t109 == t253 && (t110 == t254 && (t111 == t255))))) = true
             ·rw [if_pos c43] at H
              have c43b0 : (t107 == t251 && (t108 == t252 && (t109 == t253 && (t110 == t254 && (t111 == t255))))) = true := c43
              (try (have c43b1 : decide (t107 = t251 && (t108 == t252 && (t109 == t253 && (t110 == t254 && (t111 == t255))))) = true := by simpa using c43))
              (try (have c43b2 : (t107 == t251 && (t108 == t252 && (t109 == t253 && (t110 == t254 && (t111 == t255))))) = true := by simpa using c43))
              clear c43
              replace H := Option.bind_eq_some_iff.mp H
              obtain ⟨⟨t256,t257,t258,t259,t260⟩,A440,H⟩ := H
              dsimp only at H
              have A44 := Aside0.mk A440
              clear A440
              by_cases c45 : (t119 == t256 && (t120 == t257 && (t121 == t258 && (t122 == t259 && (t123 == t260))))) = true
              ·rw [if_pos c45] at H
               have c45b0 : (t119 == t256 && (t120 == t257 && (t121 == t258 && (t122 == t259 && (t123 == t260))))) = true := c45
               (try (have c45b1 : decide (t119 = t256 && (t120 == t257 && (t121 == t258 && (t122 == t259 && (t123 == t260))))) = true := by simpa using c45))
               (try (have c45b2 : (t119 == t256 && (t120 == t257 && (t121 == t258 && (t122 == t259 && (t123 == t260))))) = true := by simpa using c45))
               clear c45
               replace H := Option.bind_eq_some_iff.mp H
               obtain ⟨⟨t261,t262,t263,t264,t265⟩,A460,H⟩ := H
               dsimp only at H
               have A46 := Aside0.mk A460
               clear A460
               by_cases c47 : (t136 == t261 && (t137 == t262 && (t138 == t263 && (t139 == t264 && (t140 == t265))))) = true
               ·rw [if_pos c47] at H
                have c47b0 : (t136 == t261 && (t137 == t262 && (t138 == t263 && (t139 == t264 && (t140 == t265))))) = true := c47
                (try (have c47b1 : decide (t136 = t261 && (t137 == t262 && (t138 == t263 && (t139 == t264 && (t140 == t265))))) = true := by simpa using c47))
                (try (have c47b2 : (t136 == t261 && (t137 == t262 && (t138 == t263 && (t139 == t264 && (t140 == t265))))) = true := by simpa using c47))
                clear c47
                replace H := Option.bind_eq_some_iff.mp H
                obtain ⟨⟨t266,t267,t268,t269,t270⟩,A480,H⟩ := H
                dsimp only at H
                have A48 := Aside0.mk A480
                clear A480
                by_cases c49 : (t148 == t266 && (t149 == t267 && (t150 == t268 && (t151 == t269 && (t152 == t270))))) = true
                ·rw [if_pos c49] at H
                 have c49b0 : (t148 == t266 && (t149 == t267 && (t150 == t268 && (t151 == t269 && (t152 == t270))))) = true := c49
                 (try (have c49b1 : decide (t148 = t266 && (t149 == t267 && (t150 == t268 && (t151 == t269 && (t152 == t270))))) = true := by simpa using c49))
                 (try (have c49b2 : (t148 == t266 && (t149 == t267 && (t150 == t268 && (t151 == t269 && (t152 == t270))))) = true := by simpa using c49))
                 clear c49
                 replace H := Option.bind_eq_some_iff.mp H
                 obtain ⟨⟨t271,t272,t273,t274,t275⟩,A500,H⟩ := H
                 dsimp only at H
                 have A50 := Aside0.mk A500
                 clear A500
                 by_cases c51 : (t160 == t271 && (t161 == t272 && (t162 == t273 && (t163 == t274 && (t164 == t275))))) = true
                 ·rw [if_pos c51] at H
                  have c51b0 : (t160 == t271 && (t161 == t272 && (t162 == t273 && (t163 == t274 && (t164 == t275))))) = true := c51
                  (try (have c51b1 : decide (t160 = t271 && (t161 == t272 && (t162 == t273 && (t163 == t274 && (t164 == t275))))) = true := by simpa using c51))
                  (try (have c51b2 : (t160 == t271 && (t161 == t272 && (t162 == t273 && (t163 == t274 && (t164 == t275))))) = true := by simpa using c51))
                  clear c51
                  by_cases c52 : t177 = true
                  ·subst c52
                   have H1 : (if t189 = true then (some false) else ((spoondriftlaw01_num.f 0 1 (-1) 0 1).bind fun bt276 => (if (t201 == bt276.1 && (t202 == bt276.2.1 && (t203 == bt276.2.2.1 && (t204 == bt276.2.2.2.1 && (t205 == bt276.2.2.2.2))))) = true then (if t235 = 5 then (if t242.toList = ([119,45,50,119,50,45,119,51] : List UInt8) then ((spoondriftlaw01_num.f 1 0 0 0 1).bind fun bt281 => (some (t244 == bt281.1 && (t245 == bt281.2.1 && (t246 == bt281.2.2.1 && (t247 == bt281.2.2.2.1 && (t248 == bt281.2.2.2.2))))))) else (some false)) else (some false)) else (some false)))) = some true := by rw [if_pos rfl] at H; exact H
                   clear H
                   have H := H1
                   clear H1
                   by_cases c53 : t189 = true
                   ·subst c53
                    have H1 : (some false) = some true := by rw [if_pos rfl] at H; exact H
                    clear H
                    have H := H1
                    clear H1
                    exact absurd H (by simp)
                   ·replace c53 := Bool.eq_false_iff.mpr c53
                    subst c53
                    have H1 : ((spoondriftlaw01_num.f 0 1 (-1) 0 1).bind fun bt276 => (if (t201 == bt276.1 && (t202 == bt276.2.1 && (t203 == bt276.2.2.1 && (t204 == bt276.2.2.2.1 && (t205 == bt276.2.2.2.2))))) = true then (if t235 = 5 then (if t242.toList = ([119,45,50,119,50,45,119,51] : List UInt8) then ((spoondriftlaw01_num.f 1 0 0 0 1).bind fun bt281 => (some (t244 == bt281.1 && (t245 == bt281.2.1 && (t246 == bt281.2.2.1 && (t247 == bt281.2.2.2.1 && (t248 == bt281.2.2.2.2))))))) else (some false)) else (some false)) else (some false))) = some true := by rw [if_neg (show ¬ (false = true) by decide)] at H; exact H
                    clear H
                    have H := H1
                    clear H1
                    replace H := Option.bind_eq_some_iff.mp H
                    obtain ⟨⟨t276,t277,t278,t279,t280⟩,A540,H⟩ := H
                    dsimp only at H
                    have A54 := Aside0.mk A540
                    clear A540
                    by_cases c55 : (t201 == t276 && (t202 == t277 && (t203 == t278 && (t204 == t279 && (t205 == t280))))) = true
                    ·rw [if_pos c55] at H
                     have c55b0 : (t201 == t276 && (t202 == t277 && (t203 == t278 && (t204 == t279 && (t205 == t280))))) = true := c55
                     (try (have c55b1 : decide (t201 = t276 && (t202 == t277 && (t203 == t278 && (t204 == t279 && (t205 == t280))))) = true := by simpa using c55))
                     (try (have c55b2 : (t201 == t276 && (t202 == t277 && (t203 == t278 && (t204 == t279 && (t205 == t280))))) = true := by simpa using c55))
                     clear c55
                     by_cases c56 : t235 = 5
                     ·rw [if_pos c56] at H
                      have c56b0 : (t235 == 5) = true := beq_iff_eq.mpr c56
                      have c56b1 : (t235 != 5) = false := bne_eq_false_iff_eq.mpr c56
                      clear c56
                      by_cases c57 : t242.toList = ([119,45,50,119,50,45,119,51] : List UInt8)
                      ·rw [if_pos c57] at H
                       have c57b0 : (t242.toList == ([119,45,50,119,50,45,119,51] : List UInt8)) = true := beq_iff_eq.mpr c57
                       have c57b1 : (t242.toList != ([119,45,50,119,50,45,119,51] : List UInt8)) = false := bne_eq_false_iff_eq.mpr c57
                       clear c57
                       replace H := Option.bind_eq_some_iff.mp H
                       obtain ⟨⟨t281,t282,t283,t284,t285⟩,A580,H⟩ := H
                       replace H : (some (t244 == t281 && (t245 == t282 && (t246 == t283 && (t247 == t284 && (t248 == t285)))))) = some true := H
                       have A58 := Aside0.mk A580
                       clear A580
                       have HE_ := Aside0.mk (Option.some.inj H)
                       go_enter Tryz.func5,Tryz.ntmps5
                       try go_wp2_with (first | ((with_reducible refine gate_callee (f := 14) rfl ?_); refine goesL_ (some 26) rfl rfl Tryz.func14 (by kernel_rfl) rfl #[.int .i64 2,.int .i64 0,.int .i64 0,.int .i64 0,.int .i64 2] rfl (by (try simp only [List.map_toArray,List.map_cons,List.map_nil]); first | done | rfl | (simp only [List.length_drop,List.length_take]; rfl)) ?_; (with_reducible refine (spoondriftlaw01_num.calls 2 0 0 0 2 t102 t103 t104 t105 t106 _ A1.out).mono ?_); rintro e w59 ⟨rfl,hb⟩; refine ⟨_,rfl,?_⟩; have n0_ := Aside0.mk (below_step (by repeat (first | (with_reducible first | exact HB.out | apply below_alloc | apply pw_below_drewN | apply below_drew1) | exact HB.out)) hb); clear HB; have HB := n0_; clear n0_; (try clear hb); (try clear hb2); (try clear hk); (try clear hi)) | ((with_reducible refine gate_callee (f := 18) rfl ?_); refine goesL_ (some 27) rfl rfl Tryz.func18 (by kernel_rfl) rfl #[.agg #[.int .i64 t102,.int .i64 t103,.int .i64 t104,.int .i64 t105,.int .i64 t106]] rfl (by (try simp only [List.map_toArray,List.map_cons,List.map_nil]); first | done | rfl | (simp only [List.length_drop,List.length_take]; rfl)) ?_; (with_reducible refine (ring_Least.calls t102 t103 t104 t105 t106 t107 t108 t109 t110 t111 t112 _ A2.out).mono ?_); rintro e w60 ⟨rfl,hb⟩; refine ⟨_,rfl,?_⟩; have n0_ := Aside0.mk (below_step (by repeat (first | (with_reducible first | exact HB.out | apply below_alloc | apply pw_below_drewN | apply below_drew1) | exact HB.out)) hb); clear HB; have HB := n0_; clear n0_; (try clear hb); (try clear hb2); (try clear hk); (try clear hi)) | ((with_reducible refine gate_dst (N := 1) rfl ?_); refine box_event ?hg (N := 1) ?hd (cs := #[.int .i64 0,.int .i64 0,.int .i64 0,.int .i64 0,.int .i64 0]) (t := 23) ?hr ?_; (case hd => rfl); (case hg => rfl); (case hr => first | (go_simp; done) | (go_simp; rfl)); intro gb113 hg w61 hbox hb; have n0_ := Aside0.mk (below_step (by repeat (first | (with_reducible first | exact HB.out | apply below_alloc | apply pw_below_drewN | apply below_drew1) | exact HB.out)) hb); have n1_ := Aside0.mk (hbox); have n2_ := Aside0.mk ((by rw [hg]; exact (below_size (by repeat (first | (with_reducible first | exact HB.out | apply below_alloc | apply pw_below_drewN | apply below_drew1) | exact HB.out))) : w.heap.size ≤ gb113)); have n3_ := Aside0.mk ((by rw [hg]; exact (below_size (by repeat (first | (with_reducible first | exact HB.out | apply below_alloc | apply pw_below_drewN | apply below_drew1) | exact HB.out))) : w.heap.size ≤ gb113)); clear HB; have HB := n0_; have BK113 := n1_; have GW113 := n2_; have GE113 := n3_; clear n0_ n1_ n2_ n3_; clear hb hbox hg; have hcz62_0 : w61.cell? ⟨gb113,0,none⟩ = some (.int .i64 0) := (blk_cell BK113.out 0).trans rfl; have hcz62_1 : w61.cell? ⟨gb113,1,none⟩ = some (.int .i64 0) := (blk_cell BK113.out 1).trans rfl; have hcz62_2 : w61.cell? ⟨gb113,2,none⟩ = some (.int .i64 0) := (blk_cell BK113.out 2).trans rfl; have hcz62_3 : w61.cell? ⟨gb113,3,none⟩ = some (.int .i64 0) := (blk_cell BK113.out 3).trans rfl; have hcz62_4 : w61.cell? ⟨gb113,4,none⟩ = some (.int .i64 0) := (blk_cell BK113.out 4).trans rfl; have hfz62_0 := blk_frozen BK113.out 0; have hfz62_1 := blk_frozen BK113.out 1; have hfz62_2 := blk_frozen BK113.out 2; have hfz62_3 := blk_frozen BK113.out 3; have hfz62_4 := blk_frozen BK113.out 4) | ((with_reducible refine gate_callee (f := 14) rfl ?_); refine goesL_ (some 31) rfl rfl Tryz.func14 (by kernel_rfl) rfl #[.int .i64 1,.int .i64 0,.int .i64 1,.int .i64 0,.int .i64 1] rfl (by (try simp only [List.map_toArray,List.map_cons,List.map_nil]); first | done | rfl | (simp only [List.length_drop,List.length_take]; rfl)) ?_; (with_reducible refine (spoondriftlaw01_num.calls 1 0 1 0 1 t114 t115 t116 t117 t118 _ A3.out).mono ?_); rintro e w63 ⟨rfl,hb⟩; refine ⟨_,rfl,?_⟩; have n0_ := Aside0.mk (blk_below (g := gb113) (o := .cells #[.int .i64 t107,.int .i64 t108,.int .i64 t109,.int .i64 t110,.int .i64 t111] 23 (0,0)) (by (with_reducible repeat (first|refine bD ?_ _|refine bE ?_|refine bA ?_ _)); refine blk_put (cs := #[.int .i64 t107,.int .i64 t108,.int .i64 t109,.int .i64 t110,.int .i64 0]) ?_ 4 _ rfl; (with_reducible repeat (first|refine bD ?_ _|refine bE ?_|refine bA ?_ _)); refine blk_put (cs := #[.int .i64 t107,.int .i64 t108,.int .i64 t109,.int .i64 0,.int .i64 0]) ?_ 3 _ rfl; (with_reducible repeat (first|refine bD ?_ _|refine bE ?_|refine bA ?_ _)); refine blk_put (cs := #[.int .i64 t107,.int .i64 t108,.int .i64 0,.int .i64 0,.int .i64 0]) ?_ 2 _ rfl; (with_reducible repeat (first|refine bD ?_ _|refine bE ?_|refine bA ?_ _)); refine blk_put (cs := #[.int .i64 t107,.int .i64 0,.int .i64 0,.int .i64 0,.int .i64 0]) ?_ 1 _ rfl; (with_reducible repeat (first|refine bD ?_ _|refine bE ?_|refine bA ?_ _)); refine blk_put (cs := #[.int .i64 0,.int .i64 0,.int .i64 0,.int .i64 0,.int .i64 0]) ?_ 0 _ rfl; (with_reducible repeat (first|refine bD ?_ _|refine bE ?_|refine bA ?_ _)); exact BK113.out) hb); have n1_ := Aside0.mk (below_step (by repeat (first | (with_reducible first | exact HB.out | apply below_alloc | apply pw_below_drewN | apply below_drew1 | refine below_set ?_ GE113.out) | exact HB.out)) hb); clear BK113; clear HB; have BK113 := n0_; have HB := n1_; clear n0_ n1_; (try clear hb); (try clear hb2); (try clear hk); (try clear hi)) | ((with_reducible refine gate_callee (f := 18) rfl ?_); refine goesL_ (some 32) rfl rfl Tryz.func18 (by kernel_rfl) rfl #[.agg #[.int .i64 t114,.int .i64 t115,.int .i64 t116,.int .i64 t117,.int .i64 t118]] rfl (by (try simp only [List.map_toArray,List.map_cons,List.map_nil]); first | done | rfl | (simp only [List.length_drop,List.length_take]; rfl)) ?_; (with_reducible refine (ring_Least.calls t114 t115 t116 t117 t118 t119 t120 t121 t122 t123 t124 _ A4.out).mono ?_); rintro e w64 ⟨rfl,hb⟩; refine ⟨_,rfl,?_⟩; have n0_ := Aside0.mk (blk_below (g := gb113) (o := .cells #[.int .i64 t107,.int .i64 t108,.int .i64 t109,.int .i64 t110,.int .i64 t111] 23 (0,0)) (by (with_reducible repeat (first|refine bD ?_ _|refine bE ?_|refine bA ?_ _)); exact BK113.out) hb); have n1_ := Aside0.mk (below_step (by repeat (first | (with_reducible first | exact HB.out | apply below_alloc | apply pw_below_drewN | apply below_drew1 | refine below_set ?_ GE113.out) | exact HB.out)) hb); clear BK113; clear HB; have BK113 := n0_; have HB := n1_; clear n0_ n1_; (try clear hb); (try clear hb2); (try clear hk); (try clear hi)) | ((with_reducible refine gate_dst (N := 3) rfl ?_); refine box_event ?hg (N := 3) ?hd (cs := #[.int .i64 0,.int .i64 0,.int .i64 0,.int .i64 0,.int .i64 0]) (t := 23) ?hr ?_; (case hd => rfl); (case hg => rfl); (case hr => first | (go_simp; done) | (go_simp; rfl)); intro gb125 hg w65 hbox hb; have n0_ := Aside0.mk (blk_below (g := gb113) (o := .cells #[.int .i64 t107,.int .i64 t108,.int .i64 t109,.int .i64 t110,.int .i64 t111] 23 (0,0)) (by (with_reducible repeat (first|refine bD ?_ _|refine bE ?_|refine bA ?_ _)); exact BK113.out) hb); have n1_ := Aside0.mk (below_step (by repeat (first | (with_reducible first | exact HB.out | apply below_alloc | apply pw_below_drewN | apply below_drew1 | refine below_set ?_ GE113.out) | exact HB.out)) hb); have n2_ := Aside0.mk (hbox); have n3_ := Aside0.mk ((by rw [hg]; exact (below_size (by repeat (first | (with_reducible first | exact HB.out | apply below_alloc | apply pw_below_drewN | apply below_drew1 | refine below_set ?_ GE113.out) | exact HB.out))) : w.heap.size ≤ gb125)); have n4_ := Aside0.mk ((by rw [hg]; exact (below_size (by repeat (first | (with_reducible first | exact HB.out | apply below_alloc | apply pw_below_drewN | apply below_drew1 | refine below_set ?_ GE113.out) | exact HB.out))) : w.heap.size ≤ gb125)); have n5_ := Aside0.mk ((by rw [hg]; exact Nat.ne_of_lt (blk_lt (g := gb113) (o := .cells #[.int .i64 t107,.int .i64 t108,.int .i64 t109,.int .i64 t110,.int .i64 t111] 23 (0,0)) (by (with_reducible repeat (first|refine bD ?_ _|refine bE ?_|refine bA ?_ _)); exact BK113.out)) : gb113 ≠ gb125)); have n6_ := Aside0.mk ((by rw [hg]; exact Nat.ne_of_gt (blk_lt (g := gb113) (o := .cells #[.int .i64 t107,.int .i64 t108,.int .i64 t109,.int .i64 t110,.int .i64 t111] 23 (0,0)) (by (with_reducible repeat (first|refine bD ?_ _|refine bE ?_|refine bA ?_ _)); exact BK113.out)) : gb125 ≠ gb113)); clear BK113; clear HB; have BK113 := n0_; have HB := n1_; have BK125 := n2_; have GW125 := n3_; have GE125 := n4_; have NB113_125 := n5_; have NB125_113 := n6_; clear n0_ n1_ n2_ n3_ n4_ n5_ n6_; clear hb hbox hg; have hnb66 := NB125_113.out; have hnc66 := NB113_125.out; have hcz67_0 : w65.cell? ⟨gb125,0,none⟩ = some (.int .i64 0) := (blk_cell BK125.out 0).trans rfl; have hcz67_1 : w65.cell? ⟨gb125,1,none⟩ = some (.int .i64 0) := (blk_cell BK125.out 1).trans rfl; have hcz67_2 : w65.cell? ⟨gb125,2,none⟩ = some (.int .i64 0) := (blk_cell BK125.out 2).trans rfl; have hcz67_3 : w65.cell? ⟨gb125,3,none⟩ = some (.int .i64 0) := (blk_cell BK125.out 3).trans rfl; have hcz67_4 : w65.cell? ⟨gb125,4,none⟩ = some (.int .i64 0) := (blk_cell BK125.out 4).trans rfl; have hfz67_0 := blk_frozen BK125.out 0; have hfz67_1 := blk_frozen BK125.out 1; have hfz67_2 := blk_frozen BK125.out 2; have hfz67_3 := blk_frozen BK125.out 3; have hfz67_4 := blk_frozen BK125.out 4) | ((with_reducible refine gate_callee (f := 14) rfl ?_); refine goesL_ (some 36) rfl rfl Tryz.func14 (by kernel_rfl) rfl #[.int .i64 0,.int .i64 1,.int .i64 0,.int .i64 0,.int .i64 0] rfl (by (try simp only [List.map_toArray,List.map_cons,List.map_nil]); first | done | rfl | (simp only [List.length_drop,List.length_take]; rfl)) ?_; (with_reducible refine (spoondriftlaw01_num.calls 0 1 0 0 0 t126 t127 t128 t129 t130 _ A5.out).mono ?_); rintro e w68 ⟨rfl,hb⟩; refine ⟨_,rfl,?_⟩; have n0_ := Aside0.mk (blk_below (g := gb113) (o := .cells #[.int .i64 t107,.int .i64 t108,.int .i64 t109,.int .i64 t110,.int .i64 t111] 23 (0,0)) (by (with_reducible repeat (first|refine bD ?_ _|refine bE ?_|refine bA ?_ _)); refine blk_far ?_ NB113_125.out _; (with_reducible repeat (first|refine bD ?_ _|refine bE ?_|refine bA ?_ _)); refine blk_far ?_ NB113_125.out _; (with_reducible repeat (first|refine bD ?_ _|refine bE ?_|refine bA ?_ _)); refine blk_far ?_ NB113_125.out _; (with_reducible repeat (first|refine bD ?_ _|refine bE ?_|refine bA ?_ _)); refine blk_far ?_ NB113_125.out _; (with_reducible repeat (first|refine bD ?_ _|refine bE ?_|refine bA ?_ _)); refine blk_far ?_ NB113_125.out _; (with_reducible repeat (first|refine bD ?_ _|refine bE ?_|refine bA ?_ _)); exact BK113.out) hb); have n1_ := Aside0.mk (blk_below (g := gb125) (o := .cells #[.int .i64 t119,.int .i64 t120,.int .i64 t121,.int .i64 t122,.int .i64 t123] 23 (0,0)) (by (with_reducible repeat (first|refine bD ?_ _|refine bE ?_|refine bA ?_ _)); refine blk_put (cs := #[.int .i64 t119,.int .i64 t120,.int .i64 t121,.int .i64 t122,.int .i64 0]) ?_ 4 _ rfl; (with_reducible repeat (first|refine bD ?_ _|refine bE ?_|refine bA ?_ _)); refine blk_put (cs := #[.int .i64 t119,.int .i64 t120,.int .i64 t121,.int .i64 0,.int .i64 0]) ?_ 3 _ rfl; (with_reducible repeat (first|refine bD ?_ _|refine bE ?_|refine bA ?_ _)); refine blk_put (cs := #[.int .i64 t119,.int .i64 t120,.int .i64 0,.int .i64 0,.int .i64 0]) ?_ 2 _ rfl; (with_reducible repeat (first|refine bD ?_ _|refine bE ?_|refine bA ?_ _)); refine blk_put (cs := #[.int .i64 t119,.int .i64 0,.int .i64 0,.int .i64 0,.int .i64 0]) ?_ 1 _ rfl; (with_reducible repeat (first|refine bD ?_ _|refine bE ?_|refine bA ?_ _)); refine blk_put (cs := #[.int .i64 0,.int .i64 0,.int .i64 0,.int .i64 0,.int .i64 0]) ?_ 0 _ rfl; (with_reducible repeat (first|refine bD ?_ _|refine bE ?_|refine bA ?_ _)); exact BK125.out) hb); have n2_ := Aside0.mk (below_step (by repeat (first | (with_reducible first | exact HB.out | apply below_alloc | apply pw_below_drewN | apply below_drew1 | refine below_set ?_ GE113.out | refine below_set ?_ GE125.out) | exact HB.out)) hb); clear BK113; clear BK125; clear HB; have BK113 := n0_; have BK125 := n1_; have HB := n2_; clear n0_ n1_ n2_; (try clear hb); (try clear hb2); (try clear hk); (try clear hi)) | ((with_reducible refine gate_callee (f := 12) rfl ?_); refine goesL_ (some 37) rfl rfl Tryz.func12 (by kernel_rfl) rfl #[.int .i64 7] rfl (by (try simp only [List.map_toArray,List.map_cons,List.map_nil]); first | done | rfl | (simp only [List.length_drop,List.length_take]; rfl)) ?_; (with_reducible refine (ring_Omega.calls 7 t131 t132 t133 t134 t135 _ A6.out).mono ?_); rintro e w69 ⟨rfl,hb⟩; refine ⟨_,rfl,?_⟩; have n0_ := Aside0.mk (blk_below (g := gb113) (o := .cells #[.int .i64 t107,.int .i64 t108,.int .i64 t109,.int .i64 t110,.int .i64 t111] 23 (0,0)) (by (with_reducible repeat (first|refine bD ?_ _|refine bE ?_|refine bA ?_ _)); exact BK113.out) hb); have n1_ := Aside0.mk (blk_below (g := gb125) (o := .cells #[.int .i64 t119,.int .i64 t120,.int .i64 t121,.int .i64 t122,.int .i64 t123] 23 (0,0)) (by (with_reducible repeat (first|refine bD ?_ _|refine bE ?_|refine bA ?_ _)); exact BK125.out) hb); have n2_ := Aside0.mk (below_step (by repeat (first | (with_reducible first | exact HB.out | apply below_alloc | apply pw_below_drewN | apply below_drew1 | refine below_set ?_ GE113.out | refine below_set ?_ GE125.out) | exact HB.out)) hb); clear BK113; clear BK125; clear HB; have BK113 := n0_; have BK125 := n1_; have HB := n2_; clear n0_ n1_ n2_; (try clear hb); (try clear hb2); (try clear hk); (try clear hi)) | ((with_reducible refine gate_callee (f := 19) rfl ?_); refine goesL_ (some 38) rfl rfl Tryz.func19 (by kernel_rfl) rfl #[.agg #[.int .i64 t126,.int .i64 t127,.int .i64 t128,.int .i64 t129,.int .i64 t130],.agg #[.int .i64 t131,.int .i64 t132,.int .i64 t133,.int .i64 t134,.int .i64 t135]] rfl (by (try simp only [List.map_toArray,List.map_cons,List.map_nil]); first | done | rfl | (simp only [List.length_drop,List.length_take]; rfl)) ?_; (with_reducible refine (ring_Mul.calls t126 t127 t128 t129 t130 t131 t132 t133 t134 t135 t136 t137 t138 t139 t140 t141 _ A7.out).mono ?_); rintro e w70 ⟨rfl,hb⟩; refine ⟨_,rfl,?_⟩; have n0_ := Aside0.mk (blk_below (g := gb113) (o := .cells #[.int .i64 t107,.int .i64 t108,.int .i64 t109,.int .i64 t110,.int .i64 t111] 23 (0,0)) (by (with_reducible repeat (first|refine bD ?_ _|refine bE ?_|refine bA ?_ _)); exact BK113.out) hb); have n1_ := Aside0.mk (blk_below (g := gb125) (o := .cells #[.int .i64 t119,.int .i64 t120,.int .i64 t121,.int .i64 t122,.int .i64 t123] 23 (0,0)) (by (with_reducible repeat (first|refine bD ?_ _|refine bE ?_|refine bA ?_ _)); exact BK125.out) hb); have n2_ := Aside0.mk (below_step (by repeat (first | (with_reducible first | exact HB.out | apply below_alloc | apply pw_below_drewN | apply below_drew1 | refine below_set ?_ GE113.out | refine below_set ?_ GE125.out) | exact HB.out)) hb); clear BK113; clear BK125; clear HB; have BK113 := n0_; have BK125 := n1_; have HB := n2_; clear n0_ n1_ n2_; (try clear hb); (try clear hb2); (try clear hk); (try clear hi)) | ((with_reducible refine gate_dst (N := 5) rfl ?_); refine box_event ?hg (N := 5) ?hd (cs := #[.int .i64 0,.int .i64 0,.int .i64 0,.int .i64 0,.int .i64 0]) (t := 23) ?hr ?_; (case hd => rfl); (case hg => rfl); (case hr => first | (go_simp; done) | (go_simp; rfl)); intro gb142 hg w71 hbox hb; have n0_ := Aside0.mk (blk_below (g := gb113) (o := .cells #[.int .i64 t107,.int .i64 t108,.int .i64 t109,.int .i64 t110,.int .i64 t111] 23 (0,0)) (by (with_reducible repeat (first|refine bD ?_ _|refine bE ?_|refine bA ?_ _)); exact BK113.out) hb); have n1_ := Aside0.mk (blk_below (g := gb125) (o := .cells #[.int .i64 t119,.int .i64 t120,.int .i64 t121,.int .i64 t122,.int .i64 t123] 23 (0,0)) (by (with_reducible repeat (first|refine bD ?_ _|refine bE ?_|refine bA ?_ _)); exact BK125.out) hb); have n2_ := Aside0.mk (below_step (by repeat (first | (with_reducible first | exact HB.out | apply below_alloc | apply pw_below_drewN | apply below_drew1 | refine below_set ?_ GE113.out | refine below_set ?_ GE125.out) | exact HB.out)) hb); have n3_ := Aside0.mk (hbox); have n4_ := Aside0.mk ((by rw [hg]; exact (below_size (by repeat (first | (with_reducible first | exact HB.out | apply below_alloc | apply pw_below_drewN | apply below_drew1 | refine below_set ?_ GE113.out | refine below_set ?_ GE125.out) | exact HB.out))) : w.heap.size ≤ gb142)); have n5_ := Aside0.mk ((by rw [hg]; exact (below_size (by repeat (first | (with_reducible first | exact HB.out | apply below_alloc | apply pw_below_drewN | apply below_drew1 | refine below_set ?_ GE113.out | refine below_set ?_ GE125.out) | exact HB.out))) : w.heap.size ≤ gb142)); have n6_ := Aside0.mk ((by rw [hg]; exact Nat.ne_of_lt (blk_lt (g := gb113) (o := .cells #[.int .i64 t107,.int .i64 t108,.int .i64 t109,.int .i64 t110,.int .i64 t111] 23 (0,0)) (by (with_reducible repeat (first|refine bD ?_ _|refine bE ?_|refine bA ?_ _)); exact BK113.out)) : gb113 ≠ gb142)); have n7_ := Aside0.mk ((by rw [hg]; exact Nat.ne_of_gt (blk_lt (g := gb113) (o := .cells #[.int .i64 t107,.int .i64 t108,.int .i64 t109,.int .i64 t110,.int .i64 t111] 23 (0,0)) (by (with_reducible repeat (first|refine bD ?_ _|refine bE ?_|refine bA ?_ _)); exact BK113.out)) : gb142 ≠ gb113)); have n8_ := Aside0.mk ((by rw [hg]; exact Nat.ne_of_lt (blk_lt (g := gb125) (o := .cells #[.int .i64 t119,.int .i64 t120,.int .i64 t121,.int .i64 t122,.int .i64 t123] 23 (0,0)) (by (with_reducible repeat (first|refine bD ?_ _|refine bE ?_|refine bA ?_ _)); exact BK125.out)) : gb125 ≠ gb142)); have n9_ := Aside0.mk ((by rw [hg]; exact Nat.ne_of_gt (blk_lt (g := gb125) (o := .cells #[.int .i64 t119,.int .i64 t120,.int .i64 t121,.int .i64 t122,.int .i64 t123] 23 (0,0)) (by (with_reducible repeat (first|refine bD ?_ _|refine bE ?_|refine bA ?_ _)); exact BK125.out)) : gb142 ≠ gb125)); clear BK113; clear BK125; clear HB; have BK113 := n0_; have BK125 := n1_; have HB := n2_; have BK142 := n3_; have GW142 := n4_; have GE142 := n5_; have NB113_142 := n6_; have NB142_113 := n7_; have NB125_142 := n8_; have NB142_125 := n9_; clear n0_ n1_ n2_ n3_ n4_ n5_ n6_ n7_ n8_ n9_; clear hb hbox hg; have hnb72 := NB142_113.out; have hnc72 := NB113_142.out; have hnb73 := NB142_125.out; have hnc73 := NB125_142.out; have hcz74_0 : w71.cell? ⟨gb142,0,none⟩ = some (.int .i64 0) := (blk_cell BK142.out 0).trans rfl; have hcz74_1 : w71.cell? ⟨gb142,1,none⟩ = some (.int .i64 0) := (blk_cell BK142.out 1).trans rfl; have hcz74_2 : w71.cell? ⟨gb142,2,none⟩ = some (.int .i64 0) := (blk_cell BK142.out 2).trans rfl; have hcz74_3 : w71.cell? ⟨gb142,3,none⟩ = some (.int .i64 0) := (blk_cell BK142.out 3).trans rfl; have hcz74_4 : w71.cell? ⟨gb142,4,none⟩ = some (.int .i64 0) := (blk_cell BK142.out 4).trans rfl; have hfz74_0 := blk_frozen BK142.out 0; have hfz74_1 := blk_frozen BK142.out 1; have hfz74_2 := blk_frozen BK142.out 2; have hfz74_3 := blk_frozen BK142.out 3; have hfz74_4 := blk_frozen BK142.out 4) | ((with_reducible refine gate_callee (f := 14) rfl ?_); refine goesL_ (some 42) rfl rfl Tryz.func14 (by kernel_rfl) rfl #[.int .i64 1,.int .i64 0,.int .i64 0,.int .i64 0,.int .i64 1] rfl (by (try simp only [List.map_toArray,List.map_cons,List.map_nil]); first | done | rfl | (simp only [List.length_drop,List.length_take]; rfl)) ?_; (with_reducible refine (spoondriftlaw01_num.calls 1 0 0 0 1 t143 t144 t145 t146 t147 _ A8.out).mono ?_); rintro e w75 ⟨rfl,hb⟩; refine ⟨_,rfl,?_⟩; have n0_ := Aside0.mk (blk_below (g := gb113) (o := .cells #[.int .i64 t107,.int .i64 t108,.int .i64 t109,.int .i64 t110,.int .i64 t111] 23 (0,0)) (by (with_reducible repeat (first|refine bD ?_ _|refine bE ?_|refine bA ?_ _)); refine blk_far ?_ NB113_142.out _; (with_reducible repeat (first|refine bD ?_ _|refine bE ?_|refine bA ?_ _)); refine blk_far ?_ NB113_142.out _; (with_reducible repeat (first|refine bD ?_ _|refine bE ?_|refine bA ?_ _)); refine blk_far ?_ NB113_142.out _; (with_reducible repeat (first|refine bD ?_ _|refine bE ?_|refine bA ?_ _)); refine blk_far ?_ NB113_142.out _; (with_reducible repeat (first|refine bD ?_ _|refine bE ?_|refine bA ?_ _)); refine blk_far ?_ NB113_142.out _; (with_reducible repeat (first|refine bD ?_ _|refine bE ?_|refine bA ?_ _)); exact BK113.out) hb); have n1_ := Aside0.mk (blk_below (g := gb125) (o := .cells #[.int .i64 t119,.int .i64 t120,.int .i64 t121,.int .i64 t122,.int .i64 t123] 23 (0,0)) (by (with_reducible repeat (first|refine bD ?_ _|refine bE ?_|refine bA ?_ _)); refine blk_far ?_ NB125_142.out _; (with_reducible repeat (first|refine bD ?_ _|refine bE ?_|refine bA ?_ _)); refine blk_far ?_ NB125_142.out _; (with_reducible repeat (first|refine bD ?_ _|refine bE ?_|refine bA ?_ _)); refine blk_far ?_ NB125_142.out _; (with_reducible repeat (first|refine bD ?_ _|refine bE ?_|refine bA ?_ _)); refine blk_far ?_ NB125_142.out _; (with_reducible repeat (first|refine bD ?_ _|refine bE ?_|refine bA ?_ _)); refine blk_far ?_ NB125_142.out _; (with_reducible repeat (first|refine bD ?_ _|refine bE ?_|refine bA ?_ _)); exact BK125.out) hb); have n2_ := Aside0.mk (blk_below (g := gb142) (o := .cells #[.int .i64 t136,.int .i64 t137,.int .i64 t138,.int .i64 t139,.int .i64 t140] 23 (0,0)) (by (with_reducible repeat (first|refine bD ?_ _|refine bE ?_|refine bA ?_ _)); refine blk_put (cs := #[.int .i64 t136,.int .i64 t137,.int .i64 t138,.int .i64 t139,.int .i64 0]) ?_ 4 _ rfl; (with_reducible repeat (first|refine bD ?_ _|refine bE ?_|refine bA ?_ _)); refine blk_put (cs := #[.int .i64 t136,.int .i64 t137,.int .i64 t138,.int .i64 0,.int .i64 0]) ?_ 3 _ rfl; (with_reducible repeat (first|refine bD ?_ _|refine bE ?_|refine bA ?_ _)); refine blk_put (cs := #[.int .i64 t136,.int .i64 t137,.int .i64 0,.int .i64 0,.int .i64 0]) ?_ 2 _ rfl; (with_reducible repeat (first|refine bD ?_ _|refine bE ?_|refine bA ?_ _)); refine blk_put (cs := #[.int .i64 t136,.int .i64 0,.int .i64 0,.int .i64 0,.int .i64 0]) ?_ 1 _ rfl; (with_reducible repeat (first|refine bD ?_ _|refine bE ?_|refine bA ?_ _)); refine blk_put (cs := #[.int .i64 0,.int .i64 0,.int .i64 0,.int .i64 0,.int .i64 0]) ?_ 0 _ rfl; (with_reducible repeat (first|refine bD ?_ _|refine bE ?_|refine bA ?_ _)); exact BK142.out) hb); have n3_ := Aside0.mk (below_step (by repeat (first | (with_reducible first | exact HB.out | apply below_alloc | apply pw_below_drewN | apply below_drew1 | refine below_set ?_ GE113.out | refine below_set ?_ GE125.out | refine below_set ?_ GE142.out) | exact HB.out)) hb); clear BK113; clear BK125; clear BK142; clear HB; have BK113 := n0_; have BK125 := n1_; have BK142 := n2_; have HB := n3_; clear n0_ n1_ n2_ n3_; (try clear hb); (try clear hb2); (try clear hk); (try clear hi)) | ((with_reducible refine gate_callee (f := 20) rfl ?_); refine goesL_ (some 43) rfl rfl Tryz.func20 (by kernel_rfl) rfl #[.agg #[.int .i64 t143,.int .i64 t144,.int .i64 t145,.int .i64 t146,.int .i64 t147]] rfl (by (try simp only [List.map_toArray,List.map_cons,List.map_nil]); first | done | rfl | (simp only [List.length_drop,List.length_take]; rfl)) ?_; (with_reducible refine (ring_Dot.calls t143 t144 t145 t146 t147 t148 t149 t150 t151 t152 t153 _ A9.out).mono ?_); rintro e w76 ⟨rfl,hb⟩; refine ⟨_,rfl,?_⟩; have n0_ := Aside0.mk (blk_below (g := gb113) (o := .cells #[.int .i64 t107,.int .i64 t108,.int .i64 t109,.int .i64 t110,.int .i64 t111] 23 (0,0)) (by (with_reducible repeat (first|refine bD ?_ _|refine bE ?_|refine bA ?_ _)); exact BK113.out) hb); have n1_ := Aside0.mk (blk_below (g := gb125) (o := .cells #[.int .i64 t119,.int .i64 t120,.int .i64 t121,.int .i64 t122,.int .i64 t123] 23 (0,0)) (by (with_reducible repeat (first|refine bD ?_ _|refine bE ?_|refine bA ?_ _)); exact BK125.out) hb); have n2_ := Aside0.mk (blk_below (g := gb142) (o := .cells #[.int .i64 t136,.int .i64 t137,.int .i64 t138,.int .i64 t139,.int .i64 t140] 23 (0,0)) (by (with_reducible repeat (first|refine bD ?_ _|refine bE ?_|refine bA ?_ _)); exact BK142.out) hb); have n3_ := Aside0.mk (below_step (by repeat (first | (with_reducible first | exact HB.out | apply below_alloc | apply pw_below_drewN | apply below_drew1 | refine below_set ?_ GE113.out | refine below_set ?_ GE125.out | refine below_set ?_ GE142.out) | exact HB.out)) hb); clear BK113; clear BK125; clear BK142; clear HB; have BK113 := n0_; have BK125 := n1_; have BK142 := n2_; have HB := n3_; clear n0_ n1_ n2_ n3_; (try clear hb); (try clear hb2); (try clear hk); (try clear hi)) | ((with_reducible refine gate_dst (N := 7) rfl ?_); refine box_event ?hg (N := 7) ?hd (cs := #[.int .i64 0,.int .i64 0,.int .i64 0,.int .i64 0,.int .i64 0]) (t := 23) ?hr ?_; (case hd => rfl); (case hg => rfl); (case hr => first | (go_simp; done) | (go_simp; rfl)); intro gb154 hg w77 hbox hb; have n0_ := Aside0.mk (blk_below (g := gb113) (o := .cells #[.int .i64 t107,.int .i64 t108,.int .i64 t109,.int .i64 t110,.int .i64 t111] 23 (0,0)) (by (with_reducible repeat (first|refine bD ?_ _|refine bE ?_|refine bA ?_ _)); exact BK113.out) hb); have n1_ := Aside0.mk (blk_below (g := gb125) (o := .cells #[.int .i64 t119,.int .i64 t120,.int .i64 t121,.int .i64 t122,.int .i64 t123] 23 (0,0)) (by (with_reducible repeat (first|refine bD ?_ _|refine bE ?_|refine bA ?_ _)); exact BK125.out) hb); have n2_ := Aside0.mk (blk_below (g := gb142) (o := .cells #[.int .i64 t136,.int .i64 t137,.int .i64 t138,.int .i64 t139,.int .i64 t140] 23 (0,0)) (by (with_reducible repeat (first|refine bD ?_ _|refine bE ?_|refine bA ?_ _)); exact BK142.out) hb); have n3_ := Aside0.mk (below_step (by repeat (first | (with_reducible first | exact HB.out | apply below_alloc | apply pw_below_drewN | apply below_drew1 | refine below_set ?_ GE113.out | refine below_set ?_ GE125.out | refine below_set ?_ GE142.out) | exact HB.out)) hb); have n4_ := Aside0.mk (hbox); have n5_ := Aside0.mk ((by rw [hg]; exact (below_size (by repeat (first | (with_reducible first | exact HB.out | apply below_alloc | apply pw_below_drewN | apply below_drew1 | refine below_set ?_ GE113.out | refine below_set ?_ GE125.out | refine below_set ?_ GE142.out) | exact HB.out))) : w.heap.size ≤ gb154)); have n6_ := Aside0.mk ((by rw [hg]; exact (below_size (by repeat (first | (with_reducible first | exact HB.out | apply below_alloc | apply pw_below_drewN | apply below_drew1 | refine below_set ?_ GE113.out | refine below_set ?_ GE125.out | refine below_set ?_ GE142.out) | exact HB.out))) : w.heap.size ≤ gb154)); have n7_ := Aside0.mk ((by rw [hg]; exact Nat.ne_of_lt (blk_lt (g := gb113) (o := .cells #[.int .i64 t107,.int .i64 t108,.int .i64 t109,.int .i64 t110,.int .i64 t111] 23 (0,0)) (by (with_reducible repeat (first|refine bD ?_ _|refine bE ?_|refine bA ?_ _)); exact BK113.out)) : gb113 ≠ gb154)); have n8_ := Aside0.mk ((by rw [hg]; exact Nat.ne_of_gt (blk_lt (g := gb113) (o := .cells #[.int .i64 t107,.int .i64 t108,.int .i64 t109,.int .i64 t110,.int .i64 t111] 23 (0,0)) (by (with_reducible repeat (first|refine bD ?_ _|refine bE ?_|refine bA ?_ _)); exact BK113.out)) : gb154 ≠ gb113)); have n9_ := Aside0.mk ((by rw [hg]; exact Nat.ne_of_lt (blk_lt (g := gb125) (o := .cells #[.int .i64 t119,.int .i64 t120,.int .i64 t121,.int .i64 t122,.int .i64 t123] 23 (0,0)) (by (with_reducible repeat (first|refine bD ?_ _|refine bE ?_|refine bA ?_ _)); exact BK125.out)) : gb125 ≠ gb154)); have n10_ := Aside0.mk ((by rw [hg]; exact Nat.ne_of_gt (blk_lt (g := gb125) (o := .cells #[.int .i64 t119,.int .i64 t120,.int .i64 t121,.int .i64 t122,.int .i64 t123] 23 (0,0)) (by (with_reducible repeat (first|refine bD ?_ _|refine bE ?_|refine bA ?_ _)); exact BK125.out)) : gb154 ≠ gb125)); have n11_ := Aside0.mk ((by rw [hg]; exact Nat.ne_of_lt (blk_lt (g := gb142) (o := .cells #[.int .i64 t136,.int .i64 t137,.int .i64 t138,.int .i64 t139,.int .i64 t140] 23 (0,0)) (by (with_reducible repeat (first|refine bD ?_ _|refine bE ?_|refine bA ?_ _)); exact BK142.out)) : gb142 ≠ gb154)); have n12_ := Aside0.mk ((by rw [hg]; exact Nat.ne_of_gt (blk_lt (g := gb142) (o := .cells #[.int .i64 t136,.int .i64 t137,.int .i64 t138,.int .i64 t139,.int .i64 t140] 23 (0,0)) (by (with_reducible repeat (first|refine bD ?_ _|refine bE ?_|refine bA ?_ _)); exact BK142.out)) : gb154 ≠ gb142)); clear BK113; clear BK125; clear BK142; clear HB; have BK113 := n0_; have BK125 := n1_; have BK142 := n2_; have HB := n3_; have BK154 := n4_; have GW154 := n5_; have GE154 := n6_; have NB113_154 := n7_; have NB154_113 := n8_; have NB125_154 := n9_; have NB154_125 := n10_; have NB142_154 := n11_; have NB154_142 := n12_; clear n0_ n1_ n2_ n3_ n4_ n5_ n6_ n7_ n8_ n9_ n10_ n11_ n12_; clear hb hbox hg; have hnb78 := NB154_113.out; have hnc78 := NB113_154.out; have hnb79 := NB154_125.out; have hnc79 := NB125_154.out; have hnb80 := NB154_142.out; have hnc80 := NB142_154.out; have hcz81_0 : w77.cell? ⟨gb154,0,none⟩ = some (.int .i64 0) := (blk_cell BK154.out 0).trans rfl; have hcz81_1 : w77.cell? ⟨gb154,1,none⟩ = some (.int .i64 0) := (blk_cell BK154.out 1).trans rfl; have hcz81_2 : w77.cell? ⟨gb154,2,none⟩ = some (.int .i64 0) := (blk_cell BK154.out 2).trans rfl; have hcz81_3 : w77.cell? ⟨gb154,3,none⟩ = some (.int .i64 0) := (blk_cell BK154.out 3).trans rfl; have hcz81_4 : w77.cell? ⟨gb154,4,none⟩ = some (.int .i64 0) := (blk_cell BK154.out 4).trans rfl; have hfz81_0 := blk_frozen BK154.out 0; have hfz81_1 := blk_frozen BK154.out 1; have hfz81_2 := blk_frozen BK154.out 2; have hfz81_3 := blk_frozen BK154.out 3; have hfz81_4 := blk_frozen BK154.out 4) | ((with_reducible refine gate_callee (f := 14) rfl ?_); refine goesL_ (some 47) rfl rfl Tryz.func14 (by kernel_rfl) rfl #[.int .i64 1,.int .i64 1,.int .i64 0,.int .i64 0,.int .i64 0] rfl (by (try simp only [List.map_toArray,List.map_cons,List.map_nil]); first | done | rfl | (simp only [List.length_drop,List.length_take]; rfl)) ?_; (with_reducible refine (spoondriftlaw01_num.calls 1 1 0 0 0 t155 t156 t157 t158 t159 _ A10.out).mono ?_); rintro e w82 ⟨rfl,hb⟩; refine ⟨_,rfl,?_⟩; have n0_ := Aside0.mk (blk_below (g := gb113) (o := .cells #[.int .i64 t107,.int .i64 t108,.int .i64 t109,.int .i64 t110,.int .i64 t111] 23 (0,0)) (by (with_reducible repeat (first|refine bD ?_ _|refine bE ?_|refine bA ?_ _)); refine blk_far ?_ NB113_154.out _; (with_reducible repeat (first|refine bD ?_ _|refine bE ?_|refine bA ?_ _)); refine blk_far ?_ NB113_154.out _; (with_reducible repeat (first|refine bD ?_ _|refine bE ?_|refine bA ?_ _)); refine blk_far ?_ NB113_154.out _; (with_reducible repeat (first|refine bD ?_ _|refine bE ?_|refine bA ?_ _)); refine blk_far ?_ NB113_154.out _; (with_reducible repeat (first|refine bD ?_ _|refine bE ?_|refine bA ?_ _)); refine blk_far ?_ NB113_154.out _; (with_reducible repeat (first|refine bD ?_ _|refine bE ?_|refine bA ?_ _)); exact BK113.out) hb); have n1_ := Aside0.mk (blk_below (g := gb125) (o := .cells #[.int .i64 t119,.int .i64 t120,.int .i64 t121,.int .i64 t122,.int .i64 t123] 23 (0,0)) (by (with_reducible repeat (first|refine bD ?_ _|refine bE ?_|refine bA ?_ _)); refine blk_far ?_ NB125_154.out _; (with_reducible repeat (first|refine bD ?_ _|refine bE ?_|refine bA ?_ _)); refine blk_far ?_ NB125_154.out _; (with_reducible repeat (first|refine bD ?_ _|refine bE ?_|refine bA ?_ _)); refine blk_far ?_ NB125_154.out _; (with_reducible repeat (first|refine bD ?_ _|refine bE ?_|refine bA ?_ _)); refine blk_far ?_ NB125_154.out _; (with_reducible repeat (first|refine bD ?_ _|refine bE ?_|refine bA ?_ _)); refine blk_far ?_ NB125_154.out _; (with_reducible repeat (first|refine bD ?_ _|refine bE ?_|refine bA ?_ _)); exact BK125.out) hb); have n2_ := Aside0.mk (blk_below (g := gb142) (o := .cells #[.int .i64 t136,.int .i64 t137,.int .i64 t138,.int .i64 t139,.int .i64 t140] 23 (0,0)) (by (with_reducible repeat (first|refine bD ?_ _|refine bE ?_|refine bA ?_ _)); refine blk_far ?_ NB142_154.out _; (with_reducible repeat (first|refine bD ?_ _|refine bE ?_|refine bA ?_ _)); refine blk_far ?_ NB142_154.out _; (with_reducible repeat (first|refine bD ?_ _|refine bE ?_|refine bA ?_ _)); refine blk_far ?_ NB142_154.out _; (with_reducible repeat (first|refine bD ?_ _|refine bE ?_|refine bA ?_ _)); refine blk_far ?_ NB142_154.out _; (with_reducible repeat (first|refine bD ?_ _|refine bE ?_|refine bA ?_ _)); refine blk_far ?_ NB142_154.out _; (with_reducible repeat (first|refine bD ?_ _|refine bE ?_|refine bA ?_ _)); exact BK142.out) hb); have n3_ := Aside0.mk (blk_below (g := gb154) (o := .cells #[.int .i64 t148,.int .i64 t149,.int .i64 t150,.int .i64 t151,.int .i64 t152] 23 (0,0)) (by (with_reducible repeat (first|refine bD ?_ _|refine bE ?_|refine bA ?_ _)); refine blk_put (cs := #[.int .i64 t148,.int .i64 t149,.int .i64 t150,.int .i64 t151,.int .i64 0]) ?_ 4 _ rfl; (with_reducible repeat (first|refine bD ?_ _|refine bE ?_|refine bA ?_ _)); refine blk_put (cs := #[.int .i64 t148,.int .i64 t149,.int .i64 t150,.int .i64 0,.int .i64 0]) ?_ 3 _ rfl; (with_reducible repeat (first|refine bD ?_ _|refine bE ?_|refine bA ?_ _)); refine blk_put (cs := #[.int .i64 t148,.int .i64 t149,.int .i64 0,.int .i64 0,.int .i64 0]) ?_ 2 _ rfl; (with_reducible repeat (first|refine bD ?_ _|refine bE ?_|refine bA ?_ _)); refine blk_put (cs := #[.int .i64 t148,.int .i64 0,.int .i64 0,.int .i64 0,.int .i64 0]) ?_ 1 _ rfl; (with_reducible repeat (first|refine bD ?_ _|refine bE ?_|refine bA ?_ _)); refine blk_put (cs := #[.int .i64 0,.int .i64 0,.int .i64 0,.int .i64 0,.int .i64 0]) ?_ 0 _ rfl; (with_reducible repeat (first|refine bD ?_ _|refine bE ?_|refine bA ?_ _)); exact BK154.out) hb); have n4_ := Aside0.mk (below_step (by repeat (first | (with_reducible first | exact HB.out | apply below_alloc | apply pw_below_drewN | apply below_drew1 | refine below_set ?_ GE113.out | refine below_set ?_ GE125.out | refine below_set ?_ GE142.out | refine below_set ?_ GE154.out) | exact HB.out)) hb); clear BK113; clear BK125; clear BK142; clear BK154; clear HB; have BK113 := n0_; have BK125 := n1_; have BK142 := n2_; have BK154 := n3_; have HB := n4_; clear n0_ n1_ n2_ n3_ n4_; (try clear hb); (try clear hb2); (try clear hk); (try clear hi)) | ((with_reducible refine gate_callee (f := 21) rfl ?_); refine goesL_ (some 48) rfl rfl Tryz.func21 (by kernel_rfl) rfl #[.agg #[.int .i64 t155,.int .i64 t156,.int .i64 t157,.int .i64 t158,.int .i64 t159]] rfl (by (try simp only [List.map_toArray,List.map_cons,List.map_nil]); first | done | rfl | (simp only [List.length_drop,List.length_take]; rfl)) ?_; (with_reducible refine (ring_Norm.calls t155 t156 t157 t158 t159 t160 t161 t162 t163 t164 t165 _ A11.out).mono ?_); rintro e w83 ⟨rfl,hb⟩; refine ⟨_,rfl,?_⟩; have n0_ := Aside0.mk (blk_below (g := gb113) (o := .cells #[.int .i64 t107,.int .i64 t108,.int .i64 t109,.int .i64 t110,.int .i64 t111] 23 (0,0)) (by (with_reducible repeat (first|refine bD ?_ _|refine bE ?_|refine bA ?_ _)); exact BK113.out) hb); have n1_ := Aside0.mk (blk_below (g := gb125) (o := .cells #[.int .i64 t119,.int .i64 t120,.int .i64 t121,.int .i64 t122,.int .i64 t123] 23 (0,0)) (by (with_reducible repeat (first|refine bD ?_ _|refine bE ?_|refine bA ?_ _)); exact BK125.out) hb); have n2_ := Aside0.mk (blk_below (g := gb142) (o := .cells #[.int .i64 t136,.int .i64 t137,.int .i64 t138,.int .i64 t139,.int .i64 t140] 23 (0,0)) (by (with_reducible repeat (first|refine bD ?_ _|refine bE ?_|refine bA ?_ _)); exact BK142.out) hb); have n3_ := Aside0.mk (blk_below (g := gb154) (o := .cells #[.int .i64 t148,.int .i64 t149,.int .i64 t150,.int .i64 t151,.int .i64 t152] 23 (0,0)) (by (with_reducible repeat (first|refine bD ?_ _|refine bE ?_|refine bA ?_ _)); exact BK154.out) hb); have n4_ := Aside0.mk (below_step (by repeat (first | (with_reducible first | exact HB.out | apply below_alloc | apply pw_below_drewN | apply below_drew1 | refine below_set ?_ GE113.out | refine below_set ?_ GE125.out | refine below_set ?_ GE142.out | refine below_set ?_ GE154.out) | exact HB.out)) hb); clear BK113; clear BK125; clear BK142; clear BK154; clear HB; have BK113 := n0_; have BK125 := n1_; have BK142 := n2_; have BK154 := n3_; have HB := n4_; clear n0_ n1_ n2_ n3_ n4_; (try clear hb); (try clear hb2); (try clear hk); (try clear hi)) | ((with_reducible refine gate_dst (N := 9) rfl ?_); refine box_event ?hg (N := 9) ?hd (cs := #[.int .i64 0,.int .i64 0,.int .i64 0,.int .i64 0,.int .i64 0]) (t := 23) ?hr ?_; (case hd => rfl); (case hg => rfl); (case hr => first | (go_simp; done) | (go_simp; rfl)); intro gb166 hg w84 hbox hb; have n0_ := Aside0.mk (blk_below (g := gb113) (o := .cells #[.int .i64 t107,.int .i64 t108,.int .i64 t109,.int .i64 t110,.int .i64 t111] 23 (0,0)) (by (with_reducible repeat (first|refine bD ?_ _|refine bE ?_|refine bA ?_ _)); exact BK113.out) hb); have n1_ := Aside0.mk (blk_below (g := gb125) (o := .cells #[.int .i64 t119,.int .i64 t120,.int .i64 t121,.int .i64 t122,.int .i64 t123] 23 (0,0)) (by (with_reducible repeat (first|refine bD ?_ _|refine bE ?_|refine bA ?_ _)); exact BK125.out) hb); have n2_ := Aside0.mk (blk_below (g := gb142) (o := .cells #[.int .i64 t136,.int .i64 t137,.int .i64 t138,.int .i64 t139,.int .i64 t140] 23 (0,0)) (by (with_reducible repeat (first|refine bD ?_ _|refine bE ?_|refine bA ?_ _)); exact BK142.out) hb); have n3_ := Aside0.mk (blk_below (g := gb154) (o := .cells #[.int .i64 t148,.int .i64 t149,.int .i64 t150,.int .i64 t151,.int .i64 t152] 23 (0,0)) (by (with_reducible repeat (first|refine bD ?_ _|refine bE ?_|refine bA ?_ _)); exact BK154.out) hb); have n4_ := Aside0.mk (below_step (by repeat (first | (with_reducible first | exact HB.out | apply below_alloc | apply pw_below_drewN | apply below_drew1 | refine below_set ?_ GE113.out | refine below_set ?_ GE125.out | refine below_set ?_ GE142.out | refine below_set ?_ GE154.out) | exact HB.out)) hb); have n5_ := Aside0.mk (hbox); have n6_ := Aside0.mk ((by rw [hg]; exact (below_size (by repeat (first | (with_reducible first | exact HB.out | apply below_alloc | apply pw_below_drewN | apply below_drew1 | refine below_set ?_ GE113.out | refine below_set ?_ GE125.out | refine below_set ?_ GE142.out | refine below_set ?_ GE154.out) | exact HB.out))) : w.heap.size ≤ gb166)); have n7_ := Aside0.mk ((by rw [hg]; exact (below_size (by repeat (first | (with_reducible first | exact HB.out | apply below_alloc | apply pw_below_drewN | apply below_drew1 | refine below_set ?_ GE113.out | refine below_set ?_ GE125.out | refine below_set ?_ GE142.out | refine below_set ?_ GE154.out) | exact HB.out))) : w.heap.size ≤ gb166)); have n8_ := Aside0.mk ((by rw [hg]; exact Nat.ne_of_lt (blk_lt (g := gb113) (o := .cells #[.int .i64 t107,.int .i64 t108,.int .i64 t109,.int .i64 t110,.int .i64 t111] 23 (0,0)) (by (with_reducible repeat (first|refine bD ?_ _|refine bE ?_|refine bA ?_ _)); exact BK113.out)) : gb113 ≠ gb166)); have n9_ := Aside0.mk ((by rw [hg]; exact Nat.ne_of_gt (blk_lt (g := gb113) (o := .cells #[.int .i64 t107,.int .i64 t108,.int .i64 t109,.int .i64 t110,.int .i64 t111] 23 (0,0)) (by (with_reducible repeat (first|refine bD ?_ _|refine bE ?_|refine bA ?_ _)); exact BK113.out)) : gb166 ≠ gb113)); have n10_ := Aside0.mk ((by rw [hg]; exact Nat.ne_of_lt (blk_lt (g := gb125) (o := .cells #[.int .i64 t119,.int .i64 t120,.int .i64 t121,.int .i64 t122,.int .i64 t123] 23 (0,0)) (by (with_reducible repeat (first|refine bD ?_ _|refine bE ?_|refine bA ?_ _)); exact BK125.out)) : gb125 ≠ gb166)); have n11_ := Aside0.mk ((by rw [hg]; exact Nat.ne_of_gt (blk_lt (g := gb125) (o := .cells #[.int .i64 t119,.int .i64 t120,.int .i64 t121,.int .i64 t122,.int .i64 t123] 23 (0,0)) (by (with_reducible repeat (first|refine bD ?_ _|refine bE ?_|refine bA ?_ _)); exact BK125.out)) : gb166 ≠ gb125)); have n12_ := Aside0.mk ((by rw [hg]; exact Nat.ne_of_lt (blk_lt (g := gb142) (o := .cells #[.int .i64 t136,.int .i64 t137,.int .i64 t138,.int .i64 t139,.int .i64 t140] 23 (0,0)) (by (with_reducible repeat (first|refine bD ?_ _|refine bE ?_|refine bA ?_ _)); exact BK142.out)) : gb142 ≠ gb166)); have n13_ := Aside0.mk ((by rw [hg]; exact Nat.ne_of_gt (blk_lt (g := gb142) (o := .cells #[.int .i64 t136,.int .i64 t137,.int .i64 t138,.int .i64 t139,.int .i64 t140] 23 (0,0)) (by (with_reducible repeat (first|refine bD ?_ _|refine bE ?_|refine bA ?_ _)); exact BK142.out)) : gb166 ≠ gb142)); have n14_ := Aside0.mk ((by rw [hg]; exact Nat.ne_of_lt (blk_lt (g := gb154) (o := .cells #[.int .i64 t148,.int .i64 t149,.int .i64 t150,.int .i64 t151,.int .i64 t152] 23 (0,0)) (by (with_reducible repeat (first|refine bD ?_ _|refine bE ?_|refine bA ?_ _)); exact BK154.out)) : gb154 ≠ gb166)); have n15_ := Aside0.mk ((by rw [hg]; exact Nat.ne_of_gt (blk_lt (g := gb154) (o := .cells #[.int .i64 t148,.int .i64 t149,.int .i64 t150,.int .i64 t151,.int .i64 t152] 23 (0,0)) (by (with_reducible repeat (first|refine bD ?_ _|refine bE ?_|refine bA ?_ _)); exact BK154.out)) : gb166 ≠ gb154)); clear BK113; clear BK125; clear BK142; clear BK154; clear HB; have BK113 := n0_; have BK125 := n1_; have BK142 := n2_; have BK154 := n3_; have HB := n4_; have BK166 := n5_; have GW166 := n6_; have GE166 := n7_; have NB113_166 := n8_; have NB166_113 := n9_; have NB125_166 := n10_; have NB166_125 := n11_; have NB142_166 := n12_; have NB166_142 := n13_; have NB154_166 := n14_; have NB166_154 := n15_; clear n0_ n1_ n2_ n3_ n4_ n5_ n6_ n7_ n8_ n9_ n10_ n11_ n12_ n13_ n14_ n15_; clear hb hbox hg; have hnb85 := NB166_113.out; have hnc85 := NB113_166.out; have hnb86 := NB166_125.out; have hnc86 := NB125_166.out; have hnb87 := NB166_142.out; have hnc87 := NB142_166.out; have hnb88 := NB166_154.out; have hnc88 := NB154_166.out; have hcz89_0 : w84.cell? ⟨gb166,0,none⟩ = some (.int .i64 0) := (blk_cell BK166.out 0).trans rfl; have hcz89_1 : w84.cell? ⟨gb166,1,none⟩ = some (.int .i64 0) := (blk_cell BK166.out 1).trans rfl; have hcz89_2 : w84.cell? ⟨gb166,2,none⟩ = some (.int .i64 0) := (blk_cell BK166.out 2).trans rfl; have hcz89_3 : w84.cell? ⟨gb166,3,none⟩ = some (.int .i64 0) := (blk_cell BK166.out 3).trans rfl; have hcz89_4 : w84.cell? ⟨gb166,4,none⟩ = some (.int .i64 0) := (blk_cell BK166.out 4).trans rfl; have hfz89_0 := blk_frozen BK166.out 0; have hfz89_1 := blk_frozen BK166.out 1; have hfz89_2 := blk_frozen BK166.out 2; have hfz89_3 := blk_frozen BK166.out 3; have hfz89_4 := blk_frozen BK166.out 4) | ((with_reducible refine gate_callee (f := 14) rfl ?_); refine goesL_ (some 52) rfl rfl Tryz.func14 (by kernel_rfl) rfl #[.int .i64 2,.int .i64 (-1),.int .i64 0,.int .i64 1,.int .i64 0] rfl (by (try simp only [List.map_toArray,List.map_cons,List.map_nil]); first | done | rfl | (simp only [List.length_drop,List.length_take]; rfl)) ?_; (with_reducible refine (spoondriftlaw01_num.calls 2 (-1) 0 1 0 t167 t168 t169 t170 t171 _ A12.out).mono ?_); rintro e w90 ⟨rfl,hb⟩; refine ⟨_,rfl,?_⟩; have n0_ := Aside0.mk (blk_below (g := gb113) (o := .cells #[.int .i64 t107,.int .i64 t108,.int .i64 t109,.int .i64 t110,.int .i64 t111] 23 (0,0)) (by (with_reducible repeat (first|refine bD ?_ _|refine bE ?_|refine bA ?_ _)); refine blk_far ?_ NB113_166.out _; (with_reducible repeat (first|refine bD ?_ _|refine bE ?_|refine bA ?_ _)); refine blk_far ?_ NB113_166.out _; (with_reducible repeat (first|refine bD ?_ _|refine bE ?_|refine bA ?_ _)); refine blk_far ?_ NB113_166.out _; (with_reducible repeat (first|refine bD ?_ _|refine bE ?_|refine bA ?_ _)); refine blk_far ?_ NB113_166.out _; (with_reducible repeat (first|refine bD ?_ _|refine bE ?_|refine bA ?_ _)); refine blk_far ?_ NB113_166.out _; (with_reducible repeat (first|refine bD ?_ _|refine bE ?_|refine bA ?_ _)); exact BK113.out) hb); have n1_ := Aside0.mk (blk_below (g := gb125) (o := .cells #[.int .i64 t119,.int .i64 t120,.int .i64 t121,.int .i64 t122,.int .i64 t123] 23 (0,0)) (by (with_reducible repeat (first|refine bD ?_ _|refine bE ?_|refine bA ?_ _)); refine blk_far ?_ NB125_166.out _; (with_reducible repeat (first|refine bD ?_ _|refine bE ?_|refine bA ?_ _)); refine blk_far ?_ NB125_166.out _; (with_reducible repeat (first|refine bD ?_ _|refine bE ?_|refine bA ?_ _)); refine blk_far ?_ NB125_166.out _; (with_reducible repeat (first|refine bD ?_ _|refine bE ?_|refine bA ?_ _)); refine blk_far ?_ NB125_166.out _; (with_reducible repeat (first|refine bD ?_ _|refine bE ?_|refine bA ?_ _)); refine blk_far ?_ NB125_166.out _; (with_reducible repeat (first|refine bD ?_ _|refine bE ?_|refine bA ?_ _)); exact BK125.out) hb); have n2_ := Aside0.mk (blk_below (g := gb142) (o := .cells #[.int .i64 t136,.int .i64 t137,.int .i64 t138,.int .i64 t139,.int .i64 t140] 23 (0,0)) (by (with_reducible repeat (first|refine bD ?_ _|refine bE ?_|refine bA ?_ _)); refine blk_far ?_ NB142_166.out _; (with_reducible repeat (first|refine bD ?_ _|refine bE ?_|refine bA ?_ _)); refine blk_far ?_ NB142_166.out _; (with_reducible repeat (first|refine bD ?_ _|refine bE ?_|refine bA ?_ _)); refine blk_far ?_ NB142_166.out _; (with_reducible repeat (first|refine bD ?_ _|refine bE ?_|refine bA ?_ _)); refine blk_far ?_ NB142_166.out _; (with_reducible repeat (first|refine bD ?_ _|refine bE ?_|refine bA ?_ _)); refine blk_far ?_ NB142_166.out _; (with_reducible repeat (first|refine bD ?_ _|refine bE ?_|refine bA ?_ _)); exact BK142.out) hb); have n3_ := Aside0.mk (blk_below (g := gb154) (o := .cells #[.int .i64 t148,.int .i64 t149,.int .i64 t150,.int .i64 t151,.int .i64 t152] 23 (0,0)) (by (with_reducible repeat (first|refine bD ?_ _|refine bE ?_|refine bA ?_ _)); refine blk_far ?_ NB154_166.out _; (with_reducible repeat (first|refine bD ?_ _|refine bE ?_|refine bA ?_ _)); refine blk_far ?_ NB154_166.out _; (with_reducible repeat (first|refine bD ?_ _|refine bE ?_|refine bA ?_ _)); refine blk_far ?_ NB154_166.out _; (with_reducible repeat (first|refine bD ?_ _|refine bE ?_|refine bA ?_ _)); refine blk_far ?_ NB154_166.out _; (with_reducible repeat (first|refine bD ?_ _|refine bE ?_|refine bA ?_ _)); refine blk_far ?_ NB154_166.out _; (with_reducible repeat (first|refine bD ?_ _|refine bE ?_|refine bA ?_ _)); exact BK154.out) hb); have n4_ := Aside0.mk (blk_below (g := gb166) (o := .cells #[.int .i64 t160,.int .i64 t161,.int .i64 t162,.int .i64 t163,.int .i64 t164] 23 (0,0)) (by (with_reducible repeat (first|refine bD ?_ _|refine bE ?_|refine bA ?_ _)); refine blk_put (cs := #[.int .i64 t160,.int .i64 t161,.int .i64 t162,.int .i64 t163,.int .i64 0]) ?_ 4 _ rfl; (with_reducible repeat (first|refine bD ?_ _|refine bE ?_|refine bA ?_ _)); refine blk_put (cs := #[.int .i64 t160,.int .i64 t161,.int .i64 t162,.int .i64 0,.int .i64 0]) ?_ 3 _ rfl; (with_reducible repeat (first|refine bD ?_ _|refine bE ?_|refine bA ?_ _)); refine blk_put (cs := #[.int .i64 t160,.int .i64 t161,.int .i64 0,.int .i64 0,.int .i64 0]) ?_ 2 _ rfl; (with_reducible repeat (first|refine bD ?_ _|refine bE ?_|refine bA ?_ _)); refine blk_put (cs := #[.int .i64 t160,.int .i64 0,.int .i64 0,.int .i64 0,.int .i64 0]) ?_ 1 _ rfl; (with_reducible repeat (first|refine bD ?_ _|refine bE ?_|refine bA ?_ _)); refine blk_put (cs := #[.int .i64 0,.int .i64 0,.int .i64 0,.int .i64 0,.int .i64 0]) ?_ 0 _ rfl; (with_reducible repeat (first|refine bD ?_ _|refine bE ?_|refine bA ?_ _)); exact BK166.out) hb); have n5_ := Aside0.mk (below_step (by repeat (first | (with_reducible first | exact HB.out | apply below_alloc | apply pw_below_drewN | apply below_drew1 | refine below_set ?_ GE113.out | refine below_set ?_ GE125.out | refine below_set ?_ GE142.out | refine below_set ?_ GE154.out | refine below_set ?_ GE166.out) | exact HB.out)) hb); clear BK113; clear BK125; clear BK142; clear BK154; clear BK166; clear HB; have BK113 := n0_; have BK125 := n1_; have BK142 := n2_; have BK154 := n3_; have BK166 := n4_; have HB := n5_; clear n0_ n1_ n2_ n3_ n4_ n5_; (try clear hb); (try clear hb2); (try clear hk); (try clear hi)) | ((with_reducible refine gate_callee (f := 14) rfl ?_); refine goesL_ (some 53) rfl rfl Tryz.func14 (by kernel_rfl) rfl #[.int .i64 1,.int .i64 0,.int .i64 0,.int .i64 0,.int .i64 0] rfl (by (try simp only [List.map_toArray,List.map_cons,List.map_nil]); first | done | rfl | (simp only [List.length_drop,List.length_take]; rfl)) ?_; (with_reducible refine (spoondriftlaw01_num.calls 1 0 0 0 0 t172 t173 t174 t175 t176 _ A13.out).mono ?_); rintro e w91 ⟨rfl,hb⟩; refine ⟨_,rfl,?_⟩; have n0_ := Aside0.mk (blk_below (g := gb113) (o := .cells #[.int .i64 t107,.int .i64 t108,.int .i64 t109,.int .i64 t110,.int .i64 t111] 23 (0,0)) (by (with_reducible repeat (first|refine bD ?_ _|refine bE ?_|refine bA ?_ _)); exact BK113.out) hb); have n1_ := Aside0.mk (blk_below (g := gb125) (o := .cells #[.int .i64 t119,.int .i64 t120,.int .i64 t121,.int .i64 t122,.int .i64 t123] 23 (0,0)) (by (with_reducible repeat (first|refine bD ?_ _|refine bE ?_|refine bA ?_ _)); exact BK125.out) hb); have n2_ := Aside0.mk (blk_below (g := gb142) (o := .cells #[.int .i64 t136,.int .i64 t137,.int .i64 t138,.int .i64 t139,.int .i64 t140] 23 (0,0)) (by (with_reducible repeat (first|refine bD ?_ _|refine bE ?_|refine bA ?_ _)); exact BK142.out) hb); have n3_ := Aside0.mk (blk_below (g := gb154) (o := .cells #[.int .i64 t148,.int .i64 t149,.int .i64 t150,.int .i64 t151,.int .i64 t152] 23 (0,0)) (by (with_reducible repeat (first|refine bD ?_ _|refine bE ?_|refine bA ?_ _)); exact BK154.out) hb); have n4_ := Aside0.mk (blk_below (g := gb166) (o := .cells #[.int .i64 t160,.int .i64 t161,.int .i64 t162,.int .i64 t163,.int .i64 t164] 23 (0,0)) (by (with_reducible repeat (first|refine bD ?_ _|refine bE ?_|refine bA ?_ _)); exact BK166.out) hb); have n5_ := Aside0.mk (below_step (by repeat (first | (with_reducible first | exact HB.out | apply below_alloc | apply pw_below_drewN | apply below_drew1 | refine below_set ?_ GE113.out | refine below_set ?_ GE125.out | refine below_set ?_ GE142.out | refine below_set ?_ GE154.out | refine below_set ?_ GE166.out) | exact HB.out)) hb); clear BK113; clear BK125; clear BK142; clear BK154; clear BK166; clear HB; have BK113 := n0_; have BK125 := n1_; have BK142 := n2_; have BK154 := n3_; have BK166 := n4_; have HB := n5_; clear n0_ n1_ n2_ n3_ n4_ n5_; (try clear hb); (try clear hb2); (try clear hk); (try clear hi)) | ((with_reducible refine gate_callee (f := 22) rfl ?_); refine goesL_ (some 54) rfl rfl Tryz.func22 (by kernel_rfl) rfl #[.agg #[.int .i64 t167,.int .i64 t168,.int .i64 t169,.int .i64 t170,.int .i64 t171],.agg #[.int .i64 t172,.int .i64 t173,.int .i64 t174,.int .i64 t175,.int .i64 t176]] rfl (by (try simp only [List.map_toArray,List.map_cons,List.map_nil]); first | done | rfl | (simp only [List.length_drop,List.length_take]; rfl)) ?_; (with_reducible refine (ring_Less.calls t167 t168 t169 t170 t171 t172 t173 t174 t175 t176 true t178 _ A14.out).mono ?_); rintro e w92 ⟨rfl,hb⟩; refine ⟨_,rfl,?_⟩; have n0_ := Aside0.mk (blk_below (g := gb113) (o := .cells #[.int .i64 t107,.int .i64 t108,.int .i64 t109,.int .i64 t110,.int .i64 t111] 23 (0,0)) (by (with_reducible repeat (first|refine bD ?_ _|refine bE ?_|refine bA ?_ _)); exact BK113.out) hb); have n1_ := Aside0.mk (blk_below (g := gb125) (o := .cells #[.int .i64 t119,.int .i64 t120,.int .i64 t121,.int .i64 t122,.int .i64 t123] 23 (0,0)) (by (with_reducible repeat (first|refine bD ?_ _|refine bE ?_|refine bA ?_ _)); exact BK125.out) hb); have n2_ := Aside0.mk (blk_below (g := gb142) (o := .cells #[.int .i64 t136,.int .i64 t137,.int .i64 t138,.int .i64 t139,.int .i64 t140] 23 (0,0)) (by (with_reducible repeat (first|refine bD ?_ _|refine bE ?_|refine bA ?_ _)); exact BK142.out) hb); have n3_ := Aside0.mk (blk_below (g := gb154) (o := .cells #[.int .i64 t148,.int .i64 t149,.int .i64 t150,.int .i64 t151,.int .i64 t152] 23 (0,0)) (by (with_reducible repeat (first|refine bD ?_ _|refine bE ?_|refine bA ?_ _)); exact BK154.out) hb); have n4_ := Aside0.mk (blk_below (g := gb166) (o := .cells #[.int .i64 t160,.int .i64 t161,.int .i64 t162,.int .i64 t163,.int .i64 t164] 23 (0,0)) (by (with_reducible repeat (first|refine bD ?_ _|refine bE ?_|refine bA ?_ _)); exact BK166.out) hb); have n5_ := Aside0.mk (below_step (by repeat (first | (with_reducible first | exact HB.out | apply below_alloc | apply pw_below_drewN | apply below_drew1 | refine below_set ?_ GE113.out | refine below_set ?_ GE125.out | refine below_set ?_ GE142.out | refine below_set ?_ GE154.out | refine below_set ?_ GE166.out) | exact HB.out)) hb); clear BK113; clear BK125; clear BK142; clear BK154; clear BK166; clear HB; have BK113 := n0_; have BK125 := n1_; have BK142 := n2_; have BK154 := n3_; have BK166 := n4_; have HB := n5_; clear n0_ n1_ n2_ n3_ n4_ n5_; (try clear hb); (try clear hb2); (try clear hk); (try clear hi)) | ((with_reducible refine gate_callee (f := 14) rfl ?_); refine goesL_ (some 58) rfl rfl Tryz.func14 (by kernel_rfl) rfl #[.int .i64 2,.int .i64 (-1),.int .i64 0,.int .i64 1,.int .i64 0] rfl (by (try simp only [List.map_toArray,List.map_cons,List.map_nil]); first | done | rfl | (simp only [List.length_drop,List.length_take]; rfl)) ?_; (with_reducible refine (spoondriftlaw01_num.calls 2 (-1) 0 1 0 t179 t180 t181 t182 t183 _ A15.out).mono ?_); rintro e w93 ⟨rfl,hb⟩; refine ⟨_,rfl,?_⟩; have n0_ := Aside0.mk (blk_below (g := gb113) (o := .cells #[.int .i64 t107,.int .i64 t108,.int .i64 t109,.int .i64 t110,.int .i64 t111] 23 (0,0)) (by (with_reducible repeat (first|refine bD ?_ _|refine bE ?_|refine bA ?_ _)); exact BK113.out) hb); have n1_ := Aside0.mk (blk_below (g := gb125) (o := .cells #[.int .i64 t119,.int .i64 t120,.int .i64 t121,.int .i64 t122,.int .i64 t123] 23 (0,0)) (by (with_reducible repeat (first|refine bD ?_ _|refine bE ?_|refine bA ?_ _)); exact BK125.out) hb); have n2_ := Aside0.mk (blk_below (g := gb142) (o := .cells #[.int .i64 t136,.int .i64 t137,.int .i64 t138,.int .i64 t139,.int .i64 t140] 23 (0,0)) (by (with_reducible repeat (first|refine bD ?_ _|refine bE ?_|refine bA ?_ _)); exact BK142.out) hb); have n3_ := Aside0.mk (blk_below (g := gb154) (o := .cells #[.int .i64 t148,.int .i64 t149,.int .i64 t150,.int .i64 t151,.int .i64 t152] 23 (0,0)) (by (with_reducible repeat (first|refine bD ?_ _|refine bE ?_|refine bA ?_ _)); exact BK154.out) hb); have n4_ := Aside0.mk (blk_below (g := gb166) (o := .cells #[.int .i64 t160,.int .i64 t161,.int .i64 t162,.int .i64 t163,.int .i64 t164] 23 (0,0)) (by (with_reducible repeat (first|refine bD ?_ _|refine bE ?_|refine bA ?_ _)); exact BK166.out) hb); have n5_ := Aside0.mk (below_step (by repeat (first | (with_reducible first | exact HB.out | apply below_alloc | apply pw_below_drewN | apply below_drew1 | refine below_set ?_ GE113.out | refine below_set ?_ GE125.out | refine below_set ?_ GE142.out | refine below_set ?_ GE154.out | refine below_set ?_ GE166.out) | exact HB.out)) hb); clear BK113; clear BK125; clear BK142; clear BK154; clear BK166; clear HB; have BK113 := n0_; have BK125 := n1_; have BK142 := n2_; have BK154 := n3_; have BK166 := n4_; have HB := n5_; clear n0_ n1_ n2_ n3_ n4_ n5_; (try clear hb); (try clear hb2); (try clear hk); (try clear hi)) | ((with_reducible refine gate_callee (f := 14) rfl ?_); refine goesL_ (some 59) rfl rfl Tryz.func14 (by kernel_rfl) rfl #[.int .i64 1,.int .i64 0,.int .i64 0,.int .i64 0,.int .i64 2] rfl (by (try simp only [List.map_toArray,List.map_cons,List.map_nil]); first | done | rfl | (simp only [List.length_drop,List.length_take]; rfl)) ?_; (with_reducible refine (spoondriftlaw01_num.calls 1 0 0 0 2 t184 t185 t186 t187 t188 _ A16.out).mono ?_); rintro e w94 ⟨rfl,hb⟩; refine ⟨_,rfl,?_⟩; have n0_ := Aside0.mk (blk_below (g := gb113) (o := .cells #[.int .i64 t107,.int .i64 t108,.int .i64 t109,.int .i64 t110,.int .i64 t111] 23 (0,0)) (by (with_reducible repeat (first|refine bD ?_ _|refine bE ?_|refine bA ?_ _)); exact BK113.out) hb); have n1_ := Aside0.mk (blk_below (g := gb125) (o := .cells #[.int .i64 t119,.int .i64 t120,.int .i64 t121,.int .i64 t122,.int .i64 t123] 23 (0,0)) (by (with_reducible repeat (first|refine bD ?_ _|refine bE ?_|refine bA ?_ _)); exact BK125.out) hb); have n2_ := Aside0.mk (blk_below (g := gb142) (o := .cells #[.int .i64 t136,.int .i64 t137,.int .i64 t138,.int .i64 t139,.int .i64 t140] 23 (0,0)) (by (with_reducible repeat (first|refine bD ?_ _|refine bE ?_|refine bA ?_ _)); exact BK142.out) hb); have n3_ := Aside0.mk (blk_below (g := gb154) (o := .cells #[.int .i64 t148,.int .i64 t149,.int .i64 t150,.int .i64 t151,.int .i64 t152] 23 (0,0)) (by (with_reducible repeat (first|refine bD ?_ _|refine bE ?_|refine bA ?_ _)); exact BK154.out) hb); have n4_ := Aside0.mk (blk_below (g := gb166) (o := .cells #[.int .i64 t160,.int .i64 t161,.int .i64 t162,.int .i64 t163,.int .i64 t164] 23 (0,0)) (by (with_reducible repeat (first|refine bD ?_ _|refine bE ?_|refine bA ?_ _)); exact BK166.out) hb); have n5_ := Aside0.mk (below_step (by repeat (first | (with_reducible first | exact HB.out | apply below_alloc | apply pw_below_drewN | apply below_drew1 | refine below_set ?_ GE113.out | refine below_set ?_ GE125.out | refine below_set ?_ GE142.out | refine below_set ?_ GE154.out | refine below_set ?_ GE166.out) | exact HB.out)) hb); clear BK113; clear BK125; clear BK142; clear BK154; clear BK166; clear HB; have BK113 := n0_; have BK125 := n1_; have BK142 := n2_; have BK154 := n3_; have BK166 := n4_; have HB := n5_; clear n0_ n1_ n2_ n3_ n4_ n5_; (try clear hb); (try clear hb2); (try clear hk); (try clear hi)) | ((with_reducible refine gate_callee (f := 22) rfl ?_); refine goesL_ (some 60) rfl rfl Tryz.func22 (by kernel_rfl) rfl #[.agg #[.int .i64 t179,.int .i64 t180,.int .i64 t181,.int .i64 t182,.int .i64 t183],.agg #[.int .i64 t184,.int .i64 t185,.int .i64 t186,.int .i64 t187,.int .i64 t188]] rfl (by (try simp only [List.map_toArray,List.map_cons,List.map_nil]); first | done | rfl | (simp only [List.length_drop,List.length_take]; rfl)) ?_; (with_reducible refine (ring_Less.calls t179 t180 t181 t182 t183 t184 t185 t186 t187 t188 false t190 _ A17.out).mono ?_); rintro e w95 ⟨rfl,hb⟩; refine ⟨_,rfl,?_⟩; have n0_ := Aside0.mk (blk_below (g := gb113) (o := .cells #[.int .i64 t107,.int .i64 t108,.int .i64 t109,.int .i64 t110,.int .i64 t111] 23 (0,0)) (by (with_reducible repeat (first|refine bD ?_ _|refine bE ?_|refine bA ?_ _)); exact BK113.out) hb); have n1_ := Aside0.mk (blk_below (g := gb125) (o := .cells #[.int .i64 t119,.int .i64 t120,.int .i64 t121,.int .i64 t122,.int .i64 t123] 23 (0,0)) (by (with_reducible repeat (first|refine bD ?_ _|refine bE ?_|refine bA ?_ _)); exact BK125.out) hb); have n2_ := Aside0.mk (blk_below (g := gb142) (o := .cells #[.int .i64 t136,.int .i64 t137,.int .i64 t138,.int .i64 t139,.int .i64 t140] 23 (0,0)) (by (with_reducible repeat (first|refine bD ?_ _|refine bE ?_|refine bA ?_ _)); exact BK142.out) hb); have n3_ := Aside0.mk (blk_below (g := gb154) (o := .cells #[.int .i64 t148,.int .i64 t149,.int .i64 t150,.int .i64 t151,.int .i64 t152] 23 (0,0)) (by (with_reducible repeat (first|refine bD ?_ _|refine bE ?_|refine bA ?_ _)); exact BK154.out) hb); have n4_ := Aside0.mk (blk_below (g := gb166) (o := .cells #[.int .i64 t160,.int .i64 t161,.int .i64 t162,.int .i64 t163,.int .i64 t164] 23 (0,0)) (by (with_reducible repeat (first|refine bD ?_ _|refine bE ?_|refine bA ?_ _)); exact BK166.out) hb); have n5_ := Aside0.mk (below_step (by repeat (first | (with_reducible first | exact HB.out | apply below_alloc | apply pw_below_drewN | apply below_drew1 | refine below_set ?_ GE113.out | refine below_set ?_ GE125.out | refine below_set ?_ GE142.out | refine below_set ?_ GE154.out | refine below_set ?_ GE166.out) | exact HB.out)) hb); clear BK113; clear BK125; clear BK142; clear BK154; clear BK166; clear HB; have BK113 := n0_; have BK125 := n1_; have BK142 := n2_; have BK154 := n3_; have BK166 := n4_; have HB := n5_; clear n0_ n1_ n2_ n3_ n4_ n5_; (try clear hb); (try clear hb2); (try clear hk); (try clear hi)) | ((with_reducible refine gate_callee (f := 14) rfl ?_); refine goesL_ (some 64) rfl rfl Tryz.func14 (by kernel_rfl) rfl #[.int .i64 1,.int .i64 0,.int .i64 0,.int .i64 0,.int .i64 0] rfl (by (try simp only [List.map_toArray,List.map_cons,List.map_nil]); first | done | rfl | (simp only [List.length_drop,List.length_take]; rfl)) ?_; (with_reducible refine (spoondriftlaw01_num.calls 1 0 0 0 0 t191 t192 t193 t194 t195 _ A18.out).mono ?_); rintro e w96 ⟨rfl,hb⟩; refine ⟨_,rfl,?_⟩; have n0_ := Aside0.mk (blk_below (g := gb113) (o := .cells #[.int .i64 t107,.int .i64 t108,.int .i64 t109,.int .i64 t110,.int .i64 t111] 23 (0,0)) (by (with_reducible repeat (first|refine bD ?_ _|refine bE ?_|refine bA ?_ _)); exact BK113.out) hb); have n1_ := Aside0.mk (blk_below (g := gb125) (o := .cells #[.int .i64 t119,.int .i64 t120,.int .i64 t121,.int .i64 t122,.int .i64 t123] 23 (0,0)) (by (with_reducible repeat (first|refine bD ?_ _|refine bE ?_|refine bA ?_ _)); exact BK125.out) hb); have n2_ := Aside0.mk (blk_below (g := gb142) (o := .cells #[.int .i64 t136,.int .i64 t137,.int .i64 t138,.int .i64 t139,.int .i64 t140] 23 (0,0)) (by (with_reducible repeat (first|refine bD ?_ _|refine bE ?_|refine bA ?_ _)); exact BK142.out) hb); have n3_ := Aside0.mk (blk_below (g := gb154) (o := .cells #[.int .i64 t148,.int .i64 t149,.int .i64 t150,.int .i64 t151,.int .i64 t152] 23 (0,0)) (by (with_reducible repeat (first|refine bD ?_ _|refine bE ?_|refine bA ?_ _)); exact BK154.out) hb); have n4_ := Aside0.mk (blk_below (g := gb166) (o := .cells #[.int .i64 t160,.int .i64 t161,.int .i64 t162,.int .i64 t163,.int .i64 t164] 23 (0,0)) (by (with_reducible repeat (first|refine bD ?_ _|refine bE ?_|refine bA ?_ _)); exact BK166.out) hb); have n5_ := Aside0.mk (below_step (by repeat (first | (with_reducible first | exact HB.out | apply below_alloc | apply pw_below_drewN | apply below_drew1 | refine below_set ?_ GE113.out | refine below_set ?_ GE125.out | refine below_set ?_ GE142.out | refine below_set ?_ GE154.out | refine below_set ?_ GE166.out) | exact HB.out)) hb); clear BK113; clear BK125; clear BK142; clear BK154; clear BK166; clear HB; have BK113 := n0_; have BK125 := n1_; have BK142 := n2_; have BK154 := n3_; have BK166 := n4_; have HB := n5_; clear n0_ n1_ n2_ n3_ n4_ n5_; (try clear hb); (try clear hb2); (try clear hk); (try clear hi)) | ((with_reducible refine gate_callee (f := 14) rfl ?_); refine goesL_ (some 65) rfl rfl Tryz.func14 (by kernel_rfl) rfl #[.int .i64 1,.int .i64 1,.int .i64 0,.int .i64 0,.int .i64 0] rfl (by (try simp only [List.map_toArray,List.map_cons,List.map_nil]); first | done | rfl | (simp only [List.length_drop,List.length_take]; rfl)) ?_; (with_reducible refine (spoondriftlaw01_num.calls 1 1 0 0 0 t196 t197 t198 t199 t200 _ A19.out).mono ?_); rintro e w97 ⟨rfl,hb⟩; refine ⟨_,rfl,?_⟩; have n0_ := Aside0.mk (blk_below (g := gb113) (o := .cells #[.int .i64 t107,.int .i64 t108,.int .i64 t109,.int .i64 t110,.int .i64 t111] 23 (0,0)) (by (with_reducible repeat (first|refine bD ?_ _|refine bE ?_|refine bA ?_ _)); exact BK113.out) hb); have n1_ := Aside0.mk (blk_below (g := gb125) (o := .cells #[.int .i64 t119,.int .i64 t120,.int .i64 t121,.int .i64 t122,.int .i64 t123] 23 (0,0)) (by (with_reducible repeat (first|refine bD ?_ _|refine bE ?_|refine bA ?_ _)); exact BK125.out) hb); have n2_ := Aside0.mk (blk_below (g := gb142) (o := .cells #[.int .i64 t136,.int .i64 t137,.int .i64 t138,.int .i64 t139,.int .i64 t140] 23 (0,0)) (by (with_reducible repeat (first|refine bD ?_ _|refine bE ?_|refine bA ?_ _)); exact BK142.out) hb); have n3_ := Aside0.mk (blk_below (g := gb154) (o := .cells #[.int .i64 t148,.int .i64 t149,.int .i64 t150,.int .i64 t151,.int .i64 t152] 23 (0,0)) (by (with_reducible repeat (first|refine bD ?_ _|refine bE ?_|refine bA ?_ _)); exact BK154.out) hb); have n4_ := Aside0.mk (blk_below (g := gb166) (o := .cells #[.int .i64 t160,.int .i64 t161,.int .i64 t162,.int .i64 t163,.int .i64 t164] 23 (0,0)) (by (with_reducible repeat (first|refine bD ?_ _|refine bE ?_|refine bA ?_ _)); exact BK166.out) hb); have n5_ := Aside0.mk (below_step (by repeat (first | (with_reducible first | exact HB.out | apply below_alloc | apply pw_below_drewN | apply below_drew1 | refine below_set ?_ GE113.out | refine below_set ?_ GE125.out | refine below_set ?_ GE142.out | refine below_set ?_ GE154.out | refine below_set ?_ GE166.out) | exact HB.out)) hb); clear BK113; clear BK125; clear BK142; clear BK154; clear BK166; clear HB; have BK113 := n0_; have BK125 := n1_; have BK142 := n2_; have BK154 := n3_; have BK166 := n4_; have HB := n5_; clear n0_ n1_ n2_ n3_ n4_ n5_; (try clear hb); (try clear hb2); (try clear hk); (try clear hi)) | ((with_reducible refine gate_callee (f := 23) rfl ?_); refine goesL_ (some 66) rfl rfl Tryz.func23 (by kernel_rfl) rfl #[.agg #[.int .i64 t191,.int .i64 t192,.int .i64 t193,.int .i64 t194,.int .i64 t195],.agg #[.int .i64 t196,.int .i64 t197,.int .i64 t198,.int .i64 t199,.int .i64 t200]] rfl (by (try simp only [List.map_toArray,List.map_cons,List.map_nil]); first | done | rfl | (simp only [List.length_drop,List.length_take]; rfl)) ?_; (with_reducible refine (ring_Divide.calls t191 t192 t193 t194 t195 t196 t197 t198 t199 t200 t201 t202 t203 t204 t205 t206 _ A20.out).mono ?_); rintro e w98 ⟨rfl,hb⟩; refine ⟨_,rfl,?_⟩; have n0_ := Aside0.mk (blk_below (g := gb113) (o := .cells #[.int .i64 t107,.int .i64 t108,.int .i64 t109,.int .i64 t110,.int .i64 t111] 23 (0,0)) (by (with_reducible repeat (first|refine bD ?_ _|refine bE ?_|refine bA ?_ _)); exact BK113.out) hb); have n1_ := Aside0.mk (blk_below (g := gb125) (o := .cells #[.int .i64 t119,.int .i64 t120,.int .i64 t121,.int .i64 t122,.int .i64 t123] 23 (0,0)) (by (with_reducible repeat (first|refine bD ?_ _|refine bE ?_|refine bA ?_ _)); exact BK125.out) hb); have n2_ := Aside0.mk (blk_below (g := gb142) (o := .cells #[.int .i64 t136,.int .i64 t137,.int .i64 t138,.int .i64 t139,.int .i64 t140] 23 (0,0)) (by (with_reducible repeat (first|refine bD ?_ _|refine bE ?_|refine bA ?_ _)); exact BK142.out) hb); have n3_ := Aside0.mk (blk_below (g := gb154) (o := .cells #[.int .i64 t148,.int .i64 t149,.int .i64 t150,.int .i64 t151,.int .i64 t152] 23 (0,0)) (by (with_reducible repeat (first|refine bD ?_ _|refine bE ?_|refine bA ?_ _)); exact BK154.out) hb); have n4_ := Aside0.mk (blk_below (g := gb166) (o := .cells #[.int .i64 t160,.int .i64 t161,.int .i64 t162,.int .i64 t163,.int .i64 t164] 23 (0,0)) (by (with_reducible repeat (first|refine bD ?_ _|refine bE ?_|refine bA ?_ _)); exact BK166.out) hb); have n5_ := Aside0.mk (below_step (by repeat (first | (with_reducible first | exact HB.out | apply below_alloc | apply pw_below_drewN | apply below_drew1 | refine below_set ?_ GE113.out | refine below_set ?_ GE125.out | refine below_set ?_ GE142.out | refine below_set ?_ GE154.out | refine below_set ?_ GE166.out) | exact HB.out)) hb); clear BK113; clear BK125; clear BK142; clear BK154; clear BK166; clear HB; have BK113 := n0_; have BK125 := n1_; have BK142 := n2_; have BK154 := n3_; have BK166 := n4_; have HB := n5_; clear n0_ n1_ n2_ n3_ n4_ n5_; (try clear hb); (try clear hb2); (try clear hk); (try clear hi)) | ((with_reducible refine gate_dst (N := 15) rfl ?_); refine box_event ?hg (N := 15) ?hd (cs := #[.int .i64 0,.int .i64 0,.int .i64 0,.int .i64 0,.int .i64 0]) (t := 23) ?hr ?_; (case hd => rfl); (case hg => rfl); (case hr => first | (go_simp; done) | (go_simp; rfl)); intro gb207 hg w99 hbox hb; have n0_ := Aside0.mk (blk_below (g := gb113) (o := .cells #[.int .i64 t107,.int .i64 t108,.int .i64 t109,.int .i64 t110,.int .i64 t111] 23 (0,0)) (by (with_reducible repeat (first|refine bD ?_ _|refine bE ?_|refine bA ?_ _)); exact BK113.out) hb); have n1_ := Aside0.mk (blk_below (g := gb125) (o := .cells #[.int .i64 t119,.int .i64 t120,.int .i64 t121,.int .i64 t122,.int .i64 t123] 23 (0,0)) (by (with_reducible repeat (first|refine bD ?_ _|refine bE ?_|refine bA ?_ _)); exact BK125.out) hb); have n2_ := Aside0.mk (blk_below (g := gb142) (o := .cells #[.int .i64 t136,.int .i64 t137,.int .i64 t138,.int .i64 t139,.int .i64 t140] 23 (0,0)) (by (with_reducible repeat (first|refine bD ?_ _|refine bE ?_|refine bA ?_ _)); exact BK142.out) hb); have n3_ := Aside0.mk (blk_below (g := gb154) (o := .cells #[.int .i64 t148,.int .i64 t149,.int .i64 t150,.int .i64 t151,.int .i64 t152] 23 (0,0)) (by (with_reducible repeat (first|refine bD ?_ _|refine bE ?_|refine bA ?_ _)); exact BK154.out) hb); have n4_ := Aside0.mk (blk_below (g := gb166) (o := .cells #[.int .i64 t160,.int .i64 t161,.int .i64 t162,.int .i64 t163,.int .i64 t164] 23 (0,0)) (by (with_reducible repeat (first|refine bD ?_ _|refine bE ?_|refine bA ?_ _)); exact BK166.out) hb); have n5_ := Aside0.mk (below_step (by repeat (first | (with_reducible first | exact HB.out | apply below_alloc | apply pw_below_drewN | apply below_drew1 | refine below_set ?_ GE113.out | refine below_set ?_ GE125.out | refine below_set ?_ GE142.out | refine below_set ?_ GE154.out | refine below_set ?_ GE166.out) | exact HB.out)) hb); have n6_ := Aside0.mk (hbox); have n7_ := Aside0.mk ((by rw [hg]; exact (below_size (by repeat (first | (with_reducible first | exact HB.out | apply below_alloc | apply pw_below_drewN | apply below_drew1 | refine below_set ?_ GE113.out | refine below_set ?_ GE125.out | refine below_set ?_ GE142.out | refine below_set ?_ GE154.out | refine below_set ?_ GE166.out) | exact HB.out))) : w.heap.size ≤ gb207)); have n8_ := Aside0.mk ((by rw [hg]; exact (below_size (by repeat (first | (with_reducible first | exact HB.out | apply below_alloc | apply pw_below_drewN | apply below_drew1 | refine below_set ?_ GE113.out | refine below_set ?_ GE125.out | refine below_set ?_ GE142.out | refine below_set ?_ GE154.out | refine below_set ?_ GE166.out) | exact HB.out))) : w.heap.size ≤ gb207)); have n9_ := Aside0.mk ((by rw [hg]; exact Nat.ne_of_lt (blk_lt (g := gb113) (o := .cells #[.int .i64 t107,.int .i64 t108,.int .i64 t109,.int .i64 t110,.int .i64 t111] 23 (0,0)) (by (with_reducible repeat (first|refine bD ?_ _|refine bE ?_|refine bA ?_ _)); exact BK113.out)) : gb113 ≠ gb207)); have n10_ := Aside0.mk ((by rw [hg]; exact Nat.ne_of_gt (blk_lt (g := gb113) (o := .cells #[.int .i64 t107,.int .i64 t108,.int .i64 t109,.int .i64 t110,.int .i64 t111] 23 (0,0)) (by (with_reducible repeat (first|refine bD ?_ _|refine bE ?_|refine bA ?_ _)); exact BK113.out)) : gb207 ≠ gb113)); have n11_ := Aside0.mk ((by rw [hg]; exact Nat.ne_of_lt (blk_lt (g := gb125) (o := .cells #[.int .i64 t119,.int .i64 t120,.int .i64 t121,.int .i64 t122,.int .i64 t123] 23 (0,0)) (by (with_reducible repeat (first|refine bD ?_ _|refine bE ?_|refine bA ?_ _)); exact BK125.out)) : gb125 ≠ gb207)); have n12_ := Aside0.mk ((by rw [hg]; exact Nat.ne_of_gt (blk_lt (g := gb125) (o := .cells #[.int .i64 t119,.int .i64 t120,.int .i64 t121,.int .i64 t122,.int .i64 t123] 23 (0,0)) (by (with_reducible repeat (first|refine bD ?_ _|refine bE ?_|refine bA ?_ _)); exact BK125.out)) : gb207 ≠ gb125)); have n13_ := Aside0.mk ((by rw [hg]; exact Nat.ne_of_lt (blk_lt (g := gb142) (o := .cells #[.int .i64 t136,.int .i64 t137,.int .i64 t138,.int .i64 t139,.int .i64 t140] 23 (0,0)) (by (with_reducible repeat (first|refine bD ?_ _|refine bE ?_|refine bA ?_ _)); exact BK142.out)) : gb142 ≠ gb207)); have n14_ := Aside0.mk ((by rw [hg]; exact Nat.ne_of_gt (blk_lt (g := gb142) (o := .cells #[.int .i64 t136,.int .i64 t137,.int .i64 t138,.int .i64 t139,.int .i64 t140] 23 (0,0)) (by (with_reducible repeat (first|refine bD ?_ _|refine bE ?_|refine bA ?_ _)); exact BK142.out)) : gb207 ≠ gb142)); have n15_ := Aside0.mk ((by rw [hg]; exact Nat.ne_of_lt (blk_lt (g := gb154) (o := .cells #[.int .i64 t148,.int .i64 t149,.int .i64 t150,.int .i64 t151,.int .i64 t152] 23 (0,0)) (by (with_reducible repeat (first|refine bD ?_ _|refine bE ?_|refine bA ?_ _)); exact BK154.out)) : gb154 ≠ gb207)); have n16_ := Aside0.mk ((by rw [hg]; exact Nat.ne_of_gt (blk_lt (g := gb154) (o := .cells #[.int .i64 t148,.int .i64 t149,.int .i64 t150,.int .i64 t151,.int .i64 t152] 23 (0,0)) (by (with_reducible repeat (first|refine bD ?_ _|refine bE ?_|refine bA ?_ _)); exact BK154.out)) : gb207 ≠ gb154)); have n17_ := Aside0.mk ((by rw [hg]; exact Nat.ne_of_lt (blk_lt (g := gb166) (o := .cells #[.int .i64 t160,.int .i64 t161,.int .i64 t162,.int .i64 t163,.int .i64 t164] 23 (0,0)) (by (with_reducible repeat (first|refine bD ?_ _|refine bE ?_|refine bA ?_ _)); exact BK166.out)) : gb166 ≠ gb207)); have n18_ := Aside0.mk ((by rw [hg]; exact Nat.ne_of_gt (blk_lt (g := gb166) (o := .cells #[.int .i64 t160,.int .i64 t161,.int .i64 t162,.int .i64 t163,.int .i64 t164] 23 (0,0)) (by (with_reducible repeat (first|refine bD ?_ _|refine bE ?_|refine bA ?_ _)); exact BK166.out)) : gb207 ≠ gb166)); clear BK113; clear BK125; clear BK142; clear BK154; clear BK166; clear HB; have BK113 := n0_; have BK125 := n1_; have BK142 := n2_; have BK154 := n3_; have BK166 := n4_; have HB := n5_; have BK207 := n6_; have GW207 := n7_; have GE207 := n8_; have NB113_207 := n9_; have NB207_113 := n10_; have NB125_207 := n11_; have NB207_125 := n12_; have NB142_207 := n13_; have NB207_142 := n14_; have NB154_207 := n15_; have NB207_154 := n16_; have NB166_207 := n17_; have NB207_166 := n18_; clear n0_ n1_ n2_ n3_ n4_ n5_ n6_ n7_ n8_ n9_ n10_ n11_ n12_ n13_ n14_ n15_ n16_ n17_ n18_; clear hb hbox hg; have hnb100 := NB207_113.out; have hnc100 := NB113_207.out; have hnb101 := NB207_125.out; have hnc101 := NB125_207.out; have hnb102 := NB207_142.out; have hnc102 := NB142_207.out; have hnb103 := NB207_154.out; have hnc103 := NB154_207.out; have hnb104 := NB207_166.out; have hnc104 := NB166_207.out; have hcz105_0 : w99.cell? ⟨gb207,0,none⟩ = some (.int .i64 0) := (blk_cell BK207.out 0).trans rfl; have hcz105_1 : w99.cell? ⟨gb207,1,none⟩ = some (.int .i64 0) := (blk_cell BK207.out 1).trans rfl; have hcz105_2 : w99.cell? ⟨gb207,2,none⟩ = some (.int .i64 0) := (blk_cell BK207.out 2).trans rfl; have hcz105_3 : w99.cell? ⟨gb207,3,none⟩ = some (.int .i64 0) := (blk_cell BK207.out 3).trans rfl; have hcz105_4 : w99.cell? ⟨gb207,4,none⟩ = some (.int .i64 0) := (blk_cell BK207.out 4).trans rfl; have hfz105_0 := blk_frozen BK207.out 0; have hfz105_1 := blk_frozen BK207.out 1; have hfz105_2 := blk_frozen BK207.out 2; have hfz105_3 := blk_frozen BK207.out 3; have hfz105_4 := blk_frozen BK207.out 4) | ((with_reducible refine gate_callee (f := 14) rfl ?_); refine goesL_ (some 70) rfl rfl Tryz.func14 (by kernel_rfl) rfl #[.int .i64 1,.int .i64 0,.int .i64 0,.int .i64 0,.int .i64 0] rfl (by (try simp only [List.map_toArray,List.map_cons,List.map_nil]); first | done | rfl | (simp only [List.length_drop,List.length_take]; rfl)) ?_; (with_reducible refine (spoondriftlaw01_num.calls 1 0 0 0 0 t208 t209 t210 t211 t212 _ A21.out).mono ?_); rintro e w106 ⟨rfl,hb⟩; refine ⟨_,rfl,?_⟩; have n0_ := Aside0.mk (blk_below (g := gb113) (o := .cells #[.int .i64 t107,.int .i64 t108,.int .i64 t109,.int .i64 t110,.int .i64 t111] 23 (0,0)) (by (with_reducible repeat (first|refine bD ?_ _|refine bE ?_|refine bA ?_ _)); refine blk_far ?_ NB113_207.out _; (with_reducible repeat (first|refine bD ?_ _|refine bE ?_|refine bA ?_ _)); refine blk_far ?_ NB113_207.out _; (with_reducible repeat (first|refine bD ?_ _|refine bE ?_|refine bA ?_ _)); refine blk_far ?_ NB113_207.out _; (with_reducible repeat (first|refine bD ?_ _|refine bE ?_|refine bA ?_ _)); refine blk_far ?_ NB113_207.out _; (with_reducible repeat (first|refine bD ?_ _|refine bE ?_|refine bA ?_ _)); refine blk_far ?_ NB113_207.out _; (with_reducible repeat (first|refine bD ?_ _|refine bE ?_|refine bA ?_ _)); exact BK113.out) hb); have n1_ := Aside0.mk (blk_below (g := gb125) (o := .cells #[.int .i64 t119,.int .i64 t120,.int .i64 t121,.int .i64 t122,.int .i64 t123] 23 (0,0)) (by (with_reducible repeat (first|refine bD ?_ _|refine bE ?_|refine bA ?_ _)); refine blk_far ?_ NB125_207.out _; (with_reducible repeat (first|refine bD ?_ _|refine bE ?_|refine bA ?_ _)); refine blk_far ?_ NB125_207.out _; (with_reducible repeat (first|refine bD ?_ _|refine bE ?_|refine bA ?_ _)); refine blk_far ?_ NB125_207.out _; (with_reducible repeat (first|refine bD ?_ _|refine bE ?_|refine bA ?_ _)); refine blk_far ?_ NB125_207.out _; (with_reducible repeat (first|refine bD ?_ _|refine bE ?_|refine bA ?_ _)); refine blk_far ?_ NB125_207.out _; (with_reducible repeat (first|refine bD ?_ _|refine bE ?_|refine bA ?_ _)); exact BK125.out) hb); have n2_ := Aside0.mk (blk_below (g := gb142) (o := .cells #[.int .i64 t136,.int .i64 t137,.int .i64 t138,.int .i64 t139,.int .i64 t140] 23 (0,0)) (by (with_reducible repeat (first|refine bD ?_ _|refine bE ?_|refine bA ?_ _)); refine blk_far ?_ NB142_207.out _; (with_reducible repeat (first|refine bD ?_ _|refine bE ?_|refine bA ?_ _)); refine blk_far ?_ NB142_207.out _; (with_reducible repeat (first|refine bD ?_ _|refine bE ?_|refine bA ?_ _)); refine blk_far ?_ NB142_207.out _; (with_reducible repeat (first|refine bD ?_ _|refine bE ?_|refine bA ?_ _)); refine blk_far ?_ NB142_207.out _; (with_reducible repeat (first|refine bD ?_ _|refine bE ?_|refine bA ?_ _)); refine blk_far ?_ NB142_207.out _; (with_reducible repeat (first|refine bD ?_ _|refine bE ?_|refine bA ?_ _)); exact BK142.out) hb); have n3_ := Aside0.mk (blk_below (g := gb154) (o := .cells #[.int .i64 t148,.int .i64 t149,.int .i64 t150,.int .i64 t151,.int .i64 t152] 23 (0,0)) (by (with_reducible repeat (first|refine bD ?_ _|refine bE ?_|refine bA ?_ _)); refine blk_far ?_ NB154_207.out _; (with_reducible repeat (first|refine bD ?_ _|refine bE ?_|refine bA ?_ _)); refine blk_far ?_ NB154_207.out _; (with_reducible repeat (first|refine bD ?_ _|refine bE ?_|refine bA ?_ _)); refine blk_far ?_ NB154_207.out _; (with_reducible repeat (first|refine bD ?_ _|refine bE ?_|refine bA ?_ _)); refine blk_far ?_ NB154_207.out _; (with_reducible repeat (first|refine bD ?_ _|refine bE ?_|refine bA ?_ _)); refine blk_far ?_ NB154_207.out _; (with_reducible repeat (first|refine bD ?_ _|refine bE ?_|refine bA ?_ _)); exact BK154.out) hb); have n4_ := Aside0.mk (blk_below (g := gb166) (o := .cells #[.int .i64 t160,.int .i64 t161,.int .i64 t162,.int .i64 t163,.int .i64 t164] 23 (0,0)) (by (with_reducible repeat (first|refine bD ?_ _|refine bE ?_|refine bA ?_ _)); refine blk_far ?_ NB166_207.out _; (with_reducible repeat (first|refine bD ?_ _|refine bE ?_|refine bA ?_ _)); refine blk_far ?_ NB166_207.out _; (with_reducible repeat (first|refine bD ?_ _|refine bE ?_|refine bA ?_ _)); refine blk_far ?_ NB166_207.out _; (with_reducible repeat (first|refine bD ?_ _|refine bE ?_|refine bA ?_ _)); refine blk_far ?_ NB166_207.out _; (with_reducible repeat (first|refine bD ?_ _|refine bE ?_|refine bA ?_ _)); refine blk_far ?_ NB166_207.out _; (with_reducible repeat (first|refine bD ?_ _|refine bE ?_|refine bA ?_ _)); exact BK166.out) hb); have n5_ := Aside0.mk (blk_below (g := gb207) (o := .cells #[.int .i64 t201,.int .i64 t202,.int .i64 t203,.int .i64 t204,.int .i64 t205] 23 (0,0)) (by (with_reducible repeat (first|refine bD ?_ _|refine bE ?_|refine bA ?_ _)); refine blk_put (cs := #[.int .i64 t201,.int .i64 t202,.int .i64 t203,.int .i64 t204,.int .i64 0]) ?_ 4 _ rfl; (with_reducible repeat (first|refine bD ?_ _|refine bE ?_|refine bA ?_ _)); refine blk_put (cs := #[.int .i64 t201,.int .i64 t202,.int .i64 t203,.int .i64 0,.int .i64 0]) ?_ 3 _ rfl; (with_reducible repeat (first|refine bD ?_ _|refine bE ?_|refine bA ?_ _)); refine blk_put (cs := #[.int .i64 t201,.int .i64 t202,.int .i64 0,.int .i64 0,.int .i64 0]) ?_ 2 _ rfl; (with_reducible repeat (first|refine bD ?_ _|refine bE ?_|refine bA ?_ _)); refine blk_put (cs := #[.int .i64 t201,.int .i64 0,.int .i64 0,.int .i64 0,.int .i64 0]) ?_ 1 _ rfl; (with_reducible repeat (first|refine bD ?_ _|refine bE ?_|refine bA ?_ _)); refine blk_put (cs := #[.int .i64 0,.int .i64 0,.int .i64 0,.int .i64 0,.int .i64 0]) ?_ 0 _ rfl; (with_reducible repeat (first|refine bD ?_ _|refine bE ?_|refine bA ?_ _)); exact BK207.out) hb); have n6_ := Aside0.mk (below_step (by repeat (first | (with_reducible first | exact HB.out | apply below_alloc | apply pw_below_drewN | apply below_drew1 | refine below_set ?_ GE113.out | refine below_set ?_ GE125.out | refine below_set ?_ GE142.out | refine below_set ?_ GE154.out | refine below_set ?_ GE166.out | refine below_set ?_ GE207.out) | exact HB.out)) hb); clear BK113; clear BK125; clear BK142; clear BK154; clear BK166; clear BK207; clear HB; have BK113 := n0_; have BK125 := n1_; have BK142 := n2_; have BK154 := n3_; have BK166 := n4_; have BK207 := n5_; have HB := n6_; clear n0_ n1_ n2_ n3_ n4_ n5_ n6_; (try clear hb); (try clear hb2); (try clear hk); (try clear hi)) | ((with_reducible refine gate_callee (f := 14) rfl ?_); refine goesL_ (some 71) rfl rfl Tryz.func14 (by kernel_rfl) rfl #[.int .i64 3,.int .i64 0,.int .i64 0,.int .i64 0,.int .i64 0] rfl (by (try simp only [List.map_toArray,List.map_cons,List.map_nil]); first | done | rfl | (simp only [List.length_drop,List.length_take]; rfl)) ?_; (with_reducible refine (spoondriftlaw01_num.calls 3 0 0 0 0 t213 t214 t215 t216 t217 _ A22.out).mono ?_); rintro e w107 ⟨rfl,hb⟩; refine ⟨_,rfl,?_⟩; have n0_ := Aside0.mk (blk_below (g := gb113) (o := .cells #[.int .i64 t107,.int .i64 t108,.int .i64 t109,.int .i64 t110,.int .i64 t111] 23 (0,0)) (by (with_reducible repeat (first|refine bD ?_ _|refine bE ?_|refine bA ?_ _)); exact BK113.out) hb); have n1_ := Aside0.mk (blk_below (g := gb125) (o := .cells #[.int .i64 t119,.int .i64 t120,.int .i64 t121,.int .i64 t122,.int .i64 t123] 23 (0,0)) (by (with_reducible repeat (first|refine bD ?_ _|refine bE ?_|refine bA ?_ _)); exact BK125.out) hb); have n2_ := Aside0.mk (blk_below (g := gb142) (o := .cells #[.int .i64 t136,.int .i64 t137,.int .i64 t138,.int .i64 t139,.int .i64 t140] 23 (0,0)) (by (with_reducible repeat (first|refine bD ?_ _|refine bE ?_|refine bA ?_ _)); exact BK142.out) hb); have n3_ := Aside0.mk (blk_below (g := gb154) (o := .cells #[.int .i64 t148,.int .i64 t149,.int .i64 t150,.int .i64 t151,.int .i64 t152] 23 (0,0)) (by (with_reducible repeat (first|refine bD ?_ _|refine bE ?_|refine bA ?_ _)); exact BK154.out) hb); have n4_ := Aside0.mk (blk_below (g := gb166) (o := .cells #[.int .i64 t160,.int .i64 t161,.int .i64 t162,.int .i64 t163,.int .i64 t164] 23 (0,0)) (by (with_reducible repeat (first|refine bD ?_ _|refine bE ?_|refine bA ?_ _)); exact BK166.out) hb); have n5_ := Aside0.mk (blk_below (g := gb207) (o := .cells #[.int .i64 t201,.int .i64 t202,.int .i64 t203,.int .i64 t204,.int .i64 t205] 23 (0,0)) (by (with_reducible repeat (first|refine bD ?_ _|refine bE ?_|refine bA ?_ _)); exact BK207.out) hb); have n6_ := Aside0.mk (below_step (by repeat (first | (with_reducible first | exact HB.out | apply below_alloc | apply pw_below_drewN | apply below_drew1 | refine below_set ?_ GE113.out | refine below_set ?_ GE125.out | refine below_set ?_ GE142.out | refine below_set ?_ GE154.out | refine below_set ?_ GE166.out | refine below_set ?_ GE207.out) | exact HB.out)) hb); clear BK113; clear BK125; clear BK142; clear BK154; clear BK166; clear BK207; clear HB; have BK113 := n0_; have BK125 := n1_; have BK142 := n2_; have BK154 := n3_; have BK166 := n4_; have BK207 := n5_; have HB := n6_; clear n0_ n1_ n2_ n3_ n4_ n5_ n6_; (try clear hb); (try clear hb2); (try clear hk); (try clear hi)) | ((with_reducible refine gate_callee (f := 23) rfl ?_); refine goesL_ (some 72) rfl rfl Tryz.func23 (by kernel_rfl) rfl #[.agg #[.int .i64 t208,.int .i64 t209,.int .i64 t210,.int .i64 t211,.int .i64 t212],.agg #[.int .i64 t213,.int .i64 t214,.int .i64 t215,.int .i64 t216,.int .i64 t217]] rfl (by (try simp only [List.map_toArray,List.map_cons,List.map_nil]); first | done | rfl | (simp only [List.length_drop,List.length_take]; rfl)) ?_; (with_reducible refine (ring_Divide.calls t208 t209 t210 t211 t212 t213 t214 t215 t216 t217 t218 t219 t220 t221 t222 t223 _ A23.out).mono ?_); rintro e w108 ⟨rfl,hb⟩; refine ⟨_,rfl,?_⟩; have n0_ := Aside0.mk (blk_below (g := gb113) (o := .cells #[.int .i64 t107,.int .i64 t108,.int .i64 t109,.int .i64 t110,.int .i64 t111] 23 (0,0)) (by (with_reducible repeat (first|refine bD ?_ _|refine bE ?_|refine bA ?_ _)); exact BK113.out) hb); have n1_ := Aside0.mk (blk_below (g := gb125) (o := .cells #[.int .i64 t119,.int .i64 t120,.int .i64 t121,.int .i64 t122,.int .i64 t123] 23 (0,0)) (by (with_reducible repeat (first|refine bD ?_ _|refine bE ?_|refine bA ?_ _)); exact BK125.out) hb); have n2_ := Aside0.mk (blk_below (g := gb142) (o := .cells #[.int .i64 t136,.int .i64 t137,.int .i64 t138,.int .i64 t139,.int .i64 t140] 23 (0,0)) (by (with_reducible repeat (first|refine bD ?_ _|refine bE ?_|refine bA ?_ _)); exact BK142.out) hb); have n3_ := Aside0.mk (blk_below (g := gb154) (o := .cells #[.int .i64 t148,.int .i64 t149,.int .i64 t150,.int .i64 t151,.int .i64 t152] 23 (0,0)) (by (with_reducible repeat (first|refine bD ?_ _|refine bE ?_|refine bA ?_ _)); exact BK154.out) hb); have n4_ := Aside0.mk (blk_below (g := gb166) (o := .cells #[.int .i64 t160,.int .i64 t161,.int .i64 t162,.int .i64 t163,.int .i64 t164] 23 (0,0)) (by (with_reducible repeat (first|refine bD ?_ _|refine bE ?_|refine bA ?_ _)); exact BK166.out) hb); have n5_ := Aside0.mk (blk_below (g := gb207) (o := .cells #[.int .i64 t201,.int .i64 t202,.int .i64 t203,.int .i64 t204,.int .i64 t205] 23 (0,0)) (by (with_reducible repeat (first|refine bD ?_ _|refine bE ?_|refine bA ?_ _)); exact BK207.out) hb); have n6_ := Aside0.mk (below_step (by repeat (first | (with_reducible first | exact HB.out | apply below_alloc | apply pw_below_drewN | apply below_drew1 | refine below_set ?_ GE113.out | refine below_set ?_ GE125.out | refine below_set ?_ GE142.out | refine below_set ?_ GE154.out | refine below_set ?_ GE166.out | refine below_set ?_ GE207.out) | exact HB.out)) hb); clear BK113; clear BK125; clear BK142; clear BK154; clear BK166; clear BK207; clear HB; have BK113 := n0_; have BK125 := n1_; have BK142 := n2_; have BK154 := n3_; have BK166 := n4_; have BK207 := n5_; have HB := n6_; clear n0_ n1_ n2_ n3_ n4_ n5_ n6_; (try clear hb); (try clear hb2); (try clear hk); (try clear hi)) | ((with_reducible refine gate_dst (N := 17) rfl ?_); refine box_event ?hg (N := 17) ?hd (cs := #[.int .i64 0,.int .i64 0,.int .i64 0,.int .i64 0,.int .i64 0]) (t := 23) ?hr ?_; (case hd => rfl); (case hg => rfl); (case hr => first | (go_simp; done) | (go_simp; rfl)); intro gb224 hg w109 hbox hb; have n0_ := Aside0.mk (blk_below (g := gb113) (o := .cells #[.int .i64 t107,.int .i64 t108,.int .i64 t109,.int .i64 t110,.int .i64 t111] 23 (0,0)) (by (with_reducible repeat (first|refine bD ?_ _|refine bE ?_|refine bA ?_ _)); exact BK113.out) hb); have n1_ := Aside0.mk (blk_below (g := gb125) (o := .cells #[.int .i64 t119,.int .i64 t120,.int .i64 t121,.int .i64 t122,.int .i64 t123] 23 (0,0)) (by (with_reducible repeat (first|refine bD ?_ _|refine bE ?_|refine bA ?_ _)); exact BK125.out) hb); have n2_ := Aside0.mk (blk_below (g := gb142) (o := .cells #[.int .i64 t136,.int .i64 t137,.int .i64 t138,.int .i64 t139,.int .i64 t140] 23 (0,0)) (by (with_reducible repeat (first|refine bD ?_ _|refine bE ?_|refine bA ?_ _)); exact BK142.out) hb); have n3_ := Aside0.mk (blk_below (g := gb154) (o := .cells #[.int .i64 t148,.int .i64 t149,.int .i64 t150,.int .i64 t151,.int .i64 t152] 23 (0,0)) (by (with_reducible repeat (first|refine bD ?_ _|refine bE ?_|refine bA ?_ _)); exact BK154.out) hb); have n4_ := Aside0.mk (blk_below (g := gb166) (o := .cells #[.int .i64 t160,.int .i64 t161,.int .i64 t162,.int .i64 t163,.int .i64 t164] 23 (0,0)) (by (with_reducible repeat (first|refine bD ?_ _|refine bE ?_|refine bA ?_ _)); exact BK166.out) hb); have n5_ := Aside0.mk (blk_below (g := gb207) (o := .cells #[.int .i64 t201,.int .i64 t202,.int .i64 t203,.int .i64 t204,.int .i64 t205] 23 (0,0)) (by (with_reducible repeat (first|refine bD ?_ _|refine bE ?_|refine bA ?_ _)); exact BK207.out) hb); have n6_ := Aside0.mk (below_step (by repeat (first | (with_reducible first | exact HB.out | apply below_alloc | apply pw_below_drewN | apply below_drew1 | refine below_set ?_ GE113.out | refine below_set ?_ GE125.out | refine below_set ?_ GE142.out | refine below_set ?_ GE154.out | refine below_set ?_ GE166.out | refine below_set ?_ GE207.out) | exact HB.out)) hb); have n7_ := Aside0.mk (hbox); have n8_ := Aside0.mk ((by rw [hg]; exact (below_size (by repeat (first | (with_reducible first | exact HB.out | apply below_alloc | apply pw_below_drewN | apply below_drew1 | refine below_set ?_ GE113.out | refine below_set ?_ GE125.out | refine below_set ?_ GE142.out | refine below_set ?_ GE154.out | refine below_set ?_ GE166.out | refine below_set ?_ GE207.out) | exact HB.out))) : w.heap.size ≤ gb224)); have n9_ := Aside0.mk ((by rw [hg]; exact (below_size (by repeat (first | (with_reducible first | exact HB.out | apply below_alloc | apply pw_below_drewN | apply below_drew1 | refine below_set ?_ GE113.out | refine below_set ?_ GE125.out | refine below_set ?_ GE142.out | refine below_set ?_ GE154.out | refine below_set ?_ GE166.out | refine below_set ?_ GE207.out) | exact HB.out))) : w.heap.size ≤ gb224)); have n10_ := Aside0.mk ((by rw [hg]; exact Nat.ne_of_lt (blk_lt (g := gb113) (o := .cells #[.int .i64 t107,.int .i64 t108,.int .i64 t109,.int .i64 t110,.int .i64 t111] 23 (0,0)) (by (with_reducible repeat (first|refine bD ?_ _|refine bE ?_|refine bA ?_ _)); exact BK113.out)) : gb113 ≠ gb224)); have n11_ := Aside0.mk ((by rw [hg]; exact Nat.ne_of_gt (blk_lt (g := gb113) (o := .cells #[.int .i64 t107,.int .i64 t108,.int .i64 t109,.int .i64 t110,.int .i64 t111] 23 (0,0)) (by (with_reducible repeat (first|refine bD ?_ _|refine bE ?_|refine bA ?_ _)); exact BK113.out)) : gb224 ≠ gb113)); have n12_ := Aside0.mk ((by rw [hg]; exact Nat.ne_of_lt (blk_lt (g := gb125) (o := .cells #[.int .i64 t119,.int .i64 t120,.int .i64 t121,.int .i64 t122,.int .i64 t123] 23 (0,0)) (by (with_reducible repeat (first|refine bD ?_ _|refine bE ?_|refine bA ?_ _)); exact BK125.out)) : gb125 ≠ gb224)); have n13_ := Aside0.mk ((by rw [hg]; exact Nat.ne_of_gt (blk_lt (g := gb125) (o := .cells #[.int .i64 t119,.int .i64 t120,.int .i64 t121,.int .i64 t122,.int .i64 t123] 23 (0,0)) (by (with_reducible repeat (first|refine bD ?_ _|refine bE ?_|refine bA ?_ _)); exact BK125.out)) : gb224 ≠ gb125)); have n14_ := Aside0.mk ((by rw [hg]; exact Nat.ne_of_lt (blk_lt (g := gb142) (o := .cells #[.int .i64 t136,.int .i64 t137,.int .i64 t138,.int .i64 t139,.int .i64 t140] 23 (0,0)) (by (with_reducible repeat (first|refine bD ?_ _|refine bE ?_|refine bA ?_ _)); exact BK142.out)) : gb142 ≠ gb224)); have n15_ := Aside0.mk ((by rw [hg]; exact Nat.ne_of_gt (blk_lt (g := gb142) (o := .cells #[.int .i64 t136,.int .i64 t137,.int .i64 t138,.int .i64 t139,.int .i64 t140] 23 (0,0)) (by (with_reducible repeat (first|refine bD ?_ _|refine bE ?_|refine bA ?_ _)); exact BK142.out)) : gb224 ≠ gb142)); have n16_ := Aside0.mk ((by rw [hg]; exact Nat.ne_of_lt (blk_lt (g := gb154) (o := .cells #[.int .i64 t148,.int .i64 t149,.int .i64 t150,.int .i64 t151,.int .i64 t152] 23 (0,0)) (by (with_reducible repeat (first|refine bD ?_ _|refine bE ?_|refine bA ?_ _)); exact BK154.out)) : gb154 ≠ gb224)); have n17_ := Aside0.mk ((by rw [hg]; exact Nat.ne_of_gt (blk_lt (g := gb154) (o := .cells #[.int .i64 t148,.int .i64 t149,.int .i64 t150,.int .i64 t151,.int .i64 t152] 23 (0,0)) (by (with_reducible repeat (first|refine bD ?_ _|refine bE ?_|refine bA ?_ _)); exact BK154.out)) : gb224 ≠ gb154)); have n18_ := Aside0.mk ((by rw [hg]; exact Nat.ne_of_lt (blk_lt (g := gb166) (o := .cells #[.int .i64 t160,.int .i64 t161,.int .i64 t162,.int .i64 t163,.int .i64 t164] 23 (0,0)) (by (with_reducible repeat (first|refine bD ?_ _|refine bE ?_|refine bA ?_ _)); exact BK166.out)) : gb166 ≠ gb224)); have n19_ := Aside0.mk ((by rw [hg]; exact Nat.ne_of_gt (blk_lt (g := gb166) (o := .cells #[.int .i64 t160,.int .i64 t161,.int .i64 t162,.int .i64 t163,.int .i64 t164] 23 (0,0)) (by (with_reducible repeat (first|refine bD ?_ _|refine bE ?_|refine bA ?_ _)); exact BK166.out)) : gb224 ≠ gb166)); have n20_ := Aside0.mk ((by rw [hg]; exact Nat.ne_of_lt (blk_lt (g := gb207) (o := .cells #[.int .i64 t201,.int .i64 t202,.int .i64 t203,.int .i64 t204,.int .i64 t205] 23 (0,0)) (by (with_reducible repeat (first|refine bD ?_ _|refine bE ?_|refine bA ?_ _)); exact BK207.out)) : gb207 ≠ gb224)); have n21_ := Aside0.mk ((by rw [hg]; exact Nat.ne_of_gt (blk_lt (g := gb207) (o := .cells #[.int .i64 t201,.int .i64 t202,.int .i64 t203,.int .i64 t204,.int .i64 t205] 23 (0,0)) (by (with_reducible repeat (first|refine bD ?_ _|refine bE ?_|refine bA ?_ _)); exact BK207.out)) : gb224 ≠ gb207)); clear BK113; clear BK125; clear BK142; clear BK154; clear BK166; clear BK207; clear HB; have BK113 := n0_; have BK125 := n1_; have BK142 := n2_; have BK154 := n3_; have BK166 := n4_; have BK207 := n5_; have HB := n6_; have BK224 := n7_; have GW224 := n8_; have GE224 := n9_; have NB113_224 := n10_; have NB224_113 := n11_; have NB125_224 := n12_; have NB224_125 := n13_; have NB142_224 := n14_; have NB224_142 := n15_; have NB154_224 := n16_; have NB224_154 := n17_; have NB166_224 := n18_; have NB224_166 := n19_; have NB207_224 := n20_; have NB224_207 := n21_; clear n0_ n1_ n2_ n3_ n4_ n5_ n6_ n7_ n8_ n9_ n10_ n11_ n12_ n13_ n14_ n15_ n16_ n17_ n18_ n19_ n20_ n21_; clear hb hbox hg; have hnb110 := NB224_113.out; have hnc110 := NB113_224.out; have hnb111 := NB224_125.out; have hnc111 := NB125_224.out; have hnb112 := NB224_142.out; have hnc112 := NB142_224.out; have hnb113 := NB224_154.out; have hnc113 := NB154_224.out; have hnb114 := NB224_166.out; have hnc114 := NB166_224.out; have hnb115 := NB224_207.out; have hnc115 := NB207_224.out; have hcz116_0 : w109.cell? ⟨gb224,0,none⟩ = some (.int .i64 0) := (blk_cell BK224.out 0).trans rfl; have hcz116_1 : w109.cell? ⟨gb224,1,none⟩ = some (.int .i64 0) := (blk_cell BK224.out 1).trans rfl; have hcz116_2 : w109.cell? ⟨gb224,2,none⟩ = some (.int .i64 0) := (blk_cell BK224.out 2).trans rfl; have hcz116_3 : w109.cell? ⟨gb224,3,none⟩ = some (.int .i64 0) := (blk_cell BK224.out 3).trans rfl; have hcz116_4 : w109.cell? ⟨gb224,4,none⟩ = some (.int .i64 0) := (blk_cell BK224.out 4).trans rfl; have hfz116_0 := blk_frozen BK224.out 0; have hfz116_1 := blk_frozen BK224.out 1; have hfz116_2 := blk_frozen BK224.out 2; have hfz116_3 := blk_frozen BK224.out 3; have hfz116_4 := blk_frozen BK224.out 4) | ((with_reducible refine gate_callee (f := 14) rfl ?_); refine goesL_ (some 76) rfl rfl Tryz.func14 (by kernel_rfl) rfl #[.int .i64 0,.int .i64 0,.int .i64 1,.int .i64 0,.int .i64 0] rfl (by (try simp only [List.map_toArray,List.map_cons,List.map_nil]); first | done | rfl | (simp only [List.length_drop,List.length_take]; rfl)) ?_; (with_reducible refine (spoondriftlaw01_num.calls 0 0 1 0 0 t225 t226 t227 t228 t229 _ A24.out).mono ?_); rintro e w117 ⟨rfl,hb⟩; refine ⟨_,rfl,?_⟩; have n0_ := Aside0.mk (blk_below (g := gb113) (o := .cells #[.int .i64 t107,.int .i64 t108,.int .i64 t109,.int .i64 t110,.int .i64 t111] 23 (0,0)) (by (with_reducible repeat (first|refine bD ?_ _|refine bE ?_|refine bA ?_ _)); refine blk_far ?_ NB113_224.out _; (with_reducible repeat (first|refine bD ?_ _|refine bE ?_|refine bA ?_ _)); refine blk_far ?_ NB113_224.out _; (with_reducible repeat (first|refine bD ?_ _|refine bE ?_|refine bA ?_ _)); refine blk_far ?_ NB113_224.out _; (with_reducible repeat (first|refine bD ?_ _|refine bE ?_|refine bA ?_ _)); refine blk_far ?_ NB113_224.out _; (with_reducible repeat (first|refine bD ?_ _|refine bE ?_|refine bA ?_ _)); refine blk_far ?_ NB113_224.out _; (with_reducible repeat (first|refine bD ?_ _|refine bE ?_|refine bA ?_ _)); exact BK113.out) hb); have n1_ := Aside0.mk (blk_below (g := gb125) (o := .cells #[.int .i64 t119,.int .i64 t120,.int .i64 t121,.int .i64 t122,.int .i64 t123] 23 (0,0)) (by (with_reducible repeat (first|refine bD ?_ _|refine bE ?_|refine bA ?_ _)); refine blk_far ?_ NB125_224.out _; (with_reducible repeat (first|refine bD ?_ _|refine bE ?_|refine bA ?_ _)); refine blk_far ?_ NB125_224.out _; (with_reducible repeat (first|refine bD ?_ _|refine bE ?_|refine bA ?_ _)); refine blk_far ?_ NB125_224.out _; (with_reducible repeat (first|refine bD ?_ _|refine bE ?_|refine bA ?_ _)); refine blk_far ?_ NB125_224.out _; (with_reducible repeat (first|refine bD ?_ _|refine bE ?_|refine bA ?_ _)); refine blk_far ?_ NB125_224.out _; (with_reducible repeat (first|refine bD ?_ _|refine bE ?_|refine bA ?_ _)); exact BK125.out) hb); have n2_ := Aside0.mk (blk_below (g := gb142) (o := .cells #[.int .i64 t136,.int .i64 t137,.int .i64 t138,.int .i64 t139,.int .i64 t140] 23 (0,0)) (by (with_reducible repeat (first|refine bD ?_ _|refine bE ?_|refine bA ?_ _)); refine blk_far ?_ NB142_224.out _; (with_reducible repeat (first|refine bD ?_ _|refine bE ?_|refine bA ?_ _)); refine blk_far ?_ NB142_224.out _; (with_reducible repeat (first|refine bD ?_ _|refine bE ?_|refine bA ?_ _)); refine blk_far ?_ NB142_224.out _; (with_reducible repeat (first|refine bD ?_ _|refine bE ?_|refine bA ?_ _)); refine blk_far ?_ NB142_224.out _; (with_reducible repeat (first|refine bD ?_ _|refine bE ?_|refine bA ?_ _)); refine blk_far ?_ NB142_224.out _; (with_reducible repeat (first|refine bD ?_ _|refine bE ?_|refine bA ?_ _)); exact BK142.out) hb); have n3_ := Aside0.mk (blk_below (g := gb154) (o := .cells #[.int .i64 t148,.int .i64 t149,.int .i64 t150,.int .i64 t151,.int .i64 t152] 23 (0,0)) (by (with_reducible repeat (first|refine bD ?_ _|refine bE ?_|refine bA ?_ _)); refine blk_far ?_ NB154_224.out _; (with_reducible repeat (first|refine bD ?_ _|refine bE ?_|refine bA ?_ _)); refine blk_far ?_ NB154_224.out _; (with_reducible repeat (first|refine bD ?_ _|refine bE ?_|refine bA ?_ _)); refine blk_far ?_ NB154_224.out _; (with_reducible repeat (first|refine bD ?_ _|refine bE ?_|refine bA ?_ _)); refine blk_far ?_ NB154_224.out _; (with_reducible repeat (first|refine bD ?_ _|refine bE ?_|refine bA ?_ _)); refine blk_far ?_ NB154_224.out _; (with_reducible repeat (first|refine bD ?_ _|refine bE ?_|refine bA ?_ _)); exact BK154.out) hb); have n4_ := Aside0.mk (blk_below (g := gb166) (o := .cells #[.int .i64 t160,.int .i64 t161,.int .i64 t162,.int .i64 t163,.int .i64 t164] 23 (0,0)) (by (with_reducible repeat (first|refine bD ?_ _|refine bE ?_|refine bA ?_ _)); refine blk_far ?_ NB166_224.out _; (with_reducible repeat (first|refine bD ?_ _|refine bE ?_|refine bA ?_ _)); refine blk_far ?_ NB166_224.out _; (with_reducible repeat (first|refine bD ?_ _|refine bE ?_|refine bA ?_ _)); refine blk_far ?_ NB166_224.out _; (with_reducible repeat (first|refine bD ?_ _|refine bE ?_|refine bA ?_ _)); refine blk_far ?_ NB166_224.out _; (with_reducible repeat (first|refine bD ?_ _|refine bE ?_|refine bA ?_ _)); refine blk_far ?_ NB166_224.out _; (with_reducible repeat (first|refine bD ?_ _|refine bE ?_|refine bA ?_ _)); exact BK166.out) hb); have n5_ := Aside0.mk (blk_below (g := gb207) (o := .cells #[.int .i64 t201,.int .i64 t202,.int .i64 t203,.int .i64 t204,.int .i64 t205] 23 (0,0)) (by (with_reducible repeat (first|refine bD ?_ _|refine bE ?_|refine bA ?_ _)); refine blk_far ?_ NB207_224.out _; (with_reducible repeat (first|refine bD ?_ _|refine bE ?_|refine bA ?_ _)); refine blk_far ?_ NB207_224.out _; (with_reducible repeat (first|refine bD ?_ _|refine bE ?_|refine bA ?_ _)); refine blk_far ?_ NB207_224.out _; (with_reducible repeat (first|refine bD ?_ _|refine bE ?_|refine bA ?_ _)); refine blk_far ?_ NB207_224.out _; (with_reducible repeat (first|refine bD ?_ _|refine bE ?_|refine bA ?_ _)); refine blk_far ?_ NB207_224.out _; (with_reducible repeat (first|refine bD ?_ _|refine bE ?_|refine bA ?_ _)); exact BK207.out) hb); have n6_ := Aside0.mk (blk_below (g := gb224) (o := .cells #[.int .i64 t218,.int .i64 t219,.int .i64 t220,.int .i64 t221,.int .i64 t222] 23 (0,0)) (by (with_reducible repeat (first|refine bD ?_ _|refine bE ?_|refine bA ?_ _)); refine blk_put (cs := #[.int .i64 t218,.int .i64 t219,.int .i64 t220,.int .i64 t221,.int .i64 0]) ?_ 4 _ rfl; (with_reducible repeat (first|refine bD ?_ _|refine bE ?_|refine bA ?_ _)); refine blk_put (cs := #[.int .i64 t218,.int .i64 t219,.int .i64 t220,.int .i64 0,.int .i64 0]) ?_ 3 _ rfl; (with_reducible repeat (first|refine bD ?_ _|refine bE ?_|refine bA ?_ _)); refine blk_put (cs := #[.int .i64 t218,.int .i64 t219,.int .i64 0,.int .i64 0,.int .i64 0]) ?_ 2 _ rfl; (with_reducible repeat (first|refine bD ?_ _|refine bE ?_|refine bA ?_ _)); refine blk_put (cs := #[.int .i64 t218,.int .i64 0,.int .i64 0,.int .i64 0,.int .i64 0]) ?_ 1 _ rfl; (with_reducible repeat (first|refine bD ?_ _|refine bE ?_|refine bA ?_ _)); refine blk_put (cs := #[.int .i64 0,.int .i64 0,.int .i64 0,.int .i64 0,.int .i64 0]) ?_ 0 _ rfl; (with_reducible repeat (first|refine bD ?_ _|refine bE ?_|refine bA ?_ _)); exact BK224.out) hb); have n7_ := Aside0.mk (below_step (by repeat (first | (with_reducible first | exact HB.out | apply below_alloc | apply pw_below_drewN | apply below_drew1 | refine below_set ?_ GE113.out | refine below_set ?_ GE125.out | refine below_set ?_ GE142.out | refine below_set ?_ GE154.out | refine below_set ?_ GE166.out | refine below_set ?_ GE207.out | refine below_set ?_ GE224.out) | exact HB.out)) hb); clear BK113; clear BK125; clear BK142; clear BK154; clear BK166; clear BK207; clear BK224; clear HB; have BK113 := n0_; have BK125 := n1_; have BK142 := n2_; have BK154 := n3_; have BK166 := n4_; have BK207 := n5_; have BK224 := n6_; have HB := n7_; clear n0_ n1_ n2_ n3_ n4_ n5_ n6_ n7_; (try clear hb); (try clear hb2); (try clear hk); (try clear hi)) | ((with_reducible refine gate_callee (f := 14) rfl ?_); refine goesL_ (some 77) rfl rfl Tryz.func14 (by kernel_rfl) rfl #[.int .i64 0,.int .i64 (-1),.int .i64 0,.int .i64 0,.int .i64 0] rfl (by (try simp only [List.map_toArray,List.map_cons,List.map_nil]); first | done | rfl | (simp only [List.length_drop,List.length_take]; rfl)) ?_; (with_reducible refine (spoondriftlaw01_num.calls 0 (-1) 0 0 0 t230 t231 t232 t233 t234 _ A25.out).mono ?_); rintro e w118 ⟨rfl,hb⟩; refine ⟨_,rfl,?_⟩; have n0_ := Aside0.mk (blk_below (g := gb113) (o := .cells #[.int .i64 t107,.int .i64 t108,.int .i64 t109,.int .i64 t110,.int .i64 t111] 23 (0,0)) (by (with_reducible repeat (first|refine bD ?_ _|refine bE ?_|refine bA ?_ _)); exact BK113.out) hb); have n1_ := Aside0.mk (blk_below (g := gb125) (o := .cells #[.int .i64 t119,.int .i64 t120,.int .i64 t121,.int .i64 t122,.int .i64 t123] 23 (0,0)) (by (with_reducible repeat (first|refine bD ?_ _|refine bE ?_|refine bA ?_ _)); exact BK125.out) hb); have n2_ := Aside0.mk (blk_below (g := gb142) (o := .cells #[.int .i64 t136,.int .i64 t137,.int .i64 t138,.int .i64 t139,.int .i64 t140] 23 (0,0)) (by (with_reducible repeat (first|refine bD ?_ _|refine bE ?_|refine bA ?_ _)); exact BK142.out) hb); have n3_ := Aside0.mk (blk_below (g := gb154) (o := .cells #[.int .i64 t148,.int .i64 t149,.int .i64 t150,.int .i64 t151,.int .i64 t152] 23 (0,0)) (by (with_reducible repeat (first|refine bD ?_ _|refine bE ?_|refine bA ?_ _)); exact BK154.out) hb); have n4_ := Aside0.mk (blk_below (g := gb166) (o := .cells #[.int .i64 t160,.int .i64 t161,.int .i64 t162,.int .i64 t163,.int .i64 t164] 23 (0,0)) (by (with_reducible repeat (first|refine bD ?_ _|refine bE ?_|refine bA ?_ _)); exact BK166.out) hb); have n5_ := Aside0.mk (blk_below (g := gb207) (o := .cells #[.int .i64 t201,.int .i64 t202,.int .i64 t203,.int .i64 t204,.int .i64 t205] 23 (0,0)) (by (with_reducible repeat (first|refine bD ?_ _|refine bE ?_|refine bA ?_ _)); exact BK207.out) hb); have n6_ := Aside0.mk (blk_below (g := gb224) (o := .cells #[.int .i64 t218,.int .i64 t219,.int .i64 t220,.int .i64 t221,.int .i64 t222] 23 (0,0)) (by (with_reducible repeat (first|refine bD ?_ _|refine bE ?_|refine bA ?_ _)); exact BK224.out) hb); have n7_ := Aside0.mk (below_step (by repeat (first | (with_reducible first | exact HB.out | apply below_alloc | apply pw_below_drewN | apply below_drew1 | refine below_set ?_ GE113.out | refine below_set ?_ GE125.out | refine below_set ?_ GE142.out | refine below_set ?_ GE154.out | refine below_set ?_ GE166.out | refine below_set ?_ GE207.out | refine below_set ?_ GE224.out) | exact HB.out)) hb); clear BK113; clear BK125; clear BK142; clear BK154; clear BK166; clear BK207; clear BK224; clear HB; have BK113 := n0_; have BK125 := n1_; have BK142 := n2_; have BK154 := n3_; have BK166 := n4_; have BK207 := n5_; have BK224 := n6_; have HB := n7_; clear n0_ n1_ n2_ n3_ n4_ n5_ n6_ n7_; (try clear hb); (try clear hb2); (try clear hk); (try clear hi)) | ((with_reducible refine gate_callee (f := 24) rfl ?_); refine goesL_ (some 78) rfl rfl Tryz.func24 (by kernel_rfl) rfl #[.agg #[.int .i64 t225,.int .i64 t226,.int .i64 t227,.int .i64 t228,.int .i64 t229],.agg #[.int .i64 t230,.int .i64 t231,.int .i64 t232,.int .i64 t233,.int .i64 t234]] rfl (by (try simp only [List.map_toArray,List.map_cons,List.map_nil]); first | done | rfl | (simp only [List.length_drop,List.length_take]; rfl)) ?_; (with_reducible refine (ring_Phase.calls t225 t226 t227 t228 t229 t230 t231 t232 t233 t234 t235 t236 _ A26.out).mono ?_); rintro e w119 ⟨rfl,hb⟩; refine ⟨_,rfl,?_⟩; have n0_ := Aside0.mk (blk_below (g := gb113) (o := .cells #[.int .i64 t107,.int .i64 t108,.int .i64 t109,.int .i64 t110,.int .i64 t111] 23 (0,0)) (by (with_reducible repeat (first|refine bD ?_ _|refine bE ?_|refine bA ?_ _)); exact BK113.out) hb); have n1_ := Aside0.mk (blk_below (g := gb125) (o := .cells #[.int .i64 t119,.int .i64 t120,.int .i64 t121,.int .i64 t122,.int .i64 t123] 23 (0,0)) (by (with_reducible repeat (first|refine bD ?_ _|refine bE ?_|refine bA ?_ _)); exact BK125.out) hb); have n2_ := Aside0.mk (blk_below (g := gb142) (o := .cells #[.int .i64 t136,.int .i64 t137,.int .i64 t138,.int .i64 t139,.int .i64 t140] 23 (0,0)) (by (with_reducible repeat (first|refine bD ?_ _|refine bE ?_|refine bA ?_ _)); exact BK142.out) hb); have n3_ := Aside0.mk (blk_below (g := gb154) (o := .cells #[.int .i64 t148,.int .i64 t149,.int .i64 t150,.int .i64 t151,.int .i64 t152] 23 (0,0)) (by (with_reducible repeat (first|refine bD ?_ _|refine bE ?_|refine bA ?_ _)); exact BK154.out) hb); have n4_ := Aside0.mk (blk_below (g := gb166) (o := .cells #[.int .i64 t160,.int .i64 t161,.int .i64 t162,.int .i64 t163,.int .i64 t164] 23 (0,0)) (by (with_reducible repeat (first|refine bD ?_ _|refine bE ?_|refine bA ?_ _)); exact BK166.out) hb); have n5_ := Aside0.mk (blk_below (g := gb207) (o := .cells #[.int .i64 t201,.int .i64 t202,.int .i64 t203,.int .i64 t204,.int .i64 t205] 23 (0,0)) (by (with_reducible repeat (first|refine bD ?_ _|refine bE ?_|refine bA ?_ _)); exact BK207.out) hb); have n6_ := Aside0.mk (blk_below (g := gb224) (o := .cells #[.int .i64 t218,.int .i64 t219,.int .i64 t220,.int .i64 t221,.int .i64 t222] 23 (0,0)) (by (with_reducible repeat (first|refine bD ?_ _|refine bE ?_|refine bA ?_ _)); exact BK224.out) hb); have n7_ := Aside0.mk (below_step (by repeat (first | (with_reducible first | exact HB.out | apply below_alloc | apply pw_below_drewN | apply below_drew1 | refine below_set ?_ GE113.out | refine below_set ?_ GE125.out | refine below_set ?_ GE142.out | refine below_set ?_ GE154.out | refine below_set ?_ GE166.out | refine below_set ?_ GE207.out | refine below_set ?_ GE224.out) | exact HB.out)) hb); clear BK113; clear BK125; clear BK142; clear BK154; clear BK166; clear BK207; clear BK224; clear HB; have BK113 := n0_; have BK125 := n1_; have BK142 := n2_; have BK154 := n3_; have BK166 := n4_; have BK207 := n5_; have BK224 := n6_; have HB := n7_; clear n0_ n1_ n2_ n3_ n4_ n5_ n6_ n7_; (try clear hb); (try clear hb2); (try clear hk); (try clear hi)) | ((with_reducible refine gate_callee (f := 14) rfl ?_); refine goesL_ (some 82) rfl rfl Tryz.func14 (by kernel_rfl) rfl #[.int .i64 0,.int .i64 1,.int .i64 (-2),.int .i64 (-1),.int .i64 0] rfl (by (try simp only [List.map_toArray,List.map_cons,List.map_nil]); first | done | rfl | (simp only [List.length_drop,List.length_take]; rfl)) ?_; (with_reducible refine (spoondriftlaw01_num.calls 0 1 (-2) (-1) 0 t237 t238 t239 t240 t241 _ A27.out).mono ?_); rintro e w120 ⟨rfl,hb⟩; refine ⟨_,rfl,?_⟩; have n0_ := Aside0.mk (blk_below (g := gb113) (o := .cells #[.int .i64 t107,.int .i64 t108,.int .i64 t109,.int .i64 t110,.int .i64 t111] 23 (0,0)) (by (with_reducible repeat (first|refine bD ?_ _|refine bE ?_|refine bA ?_ _)); exact BK113.out) hb); have n1_ := Aside0.mk (blk_below (g := gb125) (o := .cells #[.int .i64 t119,.int .i64 t120,.int .i64 t121,.int .i64 t122,.int .i64 t123] 23 (0,0)) (by (with_reducible repeat (first|refine bD ?_ _|refine bE ?_|refine bA ?_ _)); exact BK125.out) hb); have n2_ := Aside0.mk (blk_below (g := gb142) (o := .cells #[.int .i64 t136,.int .i64 t137,.int .i64 t138,.int .i64 t139,.int .i64 t140] 23 (0,0)) (by (with_reducible repeat (first|refine bD ?_ _|refine bE ?_|refine bA ?_ _)); exact BK142.out) hb); have n3_ := Aside0.mk (blk_below (g := gb154) (o := .cells #[.int .i64 t148,.int .i64 t149,.int .i64 t150,.int .i64 t151,.int .i64 t152] 23 (0,0)) (by (with_reducible repeat (first|refine bD ?_ _|refine bE ?_|refine bA ?_ _)); exact BK154.out) hb); have n4_ := Aside0.mk (blk_below (g := gb166) (o := .cells #[.int .i64 t160,.int .i64 t161,.int .i64 t162,.int .i64 t163,.int .i64 t164] 23 (0,0)) (by (with_reducible repeat (first|refine bD ?_ _|refine bE ?_|refine bA ?_ _)); exact BK166.out) hb); have n5_ := Aside0.mk (blk_below (g := gb207) (o := .cells #[.int .i64 t201,.int .i64 t202,.int .i64 t203,.int .i64 t204,.int .i64 t205] 23 (0,0)) (by (with_reducible repeat (first|refine bD ?_ _|refine bE ?_|refine bA ?_ _)); exact BK207.out) hb); have n6_ := Aside0.mk (blk_below (g := gb224) (o := .cells #[.int .i64 t218,.int .i64 t219,.int .i64 t220,.int .i64 t221,.int .i64 t222] 23 (0,0)) (by (with_reducible repeat (first|refine bD ?_ _|refine bE ?_|refine bA ?_ _)); exact BK224.out) hb); have n7_ := Aside0.mk (below_step (by repeat (first | (with_reducible first | exact HB.out | apply below_alloc | apply pw_below_drewN | apply below_drew1 | refine below_set ?_ GE113.out | refine below_set ?_ GE125.out | refine below_set ?_ GE142.out | refine below_set ?_ GE154.out | refine below_set ?_ GE166.out | refine below_set ?_ GE207.out | refine below_set ?_ GE224.out) | exact HB.out)) hb); clear BK113; clear BK125; clear BK142; clear BK154; clear BK166; clear BK207; clear BK224; clear HB; have BK113 := n0_; have BK125 := n1_; have BK142 := n2_; have BK154 := n3_; have BK166 := n4_; have BK207 := n5_; have BK224 := n6_; have HB := n7_; clear n0_ n1_ n2_ n3_ n4_ n5_ n6_ n7_; (try clear hb); (try clear hb2); (try clear hk); (try clear hi)) | ((with_reducible refine gate_callee (f := 16) rfl ?_); refine goesL_ (some 83) rfl rfl Tryz.func16 (by kernel_rfl) rfl #[.agg #[.int .i64 t237,.int .i64 t238,.int .i64 t239,.int .i64 t240,.int .i64 t241]] rfl (by (try simp only [List.map_toArray,List.map_cons,List.map_nil]); first | done | rfl | (simp only [List.length_drop,List.length_take]; rfl)) ?_; (with_reducible refine (ring_Print.calls t237 t238 t239 t240 t241 t242 t243 _ A28.out (HTABS.out.below (by repeat (first | (with_reducible first | exact HB.out | apply below_alloc | apply pw_below_drewN | apply below_drew1 | refine below_set ?_ GE113.out | refine below_set ?_ GE125.out | refine below_set ?_ GE142.out | refine below_set ?_ GE154.out | refine below_set ?_ GE166.out | refine below_set ?_ GE207.out | refine below_set ?_ GE224.out) | exact HB.out)))).mono ?_); rintro e w121 ⟨rfl,hb⟩; refine ⟨_,rfl,?_⟩; have n0_ := Aside0.mk (blk_below (g := gb113) (o := .cells #[.int .i64 t107,.int .i64 t108,.int .i64 t109,.int .i64 t110,.int .i64 t111] 23 (0,0)) (by (with_reducible repeat (first|refine bD ?_ _|refine bE ?_|refine bA ?_ _)); exact BK113.out) hb); have n1_ := Aside0.mk (blk_below (g := gb125) (o := .cells #[.int .i64 t119,.int .i64 t120,.int .i64 t121,.int .i64 t122,.int .i64 t123] 23 (0,0)) (by (with_reducible repeat (first|refine bD ?_ _|refine bE ?_|refine bA ?_ _)); exact BK125.out) hb); have n2_ := Aside0.mk (blk_below (g := gb142) (o := .cells #[.int .i64 t136,.int .i64 t137,.int .i64 t138,.int .i64 t139,.int .i64 t140] 23 (0,0)) (by (with_reducible repeat (first|refine bD ?_ _|refine bE ?_|refine bA ?_ _)); exact BK142.out) hb); have n3_ := Aside0.mk (blk_below (g := gb154) (o := .cells #[.int .i64 t148,.int .i64 t149,.int .i64 t150,.int .i64 t151,.int .i64 t152] 23 (0,0)) (by (with_reducible repeat (first|refine bD ?_ _|refine bE ?_|refine bA ?_ _)); exact BK154.out) hb); have n4_ := Aside0.mk (blk_below (g := gb166) (o := .cells #[.int .i64 t160,.int .i64 t161,.int .i64 t162,.int .i64 t163,.int .i64 t164] 23 (0,0)) (by (with_reducible repeat (first|refine bD ?_ _|refine bE ?_|refine bA ?_ _)); exact BK166.out) hb); have n5_ := Aside0.mk (blk_below (g := gb207) (o := .cells #[.int .i64 t201,.int .i64 t202,.int .i64 t203,.int .i64 t204,.int .i64 t205] 23 (0,0)) (by (with_reducible repeat (first|refine bD ?_ _|refine bE ?_|refine bA ?_ _)); exact BK207.out) hb); have n6_ := Aside0.mk (blk_below (g := gb224) (o := .cells #[.int .i64 t218,.int .i64 t219,.int .i64 t220,.int .i64 t221,.int .i64 t222] 23 (0,0)) (by (with_reducible repeat (first|refine bD ?_ _|refine bE ?_|refine bA ?_ _)); exact BK224.out) hb); have n7_ := Aside0.mk (below_step (by repeat (first | (with_reducible first | exact HB.out | apply below_alloc | apply pw_below_drewN | apply below_drew1 | refine below_set ?_ GE113.out | refine below_set ?_ GE125.out | refine below_set ?_ GE142.out | refine below_set ?_ GE154.out | refine below_set ?_ GE166.out | refine below_set ?_ GE207.out | refine below_set ?_ GE224.out) | exact HB.out)) hb); clear BK113; clear BK125; clear BK142; clear BK154; clear BK166; clear BK207; clear BK224; clear HB; have BK113 := n0_; have BK125 := n1_; have BK142 := n2_; have BK154 := n3_; have BK166 := n4_; have BK207 := n5_; have BK224 := n6_; have HB := n7_; clear n0_ n1_ n2_ n3_ n4_ n5_ n6_ n7_; (try clear hb); (try clear hb2); (try clear hk); (try clear hi)) | ((with_reducible refine gate_callee (f := 25) rfl ?_); refine goesL_ (some 87) rfl rfl Tryz.func25 (by kernel_rfl) rfl #[.string (⟨#[40,49,41,47,114,49]⟩ : ByteArray)] rfl (by (try simp only [List.map_toArray,List.map_cons,List.map_nil]); first | done | rfl | (simp only [List.length_drop,List.length_take]; rfl)) ?_; (with_reducible refine (ring_Parse.calls (⟨#[40,49,41,47,114,49]⟩ : ByteArray) t244 t245 t246 t247 t248 t249 _ A29.out (HTABS.out.below (by repeat (first | (with_reducible first | exact HB.out | apply below_alloc | apply pw_below_drewN | apply below_drew1 | refine below_set ?_ GE113.out | refine below_set ?_ GE125.out | refine below_set ?_ GE142.out | refine below_set ?_ GE154.out | refine below_set ?_ GE166.out | refine below_set ?_ GE207.out | refine below_set ?_ GE224.out) | exact HB.out)))).mono ?_); rintro e w122 ⟨rfl,hb⟩; refine ⟨_,rfl,?_⟩; have n0_ := Aside0.mk (blk_below (g := gb113) (o := .cells #[.int .i64 t107,.int .i64 t108,.int .i64 t109,.int .i64 t110,.int .i64 t111] 23 (0,0)) (by (with_reducible repeat (first|refine bD ?_ _|refine bE ?_|refine bA ?_ _)); exact BK113.out) hb); have n1_ := Aside0.mk (blk_below (g := gb125) (o := .cells #[.int .i64 t119,.int .i64 t120,.int .i64 t121,.int .i64 t122,.int .i64 t123] 23 (0,0)) (by (with_reducible repeat (first|refine bD ?_ _|refine bE ?_|refine bA ?_ _)); exact BK125.out) hb); have n2_ := Aside0.mk (blk_below (g := gb142) (o := .cells #[.int .i64 t136,.int .i64 t137,.int .i64 t138,.int .i64 t139,.int .i64 t140] 23 (0,0)) (by (with_reducible repeat (first|refine bD ?_ _|refine bE ?_|refine bA ?_ _)); exact BK142.out) hb); have n3_ := Aside0.mk (blk_below (g := gb154) (o := .cells #[.int .i64 t148,.int .i64 t149,.int .i64 t150,.int .i64 t151,.int .i64 t152] 23 (0,0)) (by (with_reducible repeat (first|refine bD ?_ _|refine bE ?_|refine bA ?_ _)); exact BK154.out) hb); have n4_ := Aside0.mk (blk_below (g := gb166) (o := .cells #[.int .i64 t160,.int .i64 t161,.int .i64 t162,.int .i64 t163,.int .i64 t164] 23 (0,0)) (by (with_reducible repeat (first|refine bD ?_ _|refine bE ?_|refine bA ?_ _)); exact BK166.out) hb); have n5_ := Aside0.mk (blk_below (g := gb207) (o := .cells #[.int .i64 t201,.int .i64 t202,.int .i64 t203,.int .i64 t204,.int .i64 t205] 23 (0,0)) (by (with_reducible repeat (first|refine bD ?_ _|refine bE ?_|refine bA ?_ _)); exact BK207.out) hb); have n6_ := Aside0.mk (blk_below (g := gb224) (o := .cells #[.int .i64 t218,.int .i64 t219,.int .i64 t220,.int .i64 t221,.int .i64 t222] 23 (0,0)) (by (with_reducible repeat (first|refine bD ?_ _|refine bE ?_|refine bA ?_ _)); exact BK224.out) hb); have n7_ := Aside0.mk (below_step (by repeat (first | (with_reducible first | exact HB.out | apply below_alloc | apply pw_below_drewN | apply below_drew1 | refine below_set ?_ GE113.out | refine below_set ?_ GE125.out | refine below_set ?_ GE142.out | refine below_set ?_ GE154.out | refine below_set ?_ GE166.out | refine below_set ?_ GE207.out | refine below_set ?_ GE224.out) | exact HB.out)) hb); clear BK113; clear BK125; clear BK142; clear BK154; clear BK166; clear BK207; clear BK224; clear HB; have BK113 := n0_; have BK125 := n1_; have BK142 := n2_; have BK154 := n3_; have BK166 := n4_; have BK207 := n5_; have BK224 := n6_; have HB := n7_; clear n0_ n1_ n2_ n3_ n4_ n5_ n6_ n7_; (try clear hb); (try clear hb2); (try clear hk); (try clear hi)) | ((with_reducible refine gate_dst (N := 23) rfl ?_); refine box_event ?hg (N := 23) ?hd (cs := #[.int .i64 0,.int .i64 0,.int .i64 0,.int .i64 0,.int .i64 0]) (t := 23) ?hr ?_; (case hd => rfl); (case hg => rfl); (case hr => first | (go_simp; done) | (go_simp; rfl)); intro gb250 hg w123 hbox hb; have n0_ := Aside0.mk (blk_below (g := gb113) (o := .cells #[.int .i64 t107,.int .i64 t108,.int .i64 t109,.int .i64 t110,.int .i64 t111] 23 (0,0)) (by (with_reducible repeat (first|refine bD ?_ _|refine bE ?_|refine bA ?_ _)); exact BK113.out) hb); have n1_ := Aside0.mk (blk_below (g := gb125) (o := .cells #[.int .i64 t119,.int .i64 t120,.int .i64 t121,.int .i64 t122,.int .i64 t123] 23 (0,0)) (by (with_reducible repeat (first|refine bD ?_ _|refine bE ?_|refine bA ?_ _)); exact BK125.out) hb); have n2_ := Aside0.mk (blk_below (g := gb142) (o := .cells #[.int .i64 t136,.int .i64 t137,.int .i64 t138,.int .i64 t139,.int .i64 t140] 23 (0,0)) (by (with_reducible repeat (first|refine bD ?_ _|refine bE ?_|refine bA ?_ _)); exact BK142.out) hb); have n3_ := Aside0.mk (blk_below (g := gb154) (o := .cells #[.int .i64 t148,.int .i64 t149,.int .i64 t150,.int .i64 t151,.int .i64 t152] 23 (0,0)) (by (with_reducible repeat (first|refine bD ?_ _|refine bE ?_|refine bA ?_ _)); exact BK154.out) hb); have n4_ := Aside0.mk (blk_below (g := gb166) (o := .cells #[.int .i64 t160,.int .i64 t161,.int .i64 t162,.int .i64 t163,.int .i64 t164] 23 (0,0)) (by (with_reducible repeat (first|refine bD ?_ _|refine bE ?_|refine bA ?_ _)); exact BK166.out) hb); have n5_ := Aside0.mk (blk_below (g := gb207) (o := .cells #[.int .i64 t201,.int .i64 t202,.int .i64 t203,.int .i64 t204,.int .i64 t205] 23 (0,0)) (by (with_reducible repeat (first|refine bD ?_ _|refine bE ?_|refine bA ?_ _)); exact BK207.out) hb); have n6_ := Aside0.mk (blk_below (g := gb224) (o := .cells #[.int .i64 t218,.int .i64 t219,.int .i64 t220,.int .i64 t221,.int .i64 t222] 23 (0,0)) (by (with_reducible repeat (first|refine bD ?_ _|refine bE ?_|refine bA ?_ _)); exact BK224.out) hb); have n7_ := Aside0.mk (below_step (by repeat (first | (with_reducible first | exact HB.out | apply below_alloc | apply pw_below_drewN | apply below_drew1 | refine below_set ?_ GE113.out | refine below_set ?_ GE125.out | refine below_set ?_ GE142.out | refine below_set ?_ GE154.out | refine below_set ?_ GE166.out | refine below_set ?_ GE207.out | refine below_set ?_ GE224.out) | exact HB.out)) hb); have n8_ := Aside0.mk (hbox); have n9_ := Aside0.mk ((by rw [hg]; exact (below_size (by repeat (first | (with_reducible first | exact HB.out | apply below_alloc | apply pw_below_drewN | apply below_drew1 | refine below_set ?_ GE113.out | refine below_set ?_ GE125.out | refine below_set ?_ GE142.out | refine below_set ?_ GE154.out | refine below_set ?_ GE166.out | refine below_set ?_ GE207.out | refine below_set ?_ GE224.out) | exact HB.out))) : w.heap.size ≤ gb250)); have n10_ := Aside0.mk ((by rw [hg]; exact (below_size (by repeat (first | (with_reducible first | exact HB.out | apply below_alloc | apply pw_below_drewN | apply below_drew1 | refine below_set ?_ GE113.out | refine below_set ?_ GE125.out | refine below_set ?_ GE142.out | refine below_set ?_ GE154.out | refine below_set ?_ GE166.out | refine below_set ?_ GE207.out | refine below_set ?_ GE224.out) | exact HB.out))) : w.heap.size ≤ gb250)); have n11_ := Aside0.mk ((by rw [hg]; exact Nat.ne_of_lt (blk_lt (g := gb113) (o := .cells #[.int .i64 t107,.int .i64 t108,.int .i64 t109,.int .i64 t110,.int .i64 t111] 23 (0,0)) (by (with_reducible repeat (first|refine bD ?_ _|refine bE ?_|refine bA ?_ _)); exact BK113.out)) : gb113 ≠ gb250)); have n12_ := Aside0.mk ((by rw [hg]; exact Nat.ne_of_gt (blk_lt (g := gb113) (o := .cells #[.int .i64 t107,.int .i64 t108,.int .i64 t109,.int .i64 t110,.int .i64 t111] 23 (0,0)) (by (with_reducible repeat (first|refine bD ?_ _|refine bE ?_|refine bA ?_ _)); exact BK113.out)) : gb250 ≠ gb113)); have n13_ := Aside0.mk ((by rw [hg]; exact Nat.ne_of_lt (blk_lt (g := gb125) (o := .cells #[.int .i64 t119,.int .i64 t120,.int .i64 t121,.int .i64 t122,.int .i64 t123] 23 (0,0)) (by (with_reducible repeat (first|refine bD ?_ _|refine bE ?_|refine bA ?_ _)); exact BK125.out)) : gb125 ≠ gb250)); have n14_ := Aside0.mk ((by rw [hg]; exact Nat.ne_of_gt (blk_lt (g := gb125) (o := .cells #[.int .i64 t119,.int .i64 t120,.int .i64 t121,.int .i64 t122,.int .i64 t123] 23 (0,0)) (by (with_reducible repeat (first|refine bD ?_ _|refine bE ?_|refine bA ?_ _)); exact BK125.out)) : gb250 ≠ gb125)); have n15_ := Aside0.mk ((by rw [hg]; exact Nat.ne_of_lt (blk_lt (g := gb142) (o := .cells #[.int .i64 t136,.int .i64 t137,.int .i64 t138,.int .i64 t139,.int .i64 t140] 23 (0,0)) (by (with_reducible repeat (first|refine bD ?_ _|refine bE ?_|refine bA ?_ _)); exact BK142.out)) : gb142 ≠ gb250)); have n16_ := Aside0.mk ((by rw [hg]; exact Nat.ne_of_gt (blk_lt (g := gb142) (o := .cells #[.int .i64 t136,.int .i64 t137,.int .i64 t138,.int .i64 t139,.int .i64 t140] 23 (0,0)) (by (with_reducible repeat (first|refine bD ?_ _|refine bE ?_|refine bA ?_ _)); exact BK142.out)) : gb250 ≠ gb142)); have n17_ := Aside0.mk ((by rw [hg]; exact Nat.ne_of_lt (blk_lt (g := gb154) (o := .cells #[.int .i64 t148,.int .i64 t149,.int .i64 t150,.int .i64 t151,.int .i64 t152] 23 (0,0)) (by (with_reducible repeat (first|refine bD ?_ _|refine bE ?_|refine bA ?_ _)); exact BK154.out)) : gb154 ≠ gb250)); have n18_ := Aside0.mk ((by rw [hg]; exact Nat.ne_of_gt (blk_lt (g := gb154) (o := .cells #[.int .i64 t148,.int .i64 t149,.int .i64 t150,.int .i64 t151,.int .i64 t152] 23 (0,0)) (by (with_reducible repeat (first|refine bD ?_ _|refine bE ?_|refine bA ?_ _)); exact BK154.out)) : gb250 ≠ gb154)); have n19_ := Aside0.mk ((by rw [hg]; exact Nat.ne_of_lt (blk_lt (g := gb166) (o := .cells #[.int .i64 t160,.int .i64 t161,.int .i64 t162,.int .i64 t163,.int .i64 t164] 23 (0,0)) (by (with_reducible repeat (first|refine bD ?_ _|refine bE ?_|refine bA ?_ _)); exact BK166.out)) : gb166 ≠ gb250)); have n20_ := Aside0.mk ((by rw [hg]; exact Nat.ne_of_gt (blk_lt (g := gb166) (o := .cells #[.int .i64 t160,.int .i64 t161,.int .i64 t162,.int .i64 t163,.int .i64 t164] 23 (0,0)) (by (with_reducible repeat (first|refine bD ?_ _|refine bE ?_|refine bA ?_ _)); exact BK166.out)) : gb250 ≠ gb166)); have n21_ := Aside0.mk ((by rw [hg]; exact Nat.ne_of_lt (blk_lt (g := gb207) (o := .cells #[.int .i64 t201,.int .i64 t202,.int .i64 t203,.int .i64 t204,.int .i64 t205] 23 (0,0)) (by (with_reducible repeat (first|refine bD ?_ _|refine bE ?_|refine bA ?_ _)); exact BK207.out)) : gb207 ≠ gb250)); have n22_ := Aside0.mk ((by rw [hg]; exact Nat.ne_of_gt (blk_lt (g := gb207) (o := .cells #[.int .i64 t201,.int .i64 t202,.int .i64 t203,.int .i64 t204,.int .i64 t205] 23 (0,0)) (by (with_reducible repeat (first|refine bD ?_ _|refine bE ?_|refine bA ?_ _)); exact BK207.out)) : gb250 ≠ gb207)); have n23_ := Aside0.mk ((by rw [hg]; exact Nat.ne_of_lt (blk_lt (g := gb224) (o := .cells #[.int .i64 t218,.int .i64 t219,.int .i64 t220,.int .i64 t221,.int .i64 t222] 23 (0,0)) (by (with_reducible repeat (first|refine bD ?_ _|refine bE ?_|refine bA ?_ _)); exact BK224.out)) : gb224 ≠ gb250)); have n24_ := Aside0.mk ((by rw [hg]; exact Nat.ne_of_gt (blk_lt (g := gb224) (o := .cells #[.int .i64 t218,.int .i64 t219,.int .i64 t220,.int .i64 t221,.int .i64 t222] 23 (0,0)) (by (with_reducible repeat (first|refine bD ?_ _|refine bE ?_|refine bA ?_ _)); exact BK224.out)) : gb250 ≠ gb224)); clear BK113; clear BK125; clear BK142; clear BK154; clear BK166; clear BK207; clear BK224; clear HB; have BK113 := n0_; have BK125 := n1_; have BK142 := n2_; have BK154 := n3_; have BK166 := n4_; have BK207 := n5_; have BK224 := n6_; have HB := n7_; have BK250 := n8_; have GW250 := n9_; have GE250 := n10_; have NB113_250 := n11_; have NB250_113 := n12_; have NB125_250 := n13_; have NB250_125 := n14_; have NB142_250 := n15_; have NB250_142 := n16_; have NB154_250 := n17_; have NB250_154 := n18_; have NB166_250 := n19_; have NB250_166 := n20_; have NB207_250 := n21_; have NB250_207 := n22_; have NB224_250 := n23_; have NB250_224 := n24_; clear n0_ n1_ n2_ n3_ n4_ n5_ n6_ n7_ n8_ n9_ n10_ n11_ n12_ n13_ n14_ n15_ n16_ n17_ n18_ n19_ n20_ n21_ n22_ n23_ n24_; clear hb hbox hg; have hnb124 := NB250_113.out; have hnc124 := NB113_250.out; have hnb125 := NB250_125.out; have hnc125 := NB125_250.out; have hnb126 := NB250_142.out; have hnc126 := NB142_250.out; have hnb127 := NB250_154.out; have hnc127 := NB154_250.out; have hnb128 := NB250_166.out; have hnc128 := NB166_250.out; have hnb129 := NB250_207.out; have hnc129 := NB207_250.out; have hnb130 := NB250_224.out; have hnc130 := NB224_250.out; have hcz131_0 : w123.cell? ⟨gb250,0,none⟩ = some (.int .i64 0) := (blk_cell BK250.out 0).trans rfl; have hcz131_1 : w123.cell? ⟨gb250,1,none⟩ = some (.int .i64 0) := (blk_cell BK250.out 1).trans rfl; have hcz131_2 : w123.cell? ⟨gb250,2,none⟩ = some (.int .i64 0) := (blk_cell BK250.out 2).trans rfl; have hcz131_3 : w123.cell? ⟨gb250,3,none⟩ = some (.int .i64 0) := (blk_cell BK250.out 3).trans rfl; have hcz131_4 : w123.cell? ⟨gb250,4,none⟩ = some (.int .i64 0) := (blk_cell BK250.out 4).trans rfl; have hfz131_0 := blk_frozen BK250.out 0; have hfz131_1 := blk_frozen BK250.out 1; have hfz131_2 := blk_frozen BK250.out 2; have hfz131_3 := blk_frozen BK250.out 3; have hfz131_4 := blk_frozen BK250.out 4))
                       have n0_ : Aside0 ((((((w123.setCell ⟨gb250,0,none⟩ (.int .i64 t244)).setCell ⟨gb250,1,none⟩ (.int .i64 t245)).setCell ⟨gb250,2,none⟩ (.int .i64 t246)).setCell ⟨gb250,3,none⟩ (.int .i64 t247)).setCell ⟨gb250,4,none⟩ (.int .i64 t248)).heap[gb113]? = some (.cells #[.int .i64 t107,.int .i64 t108,.int .i64 t109,.int .i64 t110,.int .i64 t111] 23 (0,0))) := ⟨by (with_reducible repeat (first|refine bD ?_ _|refine bE ?_|refine bA ?_ _)); refine blk_far ?_ NB113_250.out _; (with_reducible repeat (first|refine bD ?_ _|refine bE ?_|refine bA ?_ _)); refine blk_far ?_ NB113_250.out _; (with_reducible repeat (first|refine bD ?_ _|refine bE ?_|refine bA ?_ _)); refine blk_far ?_ NB113_250.out _; (with_reducible repeat (first|refine bD ?_ _|refine bE ?_|refine bA ?_ _)); refine blk_far ?_ NB113_250.out _; (with_reducible repeat (first|refine bD ?_ _|refine bE ?_|refine bA ?_ _)); refine blk_far ?_ NB113_250.out _; (with_reducible repeat (first|refine bD ?_ _|refine bE ?_|refine bA ?_ _)); exact BK113.out⟩
                       have n1_ : Aside0 ((((((w123.setCell ⟨gb250,0,none⟩ (.int .i64 t244)).setCell ⟨gb250,1,none⟩ (.int .i64 t245)).setCell ⟨gb250,2,none⟩ (.int .i64 t246)).setCell ⟨gb250,3,none⟩ (.int .i64 t247)).setCell ⟨gb250,4,none⟩ (.int .i64 t248)).heap[gb125]? = some (.cells #[.int .i64 t119,.int .i64 t120,.int .i64 t121,.int .i64 t122,.int .i64 t123] 23 (0,0))) := ⟨by (with_reducible repeat (first|refine bD ?_ _|refine bE ?_|refine bA ?_ _)); refine blk_far ?_ NB125_250.out _; (with_reducible repeat (first|refine bD ?_ _|refine bE ?_|refine bA ?_ _)); refine blk_far ?_ NB125_250.out _; (with_reducible repeat (first|refine bD ?_ _|refine bE ?_|refine bA ?_ _)); refine blk_far ?_ NB125_250.out _; (with_reducible repeat (first|refine bD ?_ _|refine bE ?_|refine bA ?_ _)); refine blk_far ?_ NB125_250.out _; (with_reducible repeat (first|refine bD ?_ _|refine bE ?_|refine bA ?_ _)); refine blk_far ?_ NB125_250.out _; (with_reducible repeat (first|refine bD ?_ _|refine bE ?_|refine bA ?_ _)); exact BK125.out⟩
                       have n2_ : Aside0 ((((((w123.setCell ⟨gb250,0,none⟩ (.int .i64 t244)).setCell ⟨gb250,1,none⟩ (.int .i64 t245)).setCell ⟨gb250,2,none⟩ (.int .i64 t246)).setCell ⟨gb250,3,none⟩ (.int .i64 t247)).setCell ⟨gb250,4,none⟩ (.int .i64 t248)).heap[gb142]? = some (.cells #[.int .i64 t136,.int .i64 t137,.int .i64 t138,.int .i64 t139,.int .i64 t140] 23 (0,0))) := ⟨by (with_reducible repeat (first|refine bD ?_ _|refine bE ?_|refine bA ?_ _)); refine blk_far ?_ NB142_250.out _; (with_reducible repeat (first|refine bD ?_ _|refine bE ?_|refine bA ?_ _)); refine blk_far ?_ NB142_250.out _; (with_reducible repeat (first|refine bD ?_ _|refine bE ?_|refine bA ?_ _)); refine blk_far ?_ NB142_250.out _; (with_reducible repeat (first|refine bD ?_ _|refine bE ?_|refine bA ?_ _)); refine blk_far ?_ NB142_250.out _; (with_reducible repeat (first|refine bD ?_ _|refine bE ?_|refine bA ?_ _)); refine blk_far ?_ NB142_250.out _; (with_reducible repeat (first|refine bD ?_ _|refine bE ?_|refine bA ?_ _)); exact BK142.out⟩
                       have n3_ : Aside0 ((((((w123.setCell ⟨gb250,0,none⟩ (.int .i64 t244)).setCell ⟨gb250,1,none⟩ (.int .i64 t245)).setCell ⟨gb250,2,none⟩ (.int .i64 t246)).setCell ⟨gb250,3,none⟩ (.int .i64 t247)).setCell ⟨gb250,4,none⟩ (.int .i64 t248)).heap[gb154]? = some (.cells #[.int .i64 t148,.int .i64 t149,.int .i64 t150,.int .i64 t151,.int .i64 t152] 23 (0,0))) := ⟨by (with_reducible repeat (first|refine bD ?_ _|refine bE ?_|refine bA ?_ _)); refine blk_far ?_ NB154_250.out _; (with_reducible repeat (first|refine bD ?_ _|refine bE ?_|refine bA ?_ _)); refine blk_far ?_ NB154_250.out _; (with_reducible repeat (first|refine bD ?_ _|refine bE ?_|refine bA ?_ _)); refine blk_far ?_ NB154_250.out _; (with_reducible repeat (first|refine bD ?_ _|refine bE ?_|refine bA ?_ _)); refine blk_far ?_ NB154_250.out _; (with_reducible repeat (first|refine bD ?_ _|refine bE ?_|refine bA ?_ _)); refine blk_far ?_ NB154_250.out _; (with_reducible repeat (first|refine bD ?_ _|refine bE ?_|refine bA ?_ _)); exact BK154.out⟩
                       have n4_ : Aside0 ((((((w123.setCell ⟨gb250,0,none⟩ (.int .i64 t244)).setCell ⟨gb250,1,none⟩ (.int .i64 t245)).setCell ⟨gb250,2,none⟩ (.int .i64 t246)).setCell ⟨gb250,3,none⟩ (.int .i64 t247)).setCell ⟨gb250,4,none⟩ (.int .i64 t248)).heap[gb166]? = some (.cells #[.int .i64 t160,.int .i64 t161,.int .i64 t162,.int .i64 t163,.int .i64 t164] 23 (0,0))) := ⟨by (with_reducible repeat (first|refine bD ?_ _|refine bE ?_|refine bA ?_ _)); refine blk_far ?_ NB166_250.out _; (with_reducible repeat (first|refine bD ?_ _|refine bE ?_|refine bA ?_ _)); refine blk_far ?_ NB166_250.out _; (with_reducible repeat (first|refine bD ?_ _|refine bE ?_|refine bA ?_ _)); refine blk_far ?_ NB166_250.out _; (with_reducible repeat (first|refine bD ?_ _|refine bE ?_|refine bA ?_ _)); refine blk_far ?_ NB166_250.out _; (with_reducible repeat (first|refine bD ?_ _|refine bE ?_|refine bA ?_ _)); refine blk_far ?_ NB166_250.out _; (with_reducible repeat (first|refine bD ?_ _|refine bE ?_|refine bA ?_ _)); exact BK166.out⟩
                       have n5_ : Aside0 ((((((w123.setCell ⟨gb250,0,none⟩ (.int .i64 t244)).setCell ⟨gb250,1,none⟩ (.int .i64 t245)).setCell ⟨gb250,2,none⟩ (.int .i64 t246)).setCell ⟨gb250,3,none⟩ (.int .i64 t247)).setCell ⟨gb250,4,none⟩ (.int .i64 t248)).heap[gb207]? = some (.cells #[.int .i64 t201,.int .i64 t202,.int .i64 t203,.int .i64 t204,.int .i64 t205] 23 (0,0))) := ⟨by (with_reducible repeat (first|refine bD ?_ _|refine bE ?_|refine bA ?_ _)); refine blk_far ?_ NB207_250.out _; (with_reducible repeat (first|refine bD ?_ _|refine bE ?_|refine bA ?_ _)); refine blk_far ?_ NB207_250.out _; (with_reducible repeat (first|refine bD ?_ _|refine bE ?_|refine bA ?_ _)); refine blk_far ?_ NB207_250.out _; (with_reducible repeat (first|refine bD ?_ _|refine bE ?_|refine bA ?_ _)); refine blk_far ?_ NB207_250.out _; (with_reducible repeat (first|refine bD ?_ _|refine bE ?_|refine bA ?_ _)); refine blk_far ?_ NB207_250.out _; (with_reducible repeat (first|refine bD ?_ _|refine bE ?_|refine bA ?_ _)); exact BK207.out⟩
                       have n6_ : Aside0 ((((((w123.setCell ⟨gb250,0,none⟩ (.int .i64 t244)).setCell ⟨gb250,1,none⟩ (.int .i64 t245)).setCell ⟨gb250,2,none⟩ (.int .i64 t246)).setCell ⟨gb250,3,none⟩ (.int .i64 t247)).setCell ⟨gb250,4,none⟩ (.int .i64 t248)).heap[gb224]? = some (.cells #[.int .i64 t218,.int .i64 t219,.int .i64 t220,.int .i64 t221,.int .i64 t222] 23 (0,0))) := ⟨by (with_reducible repeat (first|refine bD ?_ _|refine bE ?_|refine bA ?_ _)); refine blk_far ?_ NB224_250.out _; (with_reducible repeat (first|refine bD ?_ _|refine bE ?_|refine bA ?_ _)); refine blk_far ?_ NB224_250.out _; (with_reducible repeat (first|refine bD ?_ _|refine bE ?_|refine bA ?_ _)); refine blk_far ?_ NB224_250.out _; (with_reducible repeat (first|refine bD ?_ _|refine bE ?_|refine bA ?_ _)); refine blk_far ?_ NB224_250.out _; (with_reducible repeat (first|refine bD ?_ _|refine bE ?_|refine bA ?_ _)); refine blk_far ?_ NB224_250.out _; (with_reducible repeat (first|refine bD ?_ _|refine bE ?_|refine bA ?_ _)); exact BK224.out⟩
                       have n7_ : Aside0 ((((((w123.setCell ⟨gb250,0,none⟩ (.int .i64 t244)).setCell ⟨gb250,1,none⟩ (.int .i64 t245)).setCell ⟨gb250,2,none⟩ (.int .i64 t246)).setCell ⟨gb250,3,none⟩ (.int .i64 t247)).setCell ⟨gb250,4,none⟩ (.int .i64 t248)).heap[gb250]? = some (.cells #[.int .i64 t244,.int .i64 t245,.int .i64 t246,.int .i64 t247,.int .i64 t248] 23 (0,0))) := ⟨by (with_reducible repeat (first|refine bD ?_ _|refine bE ?_|refine bA ?_ _)); refine blk_put (cs := #[.int .i64 t244,.int .i64 t245,.int .i64 t246,.int .i64 t247,.int .i64 0]) ?_ 4 _ rfl; (with_reducible repeat (first|refine bD ?_ _|refine bE ?_|refine bA ?_ _)); refine blk_put (cs := #[.int .i64 t244,.int .i64 t245,.int .i64 t246,.int .i64 0,.int .i64 0]) ?_ 3 _ rfl; (with_reducible repeat (first|refine bD ?_ _|refine bE ?_|refine bA ?_ _)); refine blk_put (cs := #[.int .i64 t244,.int .i64 t245,.int .i64 0,.int .i64 0,.int .i64 0]) ?_ 2 _ rfl; (with_reducible repeat (first|refine bD ?_ _|refine bE ?_|refine bA ?_ _)); refine blk_put (cs := #[.int .i64 t244,.int .i64 0,.int .i64 0,.int .i64 0,.int .i64 0]) ?_ 1 _ rfl; (with_reducible repeat (first|refine bD ?_ _|refine bE ?_|refine bA ?_ _)); refine blk_put (cs := #[.int .i64 0,.int .i64 0,.int .i64 0,.int .i64 0,.int .i64 0]) ?_ 0 _ rfl; (with_reducible repeat (first|refine bD ?_ _|refine bE ?_|refine bA ?_ _)); exact BK250.out⟩
                       have n8_ : Aside0 (Below w.heap.size w (((((w123.setCell ⟨gb250,0,none⟩ (.int .i64 t244)).setCell ⟨gb250,1,none⟩ (.int .i64 t245)).setCell ⟨gb250,2,none⟩ (.int .i64 t246)).setCell ⟨gb250,3,none⟩ (.int .i64 t247)).setCell ⟨gb250,4,none⟩ (.int .i64 t248))) := ⟨by repeat (first | (with_reducible first | exact HB.out | apply below_alloc | apply pw_below_drewN | apply below_drew1 | refine below_set ?_ GE113.out | refine below_set ?_ GE125.out | refine below_set ?_ GE142.out | refine below_set ?_ GE154.out | refine below_set ?_ GE166.out | refine below_set ?_ GE207.out | refine below_set ?_ GE224.out | refine below_set ?_ GE250.out) | exact HB.out)⟩
                       (try clear BK113)
                       (try clear BK125)
                       (try clear BK142)
                       (try clear BK154)
                       (try clear BK166)
                       (try clear BK207)
                       (try clear BK224)
                       (try clear BK250)
                       (try clear HB)
                       generalize (((((w123.setCell ⟨gb250,0,none⟩ (.int .i64 t244)).setCell ⟨gb250,1,none⟩ (.int .i64 t245)).setCell ⟨gb250,2,none⟩ (.int .i64 t246)).setCell ⟨gb250,3,none⟩ (.int .i64 t247)).setCell ⟨gb250,4,none⟩ (.int .i64 t248)) = w132 at n0_ n1_ n2_ n3_ n4_ n5_ n6_ n7_ n8_ ⊢
                       have BK113 := n0_
                       have BK125 := n1_
                       have BK142 := n2_
                       have BK154 := n3_
                       have BK166 := n4_
                       have BK207 := n5_
                       have BK224 := n6_
                       have BK250 := n7_
                       have HB := n8_
                       clear n0_ n1_ n2_ n3_ n4_ n5_ n6_ n7_ n8_
                       have n0_ := Aside0.mk (blk_drew BK113.out)
                       have n1_ := Aside0.mk (blk_drew BK125.out)
                       have n2_ := Aside0.mk (blk_drew BK142.out)
                       have n3_ := Aside0.mk (blk_drew BK154.out)
                       have n4_ := Aside0.mk (blk_drew BK166.out)
                       have n5_ := Aside0.mk (blk_drew BK207.out)
                       have n6_ := Aside0.mk (blk_drew BK224.out)
                       have n7_ := Aside0.mk (blk_drew BK250.out)
                       have n8_ := Aside0.mk (below_drew1 HB.out)
                       clear BK113
                       clear BK125
                       clear BK142
                       clear BK154
                       clear BK166
                       clear BK207
                       clear BK224
                       clear BK250
                       clear HB
                       have BK113 := n0_
                       have BK125 := n1_
                       have BK142 := n2_
                       have BK154 := n3_
                       have BK166 := n4_
                       have BK207 := n5_
                       have BK224 := n6_
                       have BK250 := n7_
                       have HB := n8_
                       clear n0_ n1_ n2_ n3_ n4_ n5_ n6_ n7_ n8_
                       refine start_ (n := 97) (S := fun w' => w'.cell? ⟨gb113,0,none⟩ = some (.int .i64 t107) ∧ w'.cell? ⟨gb113,1,none⟩ = some (.int .i64 t108) ∧ w'.cell? ⟨gb113,2,none⟩ = some (.int .i64 t109) ∧ w'.cell? ⟨gb113,3,none⟩ = some (.int .i64 t110) ∧ w'.cell? ⟨gb113,4,none⟩ = some (.int .i64 t111) ∧ w'.cell? ⟨gb125,0,none⟩ = some (.int .i64 t119) ∧ w'.cell? ⟨gb125,1,none⟩ = some (.int .i64 t120) ∧ w'.cell? ⟨gb125,2,none⟩ = some (.int .i64 t121) ∧ w'.cell? ⟨gb125,3,none⟩ = some (.int .i64 t122) ∧ w'.cell? ⟨gb125,4,none⟩ = some (.int .i64 t123) ∧ w'.cell? ⟨gb142,0,none⟩ = some (.int .i64 t136) ∧ w'.cell? ⟨gb142,1,none⟩ = some (.int .i64 t137) ∧ w'.cell? ⟨gb142,2,none⟩ = some (.int .i64 t138) ∧ w'.cell? ⟨gb142,3,none⟩ = some (.int .i64 t139) ∧ w'.cell? ⟨gb142,4,none⟩ = some (.int .i64 t140) ∧ w'.cell? ⟨gb154,0,none⟩ = some (.int .i64 t148) ∧ w'.cell? ⟨gb154,1,none⟩ = some (.int .i64 t149) ∧ w'.cell? ⟨gb154,2,none⟩ = some (.int .i64 t150) ∧ w'.cell? ⟨gb154,3,none⟩ = some (.int .i64 t151) ∧ w'.cell? ⟨gb154,4,none⟩ = some (.int .i64 t152) ∧ w'.cell? ⟨gb166,0,none⟩ = some (.int .i64 t160) ∧ w'.cell? ⟨gb166,1,none⟩ = some (.int .i64 t161) ∧ w'.cell? ⟨gb166,2,none⟩ = some (.int .i64 t162) ∧ w'.cell? ⟨gb166,3,none⟩ = some (.int .i64 t163) ∧ w'.cell? ⟨gb166,4,none⟩ = some (.int .i64 t164) ∧ w'.cell? ⟨gb207,0,none⟩ = some (.int .i64 t201) ∧ w'.cell? ⟨gb207,1,none⟩ = some (.int .i64 t202) ∧ w'.cell? ⟨gb207,2,none⟩ = some (.int .i64 t203) ∧ w'.cell? ⟨gb207,3,none⟩ = some (.int .i64 t204) ∧ w'.cell? ⟨gb207,4,none⟩ = some (.int .i64 t205) ∧ w'.cell? ⟨gb250,0,none⟩ = some (.int .i64 t244) ∧ w'.cell? ⟨gb250,1,none⟩ = some (.int .i64 t245) ∧ w'.cell? ⟨gb250,2,none⟩ = some (.int .i64 t246) ∧ w'.cell? ⟨gb250,3,none⟩ = some (.int .i64 t247) ∧ w'.cell? ⟨gb250,4,none⟩ = some (.int .i64 t248)) (ds := []) #[ff,ff,ff,ff,ff,ff,ff,ff,ff,ff,ff,ff,ff,ff,ff,ff,ff,ff,ff,ff,ff,ff,ff,ff,ff,ff,ff,ff,ff,ff,ff,ff,ff,ff,ff,ff,ff,ff,ff,ff,ff,ff,ff,ff,ff,ff,ff,ff,ff,ff,ff,ff,ff,ff,ff,ff,ff,ff,ff,ff,ff,ff,ff,ff,ff,ff,ff,ff,ff,ff,ff,ff,ff,ff,ff,ff,ff,ff,ff,ff,ff,ff,ff,ff,ff,ff,ff,ff,ff,ff,ff,ff,ff,ff,ff,ff,ff] (by kernel_rfl) rfl rfl ⟨(blk_cell BK113.out 0).trans rfl,(blk_cell BK113.out 1).trans rfl,(blk_cell BK113.out 2).trans rfl,(blk_cell BK113.out 3).trans rfl,(blk_cell BK113.out 4).trans rfl,(blk_cell BK125.out 0).trans rfl,(blk_cell BK125.out 1).trans rfl,(blk_cell BK125.out 2).trans rfl,(blk_cell BK125.out 3).trans rfl,(blk_cell BK125.out 4).trans rfl,(blk_cell BK142.out 0).trans rfl,(blk_cell BK142.out 1).trans rfl,(blk_cell BK142.out 2).trans rfl,(blk_cell BK142.out 3).trans rfl,(blk_cell BK142.out 4).trans rfl,(blk_cell BK154.out 0).trans rfl,(blk_cell BK154.out 1).trans rfl,(blk_cell BK154.out 2).trans rfl,(blk_cell BK154.out 3).trans rfl,(blk_cell BK154.out 4).trans rfl,(blk_cell BK166.out 0).trans rfl,(blk_cell BK166.out 1).trans rfl,(blk_cell BK166.out 2).trans rfl,(blk_cell BK166.out 3).trans rfl,(blk_cell BK166.out 4).trans rfl,(blk_cell BK207.out 0).trans rfl,(blk_cell BK207.out 1).trans rfl,(blk_cell BK207.out 2).trans rfl,(blk_cell BK207.out 3).trans rfl,(blk_cell BK207.out 4).trans rfl,(blk_cell BK250.out 0).trans rfl,(blk_cell BK250.out 1).trans rfl,(blk_cell BK250.out 2).trans rfl,(blk_cell BK250.out 3).trans rfl,(blk_cell BK250.out 4).trans rfl⟩ (fun hHeld => ?_); refine with_tabW spoondriftlaw01_awake.tab13 spoondriftlaw01_awake.bits13 (fun HT_ HW_ => ?_)
                       generalize w132.drew = w133 at BK113 BK125 BK142 BK154 BK166 BK207 BK224 BK250 HB hHeld ⊢
                       refine pure_ (i := 0) (N := some 90) (v := ?_) (a' := ?_) #[tt,ff,ff,ff,ff,ff,ff,ff,ff,ff,ff,ff,ff,ff,ff,ff,ff,ff,ff,ff,ff,ff,ff,ff,ff,ff,ff,ff,ff,ff,ff,ff,ff,ff,ff,ff,ff,ff,ff,ff,ff,ff,ff,ff,ff,ff,ff,ff,ff,ff,ff,ff,ff,ff,ff,ff,ff,ff,ff,ff,ff,ff,ff,ff,ff,ff,ff,ff,ff,ff,ff,ff,ff,ff,ff,ff,ff,ff,ff,ff,ff,ff,ff,ff,ff,ff,ff,ff,ff,ff,ff,ff,ff,ff,ff,ff,ff] rfl rfl (any_of HT_.out (by kernel_rfl)) (fun _ _ _ h => h) (Or.inl ⟨by rfl,?_⟩) ?_ ?_
                       rotate_left
                       ·intro w'
                        go_simp
                        with_reducible rfl
                       rotate_left
                       ·simp only [Act.put,List.setIfInBounds_toArray,List.set_cons_zero,List.set_cons_succ,i64_w,i32_w]
                        rfl
                       refine pure_ (i := 1) (N := some 91) (v := ?_) (a' := ?_) #[tt,tt,ff,ff,ff,ff,ff,ff,ff,ff,ff,ff,ff,ff,ff,ff,ff,ff,ff,ff,ff,ff,ff,ff,ff,ff,ff,ff,ff,ff,ff,ff,ff,ff,ff,ff,ff,ff,ff,ff,ff,ff,ff,ff,ff,ff,ff,ff,ff,ff,ff,ff,ff,ff,ff,ff,ff,ff,ff,ff,ff,ff,ff,ff,ff,ff,ff,ff,ff,ff,ff,ff,ff,ff,ff,ff,ff,ff,ff,ff,ff,ff,ff,ff,ff,ff,ff,ff,ff,ff,ff,ff,ff,ff,ff,ff,ff] rfl rfl (any_of HT_.out (by kernel_rfl)) (fun _ _ _ h => h) (Or.inl ⟨by rfl,?_⟩) ?_ ?_
                       rotate_left
                       ·intro w'
                        go_simp
                        with_reducible rfl
                       rotate_left
                       ·simp only [Act.put,List.setIfInBounds_toArray,List.set_cons_zero,List.set_cons_succ,i64_w,i32_w]
                        rfl
                       refine pure_ (i := 2) (N := some 92) (v := ?_) (a' := ?_) #[tt,tt,tt,ff,ff,ff,ff,ff,ff,ff,ff,ff,ff,ff,ff,ff,ff,ff,ff,ff,ff,ff,ff,ff,ff,ff,ff,ff,ff,ff,ff,ff,ff,ff,ff,ff,ff,ff,ff,ff,ff,ff,ff,ff,ff,ff,ff,ff,ff,ff,ff,ff,ff,ff,ff,ff,ff,ff,ff,ff,ff,ff,ff,ff,ff,ff,ff,ff,ff,ff,ff,ff,ff,ff,ff,ff,ff,ff,ff,ff,ff,ff,ff,ff,ff,ff,ff,ff,ff,ff,ff,ff,ff,ff,ff,ff,ff] rfl rfl (any_of HT_.out (by kernel_rfl)) (fun _ _ _ h => h) (Or.inl ⟨by rfl,?_⟩) ?_ ?_
                       rotate_left
                       ·intro w'
                        go_simp
                        with_reducible rfl
                       rotate_left
                       ·simp only [Act.put,List.setIfInBounds_toArray,List.set_cons_zero,List.set_cons_succ,i64_w,i32_w]
                        rfl
                       refine pure_ (i := 3) (N := some 93) (v := ?_) (a' := ?_) #[tt,tt,tt,tt,ff,ff,ff,ff,ff,ff,ff,ff,ff,ff,ff,ff,ff,ff,ff,ff,ff,ff,ff,ff,ff,ff,ff,ff,ff,ff,ff,ff,ff,ff,ff,ff,ff,ff,ff,ff,ff,ff,ff,ff,ff,ff,ff,ff,ff,ff,ff,ff,ff,ff,ff,ff,ff,ff,ff,ff,ff,ff,ff,ff,ff,ff,ff,ff,ff,ff,ff,ff,ff,ff,ff,ff,ff,ff,ff,ff,ff,ff,ff,ff,ff,ff,ff,ff,ff,ff,ff,ff,ff,ff,ff,ff,ff] rfl rfl (any_of HT_.out (by kernel_rfl)) (fun _ _ _ h => h) (Or.inl ⟨by rfl,?_⟩) ?_ ?_
                       rotate_left
                       ·intro w'
                        go_simp
                        with_reducible rfl
                       rotate_left
                       ·simp only [Act.put,List.setIfInBounds_toArray,List.set_cons_zero,List.set_cons_succ,i64_w,i32_w]
                        rfl
                       refine pure_ (i := 4) (N := some 94) (v := ?_) (a' := ?_) #[tt,tt,tt,tt,tt,ff,ff,ff,ff,ff,ff,ff,ff,ff,ff,ff,ff,ff,ff,ff,ff,ff,ff,ff,ff,ff,ff,ff,ff,ff,ff,ff,ff,ff,ff,ff,ff,ff,ff,ff,ff,ff,ff,ff,ff,ff,ff,ff,ff,ff,ff,ff,ff,ff,ff,ff,ff,ff,ff,ff,ff,ff,ff,ff,ff,ff,ff,ff,ff,ff,ff,ff,ff,ff,ff,ff,ff,ff,ff,ff,ff,ff,ff,ff,ff,ff,ff,ff,ff,ff,ff,ff,ff,ff,ff,ff,ff] rfl rfl (any_of HT_.out (by kernel_rfl)) (fun _ _ _ h => h) (Or.inl ⟨by rfl,?_⟩) ?_ ?_
                       rotate_left
                       ·intro w'
                        go_simp
                        with_reducible rfl
                       rotate_left
                       ·simp only [Act.put,List.setIfInBounds_toArray,List.set_cons_zero,List.set_cons_succ,i64_w,i32_w]
                        rfl
                       refine pure_ (i := 5) (N := some 95) (v := ?_) (a' := ?_) #[tt,tt,tt,tt,tt,tt,ff,ff,ff,ff,ff,ff,ff,ff,ff,ff,ff,ff,ff,ff,ff,ff,ff,ff,ff,ff,ff,ff,ff,ff,ff,ff,ff,ff,ff,ff,ff,ff,ff,ff,ff,ff,ff,ff,ff,ff,ff,ff,ff,ff,ff,ff,ff,ff,ff,ff,ff,ff,ff,ff,ff,ff,ff,ff,ff,ff,ff,ff,ff,ff,ff,ff,ff,ff,ff,ff,ff,ff,ff,ff,ff,ff,ff,ff,ff,ff,ff,ff,ff,ff,ff,ff,ff,ff,ff,ff,ff] rfl rfl (any_of HT_.out (by kernel_rfl)) (fun _ _ _ h => h) (Or.inl ⟨by rfl,?_⟩) ?_ ?_
                       rotate_left
                       ·intro w'
                        go_simp
                        with_reducible rfl
                       rotate_left
                       ·simp only [Act.put,List.setIfInBounds_toArray,List.set_cons_zero,List.set_cons_succ,i64_w,i32_w]
                        rfl
                       refine pure_ (i := 6) (N := some 96) (v := ?_) (a' := ?_) #[tt,tt,tt,tt,tt,tt,tt,ff,ff,ff,ff,ff,ff,ff,ff,ff,ff,ff,ff,ff,ff,ff,ff,ff,ff,ff,ff,ff,ff,ff,ff,ff,ff,ff,ff,ff,ff,ff,ff,ff,ff,ff,ff,ff,ff,ff,ff,ff,ff,ff,ff,ff,ff,ff,ff,ff,ff,ff,ff,ff,ff,ff,ff,ff,ff,ff,ff,ff,ff,ff,ff,ff,ff,ff,ff,ff,ff,ff,ff,ff,ff,ff,ff,ff,ff,ff,ff,ff,ff,ff,ff,ff,ff,ff,ff,ff,ff] rfl rfl (any_of HT_.out (by kernel_rfl)) (fun _ _ _ h => h) (Or.inl ⟨by rfl,?_⟩) ?_ ?_
                       rotate_left
                       ·intro w'
                        go_simp
                        with_reducible rfl
                       rotate_left
                       ·simp only [Act.put,List.setIfInBounds_toArray,List.set_cons_zero,List.set_cons_succ,i64_w,i32_w]
                        rfl
                       refine pure_ (i := 7) (N := some 97) (v := ?_) (a' := ?_) #[tt,tt,tt,tt,tt,tt,tt,tt,ff,ff,ff,ff,ff,ff,ff,ff,ff,ff,ff,ff,ff,ff,ff,ff,ff,ff,ff,ff,ff,ff,ff,ff,ff,ff,ff,ff,ff,ff,ff,ff,ff,ff,ff,ff,ff,ff,ff,ff,ff,ff,ff,ff,ff,ff,ff,ff,ff,ff,ff,ff,ff,ff,ff,ff,ff,ff,ff,ff,ff,ff,ff,ff,ff,ff,ff,ff,ff,ff,ff,ff,ff,ff,ff,ff,ff,ff,ff,ff,ff,ff,ff,ff,ff,ff,ff,ff,ff] rfl rfl (any_of HT_.out (by kernel_rfl)) (fun _ _ _ h => h) (Or.inl ⟨by rfl,?_⟩) ?_ ?_
                       rotate_left
                       ·intro w'
                        go_simp
                        with_reducible rfl
                       rotate_left
                       ·simp only [Act.put,List.setIfInBounds_toArray,List.set_cons_zero,List.set_cons_succ,i64_w,i32_w]
                        rfl
                       refine pure_ (i := 8) (N := some 98) (v := ?_) (a' := ?_) #[tt,tt,tt,tt,tt,tt,tt,tt,tt,ff,ff,ff,ff,ff,ff,ff,ff,ff,ff,ff,ff,ff,ff,ff,ff,ff,ff,ff,ff,ff,ff,ff,ff,ff,ff,ff,ff,ff,ff,ff,ff,ff,ff,ff,ff,ff,ff,ff,ff,ff,ff,ff,ff,ff,ff,ff,ff,ff,ff,ff,ff,ff,ff,ff,ff,ff,ff,ff,ff,ff,ff,ff,ff,ff,ff,ff,ff,ff,ff,ff,ff,ff,ff,ff,ff,ff,ff,ff,ff,ff,ff,ff,ff,ff,ff,ff,ff] rfl rfl (any_of HT_.out (by kernel_rfl)) (fun _ _ _ h => h) (Or.inl ⟨by rfl,?_⟩) ?_ ?_
                       rotate_left
                       ·intro w'
                        go_simp
                        with_reducible rfl
                       rotate_left
                       ·simp only [Act.put,List.setIfInBounds_toArray,List.set_cons_zero,List.set_cons_succ,i64_w,i32_w]
                        rfl
                       refine pure_ (i := 9) (N := some 99) (v := ?_) (a' := ?_) #[tt,tt,tt,tt,tt,tt,tt,tt,tt,tt,ff,ff,ff,ff,ff,ff,ff,ff,ff,ff,ff,ff,ff,ff,ff,ff,ff,ff,ff,ff,ff,ff,ff,ff,ff,ff,ff,ff,ff,ff,ff,ff,ff,ff,ff,ff,ff,ff,ff,ff,ff,ff,ff,ff,ff,ff,ff,ff,ff,ff,ff,ff,ff,ff,ff,ff,ff,ff,ff,ff,ff,ff,ff,ff,ff,ff,ff,ff,ff,ff,ff,ff,ff,ff,ff,ff,ff,ff,ff,ff,ff,ff,ff,ff,ff,ff,ff] rfl rfl (any_of HT_.out (by kernel_rfl)) (fun _ _ _ h => h) (Or.inl ⟨by rfl,?_⟩) ?_ ?_
                       rotate_left
                       ·intro w'
                        go_simp
                        with_reducible rfl
                       rotate_left
                       ·simp only [Act.put,List.setIfInBounds_toArray,List.set_cons_zero,List.set_cons_succ,i64_w,i32_w]
                        rfl
                       refine pure_ (i := 10) (N := some 100) (v := ?_) (a' := ?_) #[tt,tt,tt,tt,tt,tt,tt,tt,tt,tt,tt,ff,ff,ff,ff,ff,ff,ff,ff,ff,ff,ff,ff,ff,ff,ff,ff,ff,ff,ff,ff,ff,ff,ff,ff,ff,ff,ff,ff,ff,ff,ff,ff,ff,ff,ff,ff,ff,ff,ff,ff,ff,ff,ff,ff,ff,ff,ff,ff,ff,ff,ff,ff,ff,ff,ff,ff,ff,ff,ff,ff,ff,ff,ff,ff,ff,ff,ff,ff,ff,ff,ff,ff,ff,ff,ff,ff,ff,ff,ff,ff,ff,ff,ff,ff,ff,ff] rfl rfl (any_of HT_.out (by kernel_rfl)) (fun _ _ _ h => h) (Or.inl ⟨by rfl,?_⟩) ?_ ?_
                       rotate_left
                       ·intro w'
                        go_simp
                        with_reducible rfl
                       rotate_left
                       ·simp only [Act.put,List.setIfInBounds_toArray,List.set_cons_zero,List.set_cons_succ,i64_w,i32_w]
                        rfl
                       refine pure_ (i := 11) (N := some 101) (v := ?_) (a' := ?_) #[tt,tt,tt,tt,tt,tt,tt,tt,tt,tt,tt,tt,ff,ff,ff,ff,ff,ff,ff,ff,ff,ff,ff,ff,ff,ff,ff,ff,ff,ff,ff,ff,ff,ff,ff,ff,ff,ff,ff,ff,ff,ff,ff,ff,ff,ff,ff,ff,ff,ff,ff,ff,ff,ff,ff,ff,ff,ff,ff,ff,ff,ff,ff,ff,ff,ff,ff,ff,ff,ff,ff,ff,ff,ff,ff,ff,ff,ff,ff,ff,ff,ff,ff,ff,ff,ff,ff,ff,ff,ff,ff,ff,ff,ff,ff,ff,ff] rfl rfl (any_of HT_.out (by kernel_rfl)) (fun _ _ _ h => h) (Or.inl ⟨by rfl,?_⟩) ?_ ?_
                       rotate_left
                       ·intro w'
                        go_simp
                        with_reducible rfl
                       rotate_left
                       ·simp only [Act.put,List.setIfInBounds_toArray,List.set_cons_zero,List.set_cons_succ,i64_w,i32_w]
                        rfl
                       refine pure_ (i := 12) (N := some 102) (v := ?_) (a' := ?_) #[tt,tt,tt,tt,tt,tt,tt,tt,tt,tt,tt,tt,tt,ff,ff,ff,ff,ff,ff,ff,ff,ff,ff,ff,ff,ff,ff,ff,ff,ff,ff,ff,ff,ff,ff,ff,ff,ff,ff,ff,ff,ff,ff,ff,ff,ff,ff,ff,ff,ff,ff,ff,ff,ff,ff,ff,ff,ff,ff,ff,ff,ff,ff,ff,ff,ff,ff,ff,ff,ff,ff,ff,ff,ff,ff,ff,ff,ff,ff,ff,ff,ff,ff,ff,ff,ff,ff,ff,ff,ff,ff,ff,ff,ff,ff,ff,ff] rfl rfl (any_of HT_.out (by kernel_rfl)) (fun _ _ _ h => h) (Or.inl ⟨by rfl,?_⟩) ?_ ?_
                       rotate_left
                       ·intro w'
                        go_simp
                        with_reducible rfl
                       rotate_left
                       ·simp only [Act.put,List.setIfInBounds_toArray,List.set_cons_zero,List.set_cons_succ,i64_w,i32_w]
                        rfl
                       refine pure_ (i := 13) (N := some 103) (v := ?_) (a' := ?_) #[tt,tt,tt,tt,tt,tt,tt,tt,tt,tt,tt,tt,tt,tt,ff,ff,ff,ff,ff,ff,ff,ff,ff,ff,ff,ff,ff,ff,ff,ff,ff,ff,ff,ff,ff,ff,ff,ff,ff,ff,ff,ff,ff,ff,ff,ff,ff,ff,ff,ff,ff,ff,ff,ff,ff,ff,ff,ff,ff,ff,ff,ff,ff,ff,ff,ff,ff,ff,ff,ff,ff,ff,ff,ff,ff,ff,ff,ff,ff,ff,ff,ff,ff,ff,ff,ff,ff,ff,ff,ff,ff,ff,ff,ff,ff,ff,ff] rfl rfl (any_of HT_.out (by kernel_rfl)) (fun _ _ _ h => h) (Or.inl ⟨by rfl,?_⟩) ?_ ?_
                       rotate_left
                       ·intro w'
                        go_simp
                        with_reducible rfl
                       rotate_left
                       ·simp only [Act.put,List.setIfInBounds_toArray,List.set_cons_zero,List.set_cons_succ,i64_w,i32_w]
                        rfl
                       refine pure_ (i := 14) (N := some 104) (v := ?_) (a' := ?_) #[tt,tt,tt,tt,tt,tt,tt,tt,tt,tt,tt,tt,tt,tt,tt,ff,ff,ff,ff,ff,ff,ff,ff,ff,ff,ff,ff,ff,ff,ff,ff,ff,ff,ff,ff,ff,ff,ff,ff,ff,ff,ff,ff,ff,ff,ff,ff,ff,ff,ff,ff,ff,ff,ff,ff,ff,ff,ff,ff,ff,ff,ff,ff,ff,ff,ff,ff,ff,ff,ff,ff,ff,ff,ff,ff,ff,ff,ff,ff,ff,ff,ff,ff,ff,ff,ff,ff,ff,ff,ff,ff,ff,ff,ff,ff,ff,ff] rfl rfl (any_of HT_.out (by kernel_rfl)) (fun _ _ _ h => h) (Or.inl ⟨by rfl,?_⟩) ?_ ?_
                       rotate_left
                       ·intro w'
                        go_simp
                        with_reducible rfl
                       rotate_left
                       ·simp only [Act.put,List.setIfInBounds_toArray,List.set_cons_zero,List.set_cons_succ,i64_w,i32_w]
                        rfl
                       refine pure_ (i := 15) (N := some 105) (v := ?_) (a' := ?_) #[tt,tt,tt,tt,tt,tt,tt,tt,tt,tt,tt,tt,tt,tt,tt,tt,ff,ff,ff,ff,ff,ff,ff,ff,ff,ff,ff,ff,ff,ff,ff,ff,ff,ff,ff,ff,ff,ff,ff,ff,ff,ff,ff,ff,ff,ff,ff,ff,ff,ff,ff,ff,ff,ff,ff,ff,ff,ff,ff,ff,ff,ff,ff,ff,ff,ff,ff,ff,ff,ff,ff,ff,ff,ff,ff,ff,ff,ff,ff,ff,ff,ff,ff,ff,ff,ff,ff,ff,ff,ff,ff,ff,ff,ff,ff,ff,ff] rfl rfl (any_of HT_.out (by kernel_rfl)) (fun _ _ _ h => h) (Or.inl ⟨by rfl,?_⟩) ?_ ?_
                       rotate_left
                       ·intro w'
                        go_simp
                        with_reducible rfl
                       rotate_left
                       ·simp only [Act.put,List.setIfInBounds_toArray,List.set_cons_zero,List.set_cons_succ,i64_w,i32_w]
                        rfl
                       refine pure_ (i := 16) (N := some 106) (v := ?_) (a' := ?_) #[tt,tt,tt,tt,tt,tt,tt,tt,tt,tt,tt,tt,tt,tt,tt,tt,tt,ff,ff,ff,ff,ff,ff,ff,ff,ff,ff,ff,ff,ff,ff,ff,ff,ff,ff,ff,ff,ff,ff,ff,ff,ff,ff,ff,ff,ff,ff,ff,ff,ff,ff,ff,ff,ff,ff,ff,ff,ff,ff,ff,ff,ff,ff,ff,ff,ff,ff,ff,ff,ff,ff,ff,ff,ff,ff,ff,ff,ff,ff,ff,ff,ff,ff,ff,ff,ff,ff,ff,ff,ff,ff,ff,ff,ff,ff,ff,ff] rfl rfl (any_of HT_.out (by kernel_rfl)) (fun _ _ _ h => h) (Or.inl ⟨by rfl,?_⟩) ?_ ?_
                       rotate_left
                       ·intro w'
                        go_simp
                        with_reducible rfl
                       rotate_left
                       ·simp only [Act.put,List.setIfInBounds_toArray,List.set_cons_zero,List.set_cons_succ,i64_w,i32_w]
                        rfl
                       refine pure_ (i := 17) (N := some 107) (v := ?_) (a' := ?_) #[tt,tt,tt,tt,tt,tt,tt,tt,tt,tt,tt,tt,tt,tt,tt,tt,tt,tt,ff,ff,ff,ff,ff,ff,ff,ff,ff,ff,ff,ff,ff,ff,ff,ff,ff,ff,ff,ff,ff,ff,ff,ff,ff,ff,ff,ff,ff,ff,ff,ff,ff,ff,ff,ff,ff,ff,ff,ff,ff,ff,ff,ff,ff,ff,ff,ff,ff,ff,ff,ff,ff,ff,ff,ff,ff,ff,ff,ff,ff,ff,ff,ff,ff,ff,ff,ff,ff,ff,ff,ff,ff,ff,ff,ff,ff,ff,ff] rfl rfl (any_of HT_.out (by kernel_rfl)) (fun _ _ _ h => h) (Or.inl ⟨by rfl,?_⟩) ?_ ?_
                       rotate_left
                       ·intro w'
                        go_simp
                        with_reducible rfl
                       rotate_left
                       ·simp only [Act.put,List.setIfInBounds_toArray,List.set_cons_zero,List.set_cons_succ,i64_w,i32_w]
                        rfl
                       refine pure_ (i := 18) (N := some 108) (v := ?_) (a' := ?_) #[tt,tt,tt,tt,tt,tt,tt,tt,tt,tt,tt,tt,tt,tt,tt,tt,tt,tt,tt,ff,ff,ff,ff,ff,ff,ff,ff,ff,ff,ff,ff,ff,ff,ff,ff,ff,ff,ff,ff,ff,ff,ff,ff,ff,ff,ff,ff,ff,ff,ff,ff,ff,ff,ff,ff,ff,ff,ff,ff,ff,ff,ff,ff,ff,ff,ff,ff,ff,ff,ff,ff,ff,ff,ff,ff,ff,ff,ff,ff,ff,ff,ff,ff,ff,ff,ff,ff,ff,ff,ff,ff,ff,ff,ff,ff,ff,ff] rfl rfl (any_of HT_.out (by kernel_rfl)) (fun _ _ _ h => h) (Or.inl ⟨by rfl,?_⟩) ?_ ?_
                       rotate_left
                       ·intro w'
                        go_simp
                        with_reducible rfl
                       rotate_left
                       ·simp only [Act.put,List.setIfInBounds_toArray,List.set_cons_zero,List.set_cons_succ,i64_w,i32_w]
                        rfl
                       refine pure_ (i := 19) (N := some 109) (v := ?_) (a' := ?_) #[tt,tt,tt,tt,tt,tt,tt,tt,tt,tt,tt,tt,tt,tt,tt,tt,tt,tt,tt,tt,ff,ff,ff,ff,ff,ff,ff,ff,ff,ff,ff,ff,ff,ff,ff,ff,ff,ff,ff,ff,ff,ff,ff,ff,ff,ff,ff,ff,ff,ff,ff,ff,ff,ff,ff,ff,ff,ff,ff,ff,ff,ff,ff,ff,ff,ff,ff,ff,ff,ff,ff,ff,ff,ff,ff,ff,ff,ff,ff,ff,ff,ff,ff,ff,ff,ff,ff,ff,ff,ff,ff,ff,ff,ff,ff,ff,ff] rfl rfl (any_of HT_.out (by kernel_rfl)) (fun _ _ _ h => h) (Or.inl ⟨by rfl,?_⟩) ?_ ?_
                       rotate_left
                       ·intro w'
                        go_simp
                        with_reducible rfl
                       rotate_left
                       ·simp only [Act.put,List.setIfInBounds_toArray,List.set_cons_zero,List.set_cons_succ,i64_w,i32_w]
                        rfl
                       refine pure_ (i := 20) (N := some 110) (v := ?_) (a' := ?_) #[tt,tt,tt,tt,tt,tt,tt,tt,tt,tt,tt,tt,tt,tt,tt,tt,tt,tt,tt,tt,tt,ff,ff,ff,ff,ff,ff,ff,ff,ff,ff,ff,ff,ff,ff,ff,ff,ff,ff,ff,ff,ff,ff,ff,ff,ff,ff,ff,ff,ff,ff,ff,ff,ff,ff,ff,ff,ff,ff,ff,ff,ff,ff,ff,ff,ff,ff,ff,ff,ff,ff,ff,ff,ff,ff,ff,ff,ff,ff,ff,ff,ff,ff,ff,ff,ff,ff,ff,ff,ff,ff,ff,ff,ff,ff,ff,ff] rfl rfl (any_of HT_.out (by kernel_rfl)) (fun _ _ _ h => h) (Or.inl ⟨by rfl,?_⟩) ?_ ?_
                       rotate_left
                       ·intro w'
                        go_simp
                        with_reducible rfl
                       rotate_left
                       ·simp only [Act.put,List.setIfInBounds_toArray,List.set_cons_zero,List.set_cons_succ,i64_w,i32_w]
                        rfl
                       refine pure_ (i := 21) (N := some 111) (v := ?_) (a' := ?_) #[tt,tt,tt,tt,tt,tt,tt,tt,tt,tt,tt,tt,tt,tt,tt,tt,tt,tt,tt,tt,tt,tt,ff,ff,ff,ff,ff,ff,ff,ff,ff,ff,ff,ff,ff,ff,ff,ff,ff,ff,ff,ff,ff,ff,ff,ff,ff,ff,ff,ff,ff,ff,ff,ff,ff,ff,ff,ff,ff,ff,ff,ff,ff,ff,ff,ff,ff,ff,ff,ff,ff,ff,ff,ff,ff,ff,ff,ff,ff,ff,ff,ff,ff,ff,ff,ff,ff,ff,ff,ff,ff,ff,ff,ff,ff,ff,ff] rfl rfl (any_of HT_.out (by kernel_rfl)) (fun _ _ _ h => h) (Or.inl ⟨by rfl,?_⟩) ?_ ?_
                       rotate_left
                       ·intro w'
                        go_simp
                        with_reducible rfl
                       rotate_left
                       ·simp only [Act.put,List.setIfInBounds_toArray,List.set_cons_zero,List.set_cons_succ,i64_w,i32_w]
                        rfl
                       refine pure_ (i := 22) (N := some 112) (v := ?_) (a' := ?_) #[tt,tt,tt,tt,tt,tt,tt,tt,tt,tt,tt,tt,tt,tt,tt,tt,tt,tt,tt,tt,tt,tt,tt,ff,ff,ff,ff,ff,ff,ff,ff,ff,ff,ff,ff,ff,ff,ff,ff,ff,ff,ff,ff,ff,ff,ff,ff,ff,ff,ff,ff,ff,ff,ff,ff,ff,ff,ff,ff,ff,ff,ff,ff,ff,ff,ff,ff,ff,ff,ff,ff,ff,ff,ff,ff,ff,ff,ff,ff,ff,ff,ff,ff,ff,ff,ff,ff,ff,ff,ff,ff,ff,ff,ff,ff,ff,ff] rfl rfl (any_of HT_.out (by kernel_rfl)) (fun _ _ _ h => h) (Or.inl ⟨by rfl,?_⟩) ?_ ?_
                       rotate_left
                       ·intro w'
                        go_simp
                        with_reducible rfl
                       rotate_left
                       ·simp only [Act.put,List.setIfInBounds_toArray,List.set_cons_zero,List.set_cons_succ,i64_w,i32_w]
                        rfl
                       refine pure_ (i := 23) (N := some 113) (v := ?_) (a' := ?_) #[tt,tt,tt,tt,tt,tt,tt,tt,tt,tt,tt,tt,tt,tt,tt,tt,tt,tt,tt,tt,tt,tt,tt,tt,ff,ff,ff,ff,ff,ff,ff,ff,ff,ff,ff,ff,ff,ff,ff,ff,ff,ff,ff,ff,ff,ff,ff,ff,ff,ff,ff,ff,ff,ff,ff,ff,ff,ff,ff,ff,ff,ff,ff,ff,ff,ff,ff,ff,ff,ff,ff,ff,ff,ff,ff,ff,ff,ff,ff,ff,ff,ff,ff,ff,ff,ff,ff,ff,ff,ff,ff,ff,ff,ff,ff,ff,ff] rfl rfl (any_of HT_.out (by kernel_rfl)) (fun _ _ _ h => h) (Or.inl ⟨by rfl,?_⟩) ?_ ?_
                       rotate_left
                       ·intro w'
                        go_simp
                        with_reducible rfl
                       rotate_left
                       ·simp only [Act.put,List.setIfInBounds_toArray,List.set_cons_zero,List.set_cons_succ,i64_w,i32_w]
                        rfl
                       refine pure_ (i := 24) (N := some 114) (v := ?_) (a' := ?_) #[tt,tt,tt,tt,tt,tt,tt,tt,tt,tt,tt,tt,tt,tt,tt,tt,tt,tt,tt,tt,tt,tt,tt,tt,tt,ff,ff,ff,ff,ff,ff,ff,ff,ff,ff,ff,ff,ff,ff,ff,ff,ff,ff,ff,ff,ff,ff,ff,ff,ff,ff,ff,ff,ff,ff,ff,ff,ff,ff,ff,ff,ff,ff,ff,ff,ff,ff,ff,ff,ff,ff,ff,ff,ff,ff,ff,ff,ff,ff,ff,ff,ff,ff,ff,ff,ff,ff,ff,ff,ff,ff,ff,ff,ff,ff,ff,ff] rfl rfl (any_of HT_.out (by kernel_rfl)) (fun _ _ _ h => h) (Or.inl ⟨by rfl,?_⟩) ?_ ?_
                       rotate_left
                       ·intro w'
                        go_simp
                        with_reducible rfl
                       rotate_left
                       ·simp only [Act.put,List.setIfInBounds_toArray,List.set_cons_zero,List.set_cons_succ,i64_w,i32_w]
                        rfl
                       refine pure_ (i := 25) (N := some 115) (v := ?_) (a' := ?_) #[tt,tt,tt,tt,tt,tt,tt,tt,tt,tt,tt,tt,tt,tt,tt,tt,tt,tt,tt,tt,tt,tt,tt,tt,tt,tt,ff,ff,ff,ff,ff,ff,ff,ff,ff,ff,ff,ff,ff,ff,ff,ff,ff,ff,ff,ff,ff,ff,ff,ff,ff,ff,ff,ff,ff,ff,ff,ff,ff,ff,ff,ff,ff,ff,ff,ff,ff,ff,ff,ff,ff,ff,ff,ff,ff,ff,ff,ff,ff,ff,ff,ff,ff,ff,ff,ff,ff,ff,ff,ff,ff,ff,ff,ff,ff,ff,ff] rfl rfl (any_of HT_.out (by kernel_rfl)) (fun _ _ _ h => h) (Or.inl ⟨by rfl,?_⟩) ?_ ?_
                       rotate_left
                       ·intro w'
                        go_simp
                        with_reducible rfl
                       rotate_left
                       ·simp only [Act.put,List.setIfInBounds_toArray,List.set_cons_zero,List.set_cons_succ,i64_w,i32_w]
                        rfl
                       refine pure_ (i := 26) (N := some 116) (v := ?_) (a' := ?_) #[tt,tt,tt,tt,tt,tt,tt,tt,tt,tt,tt,tt,tt,tt,tt,tt,tt,tt,tt,tt,tt,tt,tt,tt,tt,tt,tt,ff,ff,ff,ff,ff,ff,ff,ff,ff,ff,ff,ff,ff,ff,ff,ff,ff,ff,ff,ff,ff,ff,ff,ff,ff,ff,ff,ff,ff,ff,ff,ff,ff,ff,ff,ff,ff,ff,ff,ff,ff,ff,ff,ff,ff,ff,ff,ff,ff,ff,ff,ff,ff,ff,ff,ff,ff,ff,ff,ff,ff,ff,ff,ff,ff,ff,ff,ff,ff,ff] rfl rfl (any_of HT_.out (by kernel_rfl)) (fun _ _ _ h => h) (Or.inl ⟨by rfl,?_⟩) ?_ ?_
                       rotate_left
                       ·intro w'
                        go_simp
                        with_reducible rfl
                       rotate_left
                       ·simp only [Act.put,List.setIfInBounds_toArray,List.set_cons_zero,List.set_cons_succ,i64_w,i32_w]
                        rfl
                       refine pure_ (i := 27) (N := some 117) (v := ?_) (a' := ?_) #[tt,tt,tt,tt,tt,tt,tt,tt,tt,tt,tt,tt,tt,tt,tt,tt,tt,tt,tt,tt,tt,tt,tt,tt,tt,tt,tt,tt,ff,ff,ff,ff,ff,ff,ff,ff,ff,ff,ff,ff,ff,ff,ff,ff,ff,ff,ff,ff,ff,ff,ff,ff,ff,ff,ff,ff,ff,ff,ff,ff,ff,ff,ff,ff,ff,ff,ff,ff,ff,ff,ff,ff,ff,ff,ff,ff,ff,ff,ff,ff,ff,ff,ff,ff,ff,ff,ff,ff,ff,ff,ff,ff,ff,ff,ff,ff,ff] rfl rfl (any_of HT_.out (by kernel_rfl)) (fun _ _ _ h => h) (Or.inl ⟨by rfl,?_⟩) ?_ ?_
                       rotate_left
                       ·intro w'
                        go_simp
                        with_reducible rfl
                       rotate_left
                       ·simp only [Act.put,List.setIfInBounds_toArray,List.set_cons_zero,List.set_cons_succ,i64_w,i32_w]
                        rfl
                       refine pure_ (i := 28) (N := some 118) (v := ?_) (a' := ?_) #[tt,tt,tt,tt,tt,tt,tt,tt,tt,tt,tt,tt,tt,tt,tt,tt,tt,tt,tt,tt,tt,tt,tt,tt,tt,tt,tt,tt,tt,ff,ff,ff,ff,ff,ff,ff,ff,ff,ff,ff,ff,ff,ff,ff,ff,ff,ff,ff,ff,ff,ff,ff,ff,ff,ff,ff,ff,ff,ff,ff,ff,ff,ff,ff,ff,ff,ff,ff,ff,ff,ff,ff,ff,ff,ff,ff,ff,ff,ff,ff,ff,ff,ff,ff,ff,ff,ff,ff,ff,ff,ff,ff,ff,ff,ff,ff,ff] rfl rfl (any_of HT_.out (by kernel_rfl)) (fun _ _ _ h => h) (Or.inl ⟨by rfl,?_⟩) ?_ ?_
                       rotate_left
                       ·intro w'
                        go_simp
                        with_reducible rfl
                       rotate_left
                       ·simp only [Act.put,List.setIfInBounds_toArray,List.set_cons_zero,List.set_cons_succ,i64_w,i32_w]
                        rfl
                       refine pure_ (i := 29) (N := some 119) (v := ?_) (a' := ?_) #[tt,tt,tt,tt,tt,tt,tt,tt,tt,tt,tt,tt,tt,tt,tt,tt,tt,tt,tt,tt,tt,tt,tt,tt,tt,tt,tt,tt,tt,tt,ff,ff,ff,ff,ff,ff,ff,ff,ff,ff,ff,ff,ff,ff,ff,ff,ff,ff,ff,ff,ff,ff,ff,ff,ff,ff,ff,ff,ff,ff,ff,ff,ff,ff,ff,ff,ff,ff,ff,ff,ff,ff,ff,ff,ff,ff,ff,ff,ff,ff,ff,ff,ff,ff,ff,ff,ff,ff,ff,ff,ff,ff,ff,ff,ff,ff,ff] rfl rfl (any_of HT_.out (by kernel_rfl)) (fun _ _ _ h => h) (Or.inl ⟨by rfl,?_⟩) ?_ ?_
                       rotate_left
                       ·intro w'
                        go_simp
                        with_reducible rfl
                       rotate_left
                       ·simp only [Act.put,List.setIfInBounds_toArray,List.set_cons_zero,List.set_cons_succ,i64_w,i32_w]
                        rfl
                       refine pure_ (i := 30) (N := some 120) (v := ?_) (a' := ?_) #[tt,tt,tt,tt,tt,tt,tt,tt,tt,tt,tt,tt,tt,tt,tt,tt,tt,tt,tt,tt,tt,tt,tt,tt,tt,tt,tt,tt,tt,tt,tt,ff,ff,ff,ff,ff,ff,ff,ff,ff,ff,ff,ff,ff,ff,ff,ff,ff,ff,ff,ff,ff,ff,ff,ff,ff,ff,ff,ff,ff,ff,ff,ff,ff,ff,ff,ff,ff,ff,ff,ff,ff,ff,ff,ff,ff,ff,ff,ff,ff,ff,ff,ff,ff,ff,ff,ff,ff,ff,ff,ff,ff,ff,ff,ff,ff,ff] rfl rfl (any_of HT_.out (by kernel_rfl)) (fun _ _ _ h => h) (Or.inl ⟨by rfl,?_⟩) ?_ ?_
                       rotate_left
                       ·intro w'
                        go_simp
                        with_reducible rfl
                       rotate_left
                       ·simp only [Act.put,List.setIfInBounds_toArray,List.set_cons_zero,List.set_cons_succ,i64_w,i32_w]
                        rfl
                       refine pure_ (i := 31) (N := some 121) (v := ?_) (a' := ?_) #[tt,tt,tt,tt,tt,tt,tt,tt,tt,tt,tt,tt,tt,tt,tt,tt,tt,tt,tt,tt,tt,tt,tt,tt,tt,tt,tt,tt,tt,tt,tt,tt,ff,ff,ff,ff,ff,ff,ff,ff,ff,ff,ff,ff,ff,ff,ff,ff,ff,ff,ff,ff,ff,ff,ff,ff,ff,ff,ff,ff,ff,ff,ff,ff,ff,ff,ff,ff,ff,ff,ff,ff,ff,ff,ff,ff,ff,ff,ff,ff,ff,ff,ff,ff,ff,ff,ff,ff,ff,ff,ff,ff,ff,ff,ff,ff,ff] rfl rfl (any_of HT_.out (by kernel_rfl)) (fun _ _ _ h => h) (Or.inl ⟨by rfl,?_⟩) ?_ ?_
                       rotate_left
                       ·intro w'
                        go_simp
                        with_reducible rfl
                       rotate_left
                       ·simp only [Act.put,List.setIfInBounds_toArray,List.set_cons_zero,List.set_cons_succ,i64_w,i32_w]
                        rfl
                       refine pure_ (i := 32) (N := some 122) (v := ?_) (a' := ?_) #[tt,tt,tt,tt,tt,tt,tt,tt,tt,tt,tt,tt,tt,tt,tt,tt,tt,tt,tt,tt,tt,tt,tt,tt,tt,tt,tt,tt,tt,tt,tt,tt,tt,ff,ff,ff,ff,ff,ff,ff,ff,ff,ff,ff,ff,ff,ff,ff,ff,ff,ff,ff,ff,ff,ff,ff,ff,ff,ff,ff,ff,ff,ff,ff,ff,ff,ff,ff,ff,ff,ff,ff,ff,ff,ff,ff,ff,ff,ff,ff,ff,ff,ff,ff,ff,ff,ff,ff,ff,ff,ff,ff,ff,ff,ff,ff,ff] rfl rfl (any_of HT_.out (by kernel_rfl)) (fun _ _ _ h => h) (Or.inl ⟨by rfl,?_⟩) ?_ ?_
                       rotate_left
                       ·intro w'
                        go_simp
                        with_reducible rfl
                       rotate_left
                       ·simp only [Act.put,List.setIfInBounds_toArray,List.set_cons_zero,List.set_cons_succ,i64_w,i32_w]
                        rfl
                       refine pure_ (i := 33) (N := some 123) (v := ?_) (a' := ?_) #[tt,tt,tt,tt,tt,tt,tt,tt,tt,tt,tt,tt,tt,tt,tt,tt,tt,tt,tt,tt,tt,tt,tt,tt,tt,tt,tt,tt,tt,tt,tt,tt,tt,tt,ff,ff,ff,ff,ff,ff,ff,ff,ff,ff,ff,ff,ff,ff,ff,ff,ff,ff,ff,ff,ff,ff,ff,ff,ff,ff,ff,ff,ff,ff,ff,ff,ff,ff,ff,ff,ff,ff,ff,ff,ff,ff,ff,ff,ff,ff,ff,ff,ff,ff,ff,ff,ff,ff,ff,ff,ff,ff,ff,ff,ff,ff,ff] rfl rfl (any_of HT_.out (by kernel_rfl)) (fun _ _ _ h => h) (Or.inl ⟨by rfl,?_⟩) ?_ ?_
                       rotate_left
                       ·intro w'
                        go_simp
                        with_reducible rfl
                       rotate_left
                       ·simp only [Act.put,List.setIfInBounds_toArray,List.set_cons_zero,List.set_cons_succ,i64_w,i32_w]
                        rfl
                       refine pure_ (i := 34) (N := some 124) (v := ?_) (a' := ?_) #[tt,tt,tt,tt,tt,tt,tt,tt,tt,tt,tt,tt,tt,tt,tt,tt,tt,tt,tt,tt,tt,tt,tt,tt,tt,tt,tt,tt,tt,tt,tt,tt,tt,tt,tt,ff,ff,ff,ff,ff,ff,ff,ff,ff,ff,ff,ff,ff,ff,ff,ff,ff,ff,ff,ff,ff,ff,ff,ff,ff,ff,ff,ff,ff,ff,ff,ff,ff,ff,ff,ff,ff,ff,ff,ff,ff,ff,ff,ff,ff,ff,ff,ff,ff,ff,ff,ff,ff,ff,ff,ff,ff,ff,ff,ff,ff,ff] rfl rfl (any_of HT_.out (by kernel_rfl)) (fun _ _ _ h => h) (Or.inl ⟨by rfl,?_⟩) ?_ ?_
                       rotate_left
                       ·intro w'
                        go_simp
                        with_reducible rfl
                       rotate_left
                       ·simp only [Act.put,List.setIfInBounds_toArray,List.set_cons_zero,List.set_cons_succ,i64_w,i32_w]
                        rfl
                       refine pure_ (i := 35) (N := some 125) (v := ?_) (a' := ?_) #[tt,tt,tt,tt,tt,tt,tt,tt,tt,tt,tt,tt,tt,tt,tt,tt,tt,tt,tt,tt,tt,tt,tt,tt,tt,tt,tt,tt,tt,tt,tt,tt,tt,tt,tt,tt,ff,ff,ff,ff,ff,ff,ff,ff,ff,ff,ff,ff,ff,ff,ff,ff,ff,ff,ff,ff,ff,ff,ff,ff,ff,ff,ff,ff,ff,ff,ff,ff,ff,ff,ff,ff,ff,ff,ff,ff,ff,ff,ff,ff,ff,ff,ff,ff,ff,ff,ff,ff,ff,ff,ff,ff,ff,ff,ff,ff,ff] rfl rfl (any_of HT_.out (by kernel_rfl)) (fun _ _ _ h => h) (Or.inl ⟨by rfl,?_⟩) ?_ ?_
                       rotate_left
                       ·intro w'
                        go_simp
                        with_reducible rfl
                       rotate_left
                       ·simp only [Act.put,List.setIfInBounds_toArray,List.set_cons_zero,List.set_cons_succ,i64_w,i32_w]
                        rfl
                       refine pure_ (i := 36) (N := some 126) (v := ?_) (a' := ?_) #[tt,tt,tt,tt,tt,tt,tt,tt,tt,tt,tt,tt,tt,tt,tt,tt,tt,tt,tt,tt,tt,tt,tt,tt,tt,tt,tt,tt,tt,tt,tt,tt,tt,tt,tt,tt,tt,ff,ff,ff,ff,ff,ff,ff,ff,ff,ff,ff,ff,ff,ff,ff,ff,ff,ff,ff,ff,ff,ff,ff,ff,ff,ff,ff,ff,ff,ff,ff,ff,ff,ff,ff,ff,ff,ff,ff,ff,ff,ff,ff,ff,ff,ff,ff,ff,ff,ff,ff,ff,ff,ff,ff,ff,ff,ff,ff,ff] rfl rfl (any_of HT_.out (by kernel_rfl)) (fun _ _ _ h => h) (Or.inl ⟨by rfl,?_⟩) ?_ ?_
                       rotate_left
                       ·intro w'
                        go_simp
                        with_reducible rfl
                       rotate_left
                       ·simp only [Act.put,List.setIfInBounds_toArray,List.set_cons_zero,List.set_cons_succ,i64_w,i32_w]
                        rfl
                       refine pure_ (i := 37) (N := some 127) (v := ?_) (a' := ?_) #[tt,tt,tt,tt,tt,tt,tt,tt,tt,tt,tt,tt,tt,tt,tt,tt,tt,tt,tt,tt,tt,tt,tt,tt,tt,tt,tt,tt,tt,tt,tt,tt,tt,tt,tt,tt,tt,tt,ff,ff,ff,ff,ff,ff,ff,ff,ff,ff,ff,ff,ff,ff,ff,ff,ff,ff,ff,ff,ff,ff,ff,ff,ff,ff,ff,ff,ff,ff,ff,ff,ff,ff,ff,ff,ff,ff,ff,ff,ff,ff,ff,ff,ff,ff,ff,ff,ff,ff,ff,ff,ff,ff,ff,ff,ff,ff,ff] rfl rfl (any_of HT_.out (by kernel_rfl)) (fun _ _ _ h => h) (Or.inl ⟨by rfl,?_⟩) ?_ ?_
                       rotate_left
                       ·intro w'
                        go_simp
                        with_reducible rfl
                       rotate_left
                       ·simp only [Act.put,List.setIfInBounds_toArray,List.set_cons_zero,List.set_cons_succ,i64_w,i32_w]
                        rfl
                       refine pure_ (i := 38) (N := some 128) (v := ?_) (a' := ?_) #[tt,tt,tt,tt,tt,tt,tt,tt,tt,tt,tt,tt,tt,tt,tt,tt,tt,tt,tt,tt,tt,tt,tt,tt,tt,tt,tt,tt,tt,tt,tt,tt,tt,tt,tt,tt,tt,tt,tt,ff,ff,ff,ff,ff,ff,ff,ff,ff,ff,ff,ff,ff,ff,ff,ff,ff,ff,ff,ff,ff,ff,ff,ff,ff,ff,ff,ff,ff,ff,ff,ff,ff,ff,ff,ff,ff,ff,ff,ff,ff,ff,ff,ff,ff,ff,ff,ff,ff,ff,ff,ff,ff,ff,ff,ff,ff,ff] rfl rfl (any_of HT_.out (by kernel_rfl)) (fun _ _ _ h => h) (Or.inl ⟨by rfl,?_⟩) ?_ ?_
                       rotate_left
                       ·intro w'
                        go_simp
                        with_reducible rfl
                       rotate_left
                       ·simp only [Act.put,List.setIfInBounds_toArray,List.set_cons_zero,List.set_cons_succ,i64_w,i32_w]
                        rfl
                       refine pure_ (i := 39) (N := some 129) (v := ?_) (a' := ?_) #[tt,tt,tt,tt,tt,tt,tt,tt,tt,tt,tt,tt,tt,tt,tt,tt,tt,tt,tt,tt,tt,tt,tt,tt,tt,tt,tt,tt,tt,tt,tt,tt,tt,tt,tt,tt,tt,tt,tt,tt,ff,ff,ff,ff,ff,ff,ff,ff,ff,ff,ff,ff,ff,ff,ff,ff,ff,ff,ff,ff,ff,ff,ff,ff,ff,ff,ff,ff,ff,ff,ff,ff,ff,ff,ff,ff,ff,ff,ff,ff,ff,ff,ff,ff,ff,ff,ff,ff,ff,ff,ff,ff,ff,ff,ff,ff,ff] rfl rfl (any_of HT_.out (by kernel_rfl)) (fun _ _ _ h => h) (Or.inl ⟨by rfl,?_⟩) ?_ ?_
                       rotate_left
                       ·intro w'
                        go_simp
                        with_reducible rfl
                       rotate_left
                       ·simp only [Act.put,List.setIfInBounds_toArray,List.set_cons_zero,List.set_cons_succ,i64_w,i32_w]
                        rfl
                       refine pure_ (i := 40) (N := some 130) (v := ?_) (a' := ?_) #[tt,tt,tt,tt,tt,tt,tt,tt,tt,tt,tt,tt,tt,tt,tt,tt,tt,tt,tt,tt,tt,tt,tt,tt,tt,tt,tt,tt,tt,tt,tt,tt,tt,tt,tt,tt,tt,tt,tt,tt,tt,ff,ff,ff,ff,ff,ff,ff,ff,ff,ff,ff,ff,ff,ff,ff,ff,ff,ff,ff,ff,ff,ff,ff,ff,ff,ff,ff,ff,ff,ff,ff,ff,ff,ff,ff,ff,ff,ff,ff,ff,ff,ff,ff,ff,ff,ff,ff,ff,ff,ff,ff,ff,ff,ff,ff,ff] rfl rfl (any_of HT_.out (by kernel_rfl)) (fun _ _ _ h => h) (Or.inl ⟨by rfl,?_⟩) ?_ ?_
                       rotate_left
                       ·intro w'
                        go_simp
                        with_reducible rfl
                       rotate_left
                       ·simp only [Act.put,List.setIfInBounds_toArray,List.set_cons_zero,List.set_cons_succ,i64_w,i32_w]
                        rfl
                       refine pure_ (i := 41) (N := some 131) (v := ?_) (a' := ?_) #[tt,tt,tt,tt,tt,tt,tt,tt,tt,tt,tt,tt,tt,tt,tt,tt,tt,tt,tt,tt,tt,tt,tt,tt,tt,tt,tt,tt,tt,tt,tt,tt,tt,tt,tt,tt,tt,tt,tt,tt,tt,tt,ff,ff,ff,ff,ff,ff,ff,ff,ff,ff,ff,ff,ff,ff,ff,ff,ff,ff,ff,ff,ff,ff,ff,ff,ff,ff,ff,ff,ff,ff,ff,ff,ff,ff,ff,ff,ff,ff,ff,ff,ff,ff,ff,ff,ff,ff,ff,ff,ff,ff,ff,ff,ff,ff,ff] rfl rfl (any_of HT_.out (by kernel_rfl)) (fun _ _ _ h => h) (Or.inl ⟨by rfl,?_⟩) ?_ ?_
                       rotate_left
                       ·intro w'
                        go_simp
                        with_reducible rfl
                       rotate_left
                       ·simp only [Act.put,List.setIfInBounds_toArray,List.set_cons_zero,List.set_cons_succ,i64_w,i32_w]
                        rfl
                       refine pure_ (i := 42) (N := some 132) (v := ?_) (a' := ?_) #[tt,tt,tt,tt,tt,tt,tt,tt,tt,tt,tt,tt,tt,tt,tt,tt,tt,tt,tt,tt,tt,tt,tt,tt,tt,tt,tt,tt,tt,tt,tt,tt,tt,tt,tt,tt,tt,tt,tt,tt,tt,tt,tt,ff,ff,ff,ff,ff,ff,ff,ff,ff,ff,ff,ff,ff,ff,ff,ff,ff,ff,ff,ff,ff,ff,ff,ff,ff,ff,ff,ff,ff,ff,ff,ff,ff,ff,ff,ff,ff,ff,ff,ff,ff,ff,ff,ff,ff,ff,ff,ff,ff,ff,ff,ff,ff,ff] rfl rfl (any_of HT_.out (by kernel_rfl)) (fun _ _ _ h => h) (Or.inl ⟨by rfl,?_⟩) ?_ ?_
                       rotate_left
                       ·intro w'
                        go_simp
                        with_reducible rfl
                       rotate_left
                       ·simp only [Act.put,List.setIfInBounds_toArray,List.set_cons_zero,List.set_cons_succ,i64_w,i32_w]
                        rfl
                       refine pure_ (i := 43) (N := some 133) (v := ?_) (a' := ?_) #[tt,tt,tt,tt,tt,tt,tt,tt,tt,tt,tt,tt,tt,tt,tt,tt,tt,tt,tt,tt,tt,tt,tt,tt,tt,tt,tt,tt,tt,tt,tt,tt,tt,tt,tt,tt,tt,tt,tt,tt,tt,tt,tt,tt,ff,ff,ff,ff,ff,ff,ff,ff,ff,ff,ff,ff,ff,ff,ff,ff,ff,ff,ff,ff,ff,ff,ff,ff,ff,ff,ff,ff,ff,ff,ff,ff,ff,ff,ff,ff,ff,ff,ff,ff,ff,ff,ff,ff,ff,ff,ff,ff,ff,ff,ff,ff,ff] rfl rfl (any_of HT_.out (by kernel_rfl)) (fun _ _ _ h => h) (Or.inl ⟨by rfl,?_⟩) ?_ ?_
                       rotate_left
                       ·intro w'
                        go_simp
                        with_reducible rfl
                       rotate_left
                       ·simp only [Act.put,List.setIfInBounds_toArray,List.set_cons_zero,List.set_cons_succ,i64_w,i32_w]
                        rfl
                       refine pure_ (i := 44) (N := some 134) (v := ?_) (a' := ?_) #[tt,tt,tt,tt,tt,tt,tt,tt,tt,tt,tt,tt,tt,tt,tt,tt,tt,tt,tt,tt,tt,tt,tt,tt,tt,tt,tt,tt,tt,tt,tt,tt,tt,tt,tt,tt,tt,tt,tt,tt,tt,tt,tt,tt,tt,ff,ff,ff,ff,ff,ff,ff,ff,ff,ff,ff,ff,ff,ff,ff,ff,ff,ff,ff,ff,ff,ff,ff,ff,ff,ff,ff,ff,ff,ff,ff,ff,ff,ff,ff,ff,ff,ff,ff,ff,ff,ff,ff,ff,ff,ff,ff,ff,ff,ff,ff,ff] rfl rfl (any_of HT_.out (by kernel_rfl)) (fun _ _ _ h => h) (Or.inl ⟨by rfl,?_⟩) ?_ ?_
                       rotate_left
                       ·intro w'
                        go_simp
                        with_reducible rfl
                       rotate_left
                       ·simp only [Act.put,List.setIfInBounds_toArray,List.set_cons_zero,List.set_cons_succ,i64_w,i32_w]
                        rfl
                       refine pure_ (i := 45) (N := some 135) (v := ?_) (a' := ?_) #[tt,tt,tt,tt,tt,tt,tt,tt,tt,tt,tt,tt,tt,tt,tt,tt,tt,tt,tt,tt,tt,tt,tt,tt,tt,tt,tt,tt,tt,tt,tt,tt,tt,tt,tt,tt,tt,tt,tt,tt,tt,tt,tt,tt,tt,tt,ff,ff,ff,ff,ff,ff,ff,ff,ff,ff,ff,ff,ff,ff,ff,ff,ff,ff,ff,ff,ff,ff,ff,ff,ff,ff,ff,ff,ff,ff,ff,ff,ff,ff,ff,ff,ff,ff,ff,ff,ff,ff,ff,ff,ff,ff,ff,ff,ff,ff,ff] rfl rfl (any_of HT_.out (by kernel_rfl)) (fun _ _ _ h => h) (Or.inl ⟨by rfl,?_⟩) ?_ ?_
                       rotate_left
                       ·intro w'
                        go_simp
                        with_reducible rfl
                       rotate_left
                       ·simp only [Act.put,List.setIfInBounds_toArray,List.set_cons_zero,List.set_cons_succ,i64_w,i32_w]
                        rfl
                       refine pure_ (i := 46) (N := some 136) (v := ?_) (a' := ?_) #[tt,tt,tt,tt,tt,tt,tt,tt,tt,tt,tt,tt,tt,tt,tt,tt,tt,tt,tt,tt,tt,tt,tt,tt,tt,tt,tt,tt,tt,tt,tt,tt,tt,tt,tt,tt,tt,tt,tt,tt,tt,tt,tt,tt,tt,tt,tt,ff,ff,ff,ff,ff,ff,ff,ff,ff,ff,ff,ff,ff,ff,ff,ff,ff,ff,ff,ff,ff,ff,ff,ff,ff,ff,ff,ff,ff,ff,ff,ff,ff,ff,ff,ff,ff,ff,ff,ff,ff,ff,ff,ff,ff,ff,ff,ff,ff,ff] rfl rfl (any_of HT_.out (by kernel_rfl)) (fun _ _ _ h => h) (Or.inl ⟨by rfl,?_⟩) ?_ ?_
                       rotate_left
                       ·intro w'
                        go_simp
                        with_reducible rfl
                       rotate_left
                       ·simp only [Act.put,List.setIfInBounds_toArray,List.set_cons_zero,List.set_cons_succ,i64_w,i32_w]
                        rfl
                       refine take_ (i := 47) (N := some 137) (v := ?_) (a' := ?_) #[tt,tt,tt,tt,tt,tt,tt,tt,tt,tt,tt,tt,tt,tt,tt,tt,tt,tt,tt,tt,tt,tt,tt,tt,tt,tt,tt,tt,tt,tt,tt,tt,tt,tt,tt,tt,tt,tt,tt,tt,tt,tt,tt,tt,tt,tt,tt,tt,ff,ff,ff,ff,ff,ff,ff,ff,ff,ff,ff,ff,ff,ff,ff,ff,ff,ff,ff,ff,ff,ff,ff,ff,ff,ff,ff,ff,ff,ff,ff,ff,ff,ff,ff,ff,ff,ff,ff,ff,ff,ff,ff,ff,ff,ff,ff,ff,ff] rfl rfl (take_ofW HT_.out HW_.out (by kernel_rfl)) (fun _ _ _ h => h) (Or.inl ⟨by rfl,?_⟩) hHeld ?_ ?_
                       rotate_left
                       ·rintro w' ⟨s0,s1,s2,s3,s4,s5,s6,s7,s8,s9,s10,s11,s12,s13,s14,s15,s16,s17,s18,s19,s20,s21,s22,s23,s24,s25,s26,s27,s28,s29,s30,s31,s32,s33,s34⟩
                        go_simp
                        with_reducible rfl
                       rotate_left
                       ·simp only [Act.put,List.setIfInBounds_toArray,List.set_cons_zero,List.set_cons_succ,i64_w,i32_w]
                        rfl
                       refine one_ (i := 48) (N := some 138) #[tt,tt,tt,tt,tt,tt,tt,tt,tt,tt,tt,tt,tt,tt,tt,tt,tt,tt,tt,tt,tt,tt,tt,tt,tt,tt,tt,tt,tt,tt,tt,tt,tt,tt,tt,tt,tt,tt,tt,tt,tt,tt,tt,tt,tt,tt,tt,tt,tt,ff,ff,ff,ff,ff,ff,ff,ff,ff,ff,ff,ff,ff,ff,ff,ff,ff,ff,ff,ff,ff,ff,ff,ff,ff,ff,ff,ff,ff,ff,ff,ff,ff,ff,ff,ff,ff,ff,ff,ff,ff,ff,ff,ff,ff,ff,ff,ff] rfl rfl (one_of HT_.out (by kernel_rfl)) (by decide) (fun K hK => ?_)
                       refine goes_ Tryz.func14 (by kernel_rfl) rfl #[.int .i64 1,.int .i64 0,.int .i64 0,.int .i64 0,.int .i64 0] (by rfl) rfl rfl (by (try simp only [List.map_toArray,List.map_cons,List.map_nil]); first | done | rfl | (simp only [List.length_drop,List.length_take]; rfl)) ?_
                       with_reducible refine (spoondriftlaw01_num.calls 1 0 0 0 0 t251 t252 t253 t254 t255 _ A42.out).mono ?_
                       rintro e w134 ⟨rfl,hb⟩
                       refine ⟨_,rfl,?_⟩
                       have n0_ := Aside0.mk (blk_below (g := gb113) (o := .cells #[.int .i64 t107,.int .i64 t108,.int .i64 t109,.int .i64 t110,.int .i64 t111] 23 (0,0)) (by (with_reducible repeat (first|refine bD ?_ _|refine bE ?_|refine bA ?_ _)); exact BK113.out) hb)
                       have n1_ := Aside0.mk (blk_below (g := gb125) (o := .cells #[.int .i64 t119,.int .i64 t120,.int .i64 t121,.int .i64 t122,.int .i64 t123] 23 (0,0)) (by (with_reducible repeat (first|refine bD ?_ _|refine bE ?_|refine bA ?_ _)); exact BK125.out) hb)
                       have n2_ := Aside0.mk (blk_below (g := gb142) (o := .cells #[.int .i64 t136,.int .i64 t137,.int .i64 t138,.int .i64 t139,.int .i64 t140] 23 (0,0)) (by (with_reducible repeat (first|refine bD ?_ _|refine bE ?_|refine bA ?_ _)); exact BK142.out) hb)
                       have n3_ := Aside0.mk (blk_below (g := gb154) (o := .cells #[.int .i64 t148,.int .i64 t149,.int .i64 t150,.int .i64 t151,.int .i64 t152] 23 (0,0)) (by (with_reducible repeat (first|refine bD ?_ _|refine bE ?_|refine bA ?_ _)); exact BK154.out) hb)
                       have n4_ := Aside0.mk (blk_below (g := gb166) (o := .cells #[.int .i64 t160,.int .i64 t161,.int .i64 t162,.int .i64 t163,.int .i64 t164] 23 (0,0)) (by (with_reducible repeat (first|refine bD ?_ _|refine bE ?_|refine bA ?_ _)); exact BK166.out) hb)
                       have n5_ := Aside0.mk (blk_below (g := gb207) (o := .cells #[.int .i64 t201,.int .i64 t202,.int .i64 t203,.int .i64 t204,.int .i64 t205] 23 (0,0)) (by (with_reducible repeat (first|refine bD ?_ _|refine bE ?_|refine bA ?_ _)); exact BK207.out) hb)
                       have n6_ := Aside0.mk (blk_below (g := gb224) (o := .cells #[.int .i64 t218,.int .i64 t219,.int .i64 t220,.int .i64 t221,.int .i64 t222] 23 (0,0)) (by (with_reducible repeat (first|refine bD ?_ _|refine bE ?_|refine bA ?_ _)); exact BK224.out) hb)
                       have n7_ := Aside0.mk (blk_below (g := gb250) (o := .cells #[.int .i64 t244,.int .i64 t245,.int .i64 t246,.int .i64 t247,.int .i64 t248] 23 (0,0)) (by (with_reducible repeat (first|refine bD ?_ _|refine bE ?_|refine bA ?_ _)); exact BK250.out) hb)
                       have n8_ := Aside0.mk (below_step (by repeat (first | (with_reducible first | exact HB.out | apply below_alloc | apply pw_below_drewN | apply below_drew1 | refine below_set ?_ GE113.out | refine below_set ?_ GE125.out | refine below_set ?_ GE142.out | refine below_set ?_ GE154.out | refine below_set ?_ GE166.out | refine below_set ?_ GE207.out | refine below_set ?_ GE224.out | refine below_set ?_ GE250.out) | exact HB.out)) hb)
                       clear BK113
                       clear BK125
                       clear BK142
                       clear BK154
                       clear BK166
                       clear BK207
                       clear BK224
                       clear BK250
                       clear HB
                       have BK113 := n0_
                       have BK125 := n1_
                       have BK142 := n2_
                       have BK154 := n3_
                       have BK166 := n4_
                       have BK207 := n5_
                       have BK224 := n6_
                       have BK250 := n7_
                       have HB := n8_
                       clear n0_ n1_ n2_ n3_ n4_ n5_ n6_ n7_ n8_
                       (try clear hb)
                       (try clear hb2)
                       (try clear hk)
                       (try clear hi)
                       refine hK.out _ _ ⟨(blk_cell BK113.out 0).trans rfl,(blk_cell BK113.out 1).trans rfl,(blk_cell BK113.out 2).trans rfl,(blk_cell BK113.out 3).trans rfl,(blk_cell BK113.out 4).trans rfl,(blk_cell BK125.out 0).trans rfl,(blk_cell BK125.out 1).trans rfl,(blk_cell BK125.out 2).trans rfl,(blk_cell BK125.out 3).trans rfl,(blk_cell BK125.out 4).trans rfl,(blk_cell BK142.out 0).trans rfl,(blk_cell BK142.out 1).trans rfl,(blk_cell BK142.out 2).trans rfl,(blk_cell BK142.out 3).trans rfl,(blk_cell BK142.out 4).trans rfl,(blk_cell BK154.out 0).trans rfl,(blk_cell BK154.out 1).trans rfl,(blk_cell BK154.out 2).trans rfl,(blk_cell BK154.out 3).trans rfl,(blk_cell BK154.out 4).trans rfl,(blk_cell BK166.out 0).trans rfl,(blk_cell BK166.out 1).trans rfl,(blk_cell BK166.out 2).trans rfl,(blk_cell BK166.out 3).trans rfl,(blk_cell BK166.out 4).trans rfl,(blk_cell BK207.out 0).trans rfl,(blk_cell BK207.out 1).trans rfl,(blk_cell BK207.out 2).trans rfl,(blk_cell BK207.out 3).trans rfl,(blk_cell BK207.out 4).trans rfl,(blk_cell BK250.out 0).trans rfl,(blk_cell BK250.out 1).trans rfl,(blk_cell BK250.out 2).trans rfl,(blk_cell BK250.out 3).trans rfl,(blk_cell BK250.out 4).trans rfl⟩ (fun hHeld => ?_)
                       clear hK K
                       refine norm_ (a' := ?_) ?_ ?_
                       rotate_left
                       ·show Act.put _ (some 138) _ = _
                        simp only [Act.put,List.setIfInBounds_toArray,List.set_cons_zero,List.set_cons_succ,i64_w,i32_w]
                        rfl
                       refine pure_ (i := 49) (N := some 139) (v := ?_) (a' := ?_) #[tt,tt,tt,tt,tt,tt,tt,tt,tt,tt,tt,tt,tt,tt,tt,tt,tt,tt,tt,tt,tt,tt,tt,tt,tt,tt,tt,tt,tt,tt,tt,tt,tt,tt,tt,tt,tt,tt,tt,tt,tt,tt,tt,tt,tt,tt,tt,tt,tt,tt,ff,ff,ff,ff,ff,ff,ff,ff,ff,ff,ff,ff,ff,ff,ff,ff,ff,ff,ff,ff,ff,ff,ff,ff,ff,ff,ff,ff,ff,ff,ff,ff,ff,ff,ff,ff,ff,ff,ff,ff,ff,ff,ff,ff,ff,ff,ff] rfl rfl (any_of HT_.out (by kernel_rfl)) (fun _ _ _ h => h) (Or.inl ⟨by rfl,?_⟩) ?_ ?_
                       rotate_left
                       ·intro w'
                        go_simp
                        with_reducible rfl
                       rotate_left
                       ·simp only [Act.put,List.setIfInBounds_toArray,List.set_cons_zero,List.set_cons_succ,i64_w,i32_w]
                        rfl
                       refine pure_ (i := 50) (N := some 140) (v := ?_) (a' := ?_) #[tt,tt,tt,tt,tt,tt,tt,tt,tt,tt,tt,tt,tt,tt,tt,tt,tt,tt,tt,tt,tt,tt,tt,tt,tt,tt,tt,tt,tt,tt,tt,tt,tt,tt,tt,tt,tt,tt,tt,tt,tt,tt,tt,tt,tt,tt,tt,tt,tt,tt,tt,ff,ff,ff,ff,ff,ff,ff,ff,ff,ff,ff,ff,ff,ff,ff,ff,ff,ff,ff,ff,ff,ff,ff,ff,ff,ff,ff,ff,ff,ff,ff,ff,ff,ff,ff,ff,ff,ff,ff,ff,ff,ff,ff,ff,ff,ff] rfl rfl (any_of HT_.out (by kernel_rfl)) (fun _ _ _ h => h) (Or.inl ⟨by rfl,?_⟩) ?_ ?_
                       rotate_left
                       ·intro w'
                        go_simp
                        with_reducible rfl
                       rotate_left
                       ·simp only [Act.put,List.setIfInBounds_toArray,List.set_cons_zero,List.set_cons_succ,i64_w,i32_w]
                        rfl
                       refine pure_ (i := 51) (N := some 141) (v := ?_) (a' := ?_) #[tt,tt,tt,tt,tt,tt,tt,tt,tt,tt,tt,tt,tt,tt,tt,tt,tt,tt,tt,tt,tt,tt,tt,tt,tt,tt,tt,tt,tt,tt,tt,tt,tt,tt,tt,tt,tt,tt,tt,tt,tt,tt,tt,tt,tt,tt,tt,tt,tt,tt,tt,tt,ff,ff,ff,ff,ff,ff,ff,ff,ff,ff,ff,ff,ff,ff,ff,ff,ff,ff,ff,ff,ff,ff,ff,ff,ff,ff,ff,ff,ff,ff,ff,ff,ff,ff,ff,ff,ff,ff,ff,ff,ff,ff,ff,ff,ff] rfl rfl (any_of HT_.out (by kernel_rfl)) (fun _ _ _ h => h) (Or.inl ⟨by rfl,?_⟩) ?_ ?_
                       rotate_left
                       ·intro w'
                        go_simp
                        with_reducible rfl
                       rotate_left
                       ·simp only [Act.put,List.setIfInBounds_toArray,List.set_cons_zero,List.set_cons_succ,i64_w,i32_w]
                        rfl
                       refine take_ (i := 52) (N := some 142) (v := ?_) (a' := ?_) #[tt,tt,tt,tt,tt,tt,tt,tt,tt,tt,tt,tt,tt,tt,tt,tt,tt,tt,tt,tt,tt,tt,tt,tt,tt,tt,tt,tt,tt,tt,tt,tt,tt,tt,tt,tt,tt,tt,tt,tt,tt,tt,tt,tt,tt,tt,tt,tt,tt,tt,tt,tt,tt,ff,ff,ff,ff,ff,ff,ff,ff,ff,ff,ff,ff,ff,ff,ff,ff,ff,ff,ff,ff,ff,ff,ff,ff,ff,ff,ff,ff,ff,ff,ff,ff,ff,ff,ff,ff,ff,ff,ff,ff,ff,ff,ff,ff] rfl rfl (take_ofW HT_.out HW_.out (by kernel_rfl)) (fun _ _ _ h => h) (Or.inl ⟨by rfl,?_⟩) hHeld ?_ ?_
                       rotate_left
                       ·rintro w' ⟨s0,s1,s2,s3,s4,s5,s6,s7,s8,s9,s10,s11,s12,s13,s14,s15,s16,s17,s18,s19,s20,s21,s22,s23,s24,s25,s26,s27,s28,s29,s30,s31,s32,s33,s34⟩
                        go_simp
                        with_reducible rfl
                       rotate_left
                       ·simp only [Act.put,List.setIfInBounds_toArray,List.set_cons_zero,List.set_cons_succ,i64_w,i32_w]
                        rfl
                       refine one_ (i := 53) (N := some 143) #[tt,tt,tt,tt,tt,tt,tt,tt,tt,tt,tt,tt,tt,tt,tt,tt,tt,tt,tt,tt,tt,tt,tt,tt,tt,tt,tt,tt,tt,tt,tt,tt,tt,tt,tt,tt,tt,tt,tt,tt,tt,tt,tt,tt,tt,tt,tt,tt,tt,tt,tt,tt,tt,tt,ff,ff,ff,ff,ff,ff,ff,ff,ff,ff,ff,ff,ff,ff,ff,ff,ff,ff,ff,ff,ff,ff,ff,ff,ff,ff,ff,ff,ff,ff,ff,ff,ff,ff,ff,ff,ff,ff,ff,ff,ff,ff,ff] rfl rfl (one_of HT_.out (by kernel_rfl)) (by decide) (fun K hK => ?_)
                       refine goes_ Tryz.func14 (by kernel_rfl) rfl #[.int .i64 0,.int .i64 1,.int .i64 0,.int .i64 0,.int .i64 0] (by rfl) rfl rfl (by (try simp only [List.map_toArray,List.map_cons,List.map_nil]); first | done | rfl | (simp only [List.length_drop,List.length_take]; rfl)) ?_
                       with_reducible refine (spoondriftlaw01_num.calls 0 1 0 0 0 t256 t257 t258 t259 t260 _ A44.out).mono ?_
                       rintro e w135 ⟨rfl,hb⟩
                       refine ⟨_,rfl,?_⟩
                       have n0_ := Aside0.mk (blk_below (g := gb113) (o := .cells #[.int .i64 t107,.int .i64 t108,.int .i64 t109,.int .i64 t110,.int .i64 t111] 23 (0,0)) (by (with_reducible repeat (first|refine bD ?_ _|refine bE ?_|refine bA ?_ _)); exact BK113.out) hb)
                       have n1_ := Aside0.mk (blk_below (g := gb125) (o := .cells #[.int .i64 t119,.int .i64 t120,.int .i64 t121,.int .i64 t122,.int .i64 t123] 23 (0,0)) (by (with_reducible repeat (first|refine bD ?_ _|refine bE ?_|refine bA ?_ _)); exact BK125.out) hb)
                       have n2_ := Aside0.mk (blk_below (g := gb142) (o := .cells #[.int .i64 t136,.int .i64 t137,.int .i64 t138,.int .i64 t139,.int .i64 t140] 23 (0,0)) (by (with_reducible repeat (first|refine bD ?_ _|refine bE ?_|refine bA ?_ _)); exact BK142.out) hb)
                       have n3_ := Aside0.mk (blk_below (g := gb154) (o := .cells #[.int .i64 t148,.int .i64 t149,.int .i64 t150,.int .i64 t151,.int .i64 t152] 23 (0,0)) (by (with_reducible repeat (first|refine bD ?_ _|refine bE ?_|refine bA ?_ _)); exact BK154.out) hb)
                       have n4_ := Aside0.mk (blk_below (g := gb166) (o := .cells #[.int .i64 t160,.int .i64 t161,.int .i64 t162,.int .i64 t163,.int .i64 t164] 23 (0,0)) (by (with_reducible repeat (first|refine bD ?_ _|refine bE ?_|refine bA ?_ _)); exact BK166.out) hb)
                       have n5_ := Aside0.mk (blk_below (g := gb207) (o := .cells #[.int .i64 t201,.int .i64 t202,.int .i64 t203,.int .i64 t204,.int .i64 t205] 23 (0,0)) (by (with_reducible repeat (first|refine bD ?_ _|refine bE ?_|refine bA ?_ _)); exact BK207.out) hb)
                       have n6_ := Aside0.mk (blk_below (g := gb224) (o := .cells #[.int .i64 t218,.int .i64 t219,.int .i64 t220,.int .i64 t221,.int .i64 t222] 23 (0,0)) (by (with_reducible repeat (first|refine bD ?_ _|refine bE ?_|refine bA ?_ _)); exact BK224.out) hb)
                       have n7_ := Aside0.mk (blk_below (g := gb250) (o := .cells #[.int .i64 t244,.int .i64 t245,.int .i64 t246,.int .i64 t247,.int .i64 t248] 23 (0,0)) (by (with_reducible repeat (first|refine bD ?_ _|refine bE ?_|refine bA ?_ _)); exact BK250.out) hb)
                       have n8_ := Aside0.mk (below_step (by repeat (first | (with_reducible first | exact HB.out | apply below_alloc | apply pw_below_drewN | apply below_drew1 | refine below_set ?_ GE113.out | refine below_set ?_ GE125.out | refine below_set ?_ GE142.out | refine below_set ?_ GE154.out | refine below_set ?_ GE166.out | refine below_set ?_ GE207.out | refine below_set ?_ GE224.out | refine below_set ?_ GE250.out) | exact HB.out)) hb)
                       clear BK113
                       clear BK125
                       clear BK142
                       clear BK154
                       clear BK166
                       clear BK207
                       clear BK224
                       clear BK250
                       clear HB
                       have BK113 := n0_
                       have BK125 := n1_
                       have BK142 := n2_
                       have BK154 := n3_
                       have BK166 := n4_
                       have BK207 := n5_
                       have BK224 := n6_
                       have BK250 := n7_
                       have HB := n8_
                       clear n0_ n1_ n2_ n3_ n4_ n5_ n6_ n7_ n8_
                       (try clear hb)
                       (try clear hb2)
                       (try clear hk)
                       (try clear hi)
                       refine hK.out _ _ ⟨(blk_cell BK113.out 0).trans rfl,(blk_cell BK113.out 1).trans rfl,(blk_cell BK113.out 2).trans rfl,(blk_cell BK113.out 3).trans rfl,(blk_cell BK113.out 4).trans rfl,(blk_cell BK125.out 0).trans rfl,(blk_cell BK125.out 1).trans rfl,(blk_cell BK125.out 2).trans rfl,(blk_cell BK125.out 3).trans rfl,(blk_cell BK125.out 4).trans rfl,(blk_cell BK142.out 0).trans rfl,(blk_cell BK142.out 1).trans rfl,(blk_cell BK142.out 2).trans rfl,(blk_cell BK142.out 3).trans rfl,(blk_cell BK142.out 4).trans rfl,(blk_cell BK154.out 0).trans rfl,(blk_cell BK154.out 1).trans rfl,(blk_cell BK154.out 2).trans rfl,(blk_cell BK154.out 3).trans rfl,(blk_cell BK154.out 4).trans rfl,(blk_cell BK166.out 0).trans rfl,(blk_cell BK166.out 1).trans rfl,(blk_cell BK166.out 2).trans rfl,(blk_cell BK166.out 3).trans rfl,(blk_cell BK166.out 4).trans rfl,(blk_cell BK207.out 0).trans rfl,(blk_cell BK207.out 1).trans rfl,(blk_cell BK207.out 2).trans rfl,(blk_cell BK207.out 3).trans rfl,(blk_cell BK207.out 4).trans rfl,(blk_cell BK250.out 0).trans rfl,(blk_cell BK250.out 1).trans rfl,(blk_cell BK250.out 2).trans rfl,(blk_cell BK250.out 3).trans rfl,(blk_cell BK250.out 4).trans rfl⟩ (fun hHeld => ?_)
                       clear hK K
                       refine norm_ (a' := ?_) ?_ ?_
                       rotate_left
                       ·show Act.put _ (some 143) _ = _
                        simp only [Act.put,List.setIfInBounds_toArray,List.set_cons_zero,List.set_cons_succ,i64_w,i32_w]
                        rfl
                       refine pure_ (i := 54) (N := some 144) (v := ?_) (a' := ?_) #[tt,tt,tt,tt,tt,tt,tt,tt,tt,tt,tt,tt,tt,tt,tt,tt,tt,tt,tt,tt,tt,tt,tt,tt,tt,tt,tt,tt,tt,tt,tt,tt,tt,tt,tt,tt,tt,tt,tt,tt,tt,tt,tt,tt,tt,tt,tt,tt,tt,tt,tt,tt,tt,tt,tt,ff,ff,ff,ff,ff,ff,ff,ff,ff,ff,ff,ff,ff,ff,ff,ff,ff,ff,ff,ff,ff,ff,ff,ff,ff,ff,ff,ff,ff,ff,ff,ff,ff,ff,ff,ff,ff,ff,ff,ff,ff,ff] rfl rfl (any_of HT_.out (by kernel_rfl)) (fun _ _ _ h => h) (Or.inl ⟨by rfl,?_⟩) ?_ ?_
                       rotate_left
                       ·intro w'
                        go_simp
                        with_reducible rfl
                       rotate_left
                       ·simp only [Act.put,List.setIfInBounds_toArray,List.set_cons_zero,List.set_cons_succ,i64_w,i32_w]
                        rfl
                       refine pure_ (i := 55) (N := some 145) (v := ?_) (a' := ?_) #[tt,tt,tt,tt,tt,tt,tt,tt,tt,tt,tt,tt,tt,tt,tt,tt,tt,tt,tt,tt,tt,tt,tt,tt,tt,tt,tt,tt,tt,tt,tt,tt,tt,tt,tt,tt,tt,tt,tt,tt,tt,tt,tt,tt,tt,tt,tt,tt,tt,tt,tt,tt,tt,tt,tt,tt,ff,ff,ff,ff,ff,ff,ff,ff,ff,ff,ff,ff,ff,ff,ff,ff,ff,ff,ff,ff,ff,ff,ff,ff,ff,ff,ff,ff,ff,ff,ff,ff,ff,ff,ff,ff,ff,ff,ff,ff,ff] rfl rfl (any_of HT_.out (by kernel_rfl)) (fun _ _ _ h => h) (Or.inl ⟨by rfl,?_⟩) ?_ ?_
                       rotate_left
                       ·intro w'
                        go_simp
                        with_reducible rfl
                       rotate_left
                       ·simp only [Act.put,List.setIfInBounds_toArray,List.set_cons_zero,List.set_cons_succ,i64_w,i32_w]
                        rfl
                       refine pure_ (i := 56) (N := some 146) (v := ?_) (a' := ?_) #[tt,tt,tt,tt,tt,tt,tt,tt,tt,tt,tt,tt,tt,tt,tt,tt,tt,tt,tt,tt,tt,tt,tt,tt,tt,tt,tt,tt,tt,tt,tt,tt,tt,tt,tt,tt,tt,tt,tt,tt,tt,tt,tt,tt,tt,tt,tt,tt,tt,tt,tt,tt,tt,tt,tt,tt,tt,ff,ff,ff,ff,ff,ff,ff,ff,ff,ff,ff,ff,ff,ff,ff,ff,ff,ff,ff,ff,ff,ff,ff,ff,ff,ff,ff,ff,ff,ff,ff,ff,ff,ff,ff,ff,ff,ff,ff,ff] rfl rfl (any_of HT_.out (by kernel_rfl)) (fun _ _ _ h => h) (Or.inl ⟨by rfl,?_⟩) ?_ ?_
                       rotate_left
                       ·intro w'
                        go_simp
                        with_reducible rfl
                       rotate_left
                       ·simp only [Act.put,List.setIfInBounds_toArray,List.set_cons_zero,List.set_cons_succ,i64_w,i32_w]
                        rfl
                       refine take_ (i := 57) (N := some 147) (v := ?_) (a' := ?_) #[tt,tt,tt,tt,tt,tt,tt,tt,tt,tt,tt,tt,tt,tt,tt,tt,tt,tt,tt,tt,tt,tt,tt,tt,tt,tt,tt,tt,tt,tt,tt,tt,tt,tt,tt,tt,tt,tt,tt,tt,tt,tt,tt,tt,tt,tt,tt,tt,tt,tt,tt,tt,tt,tt,tt,tt,tt,tt,ff,ff,ff,ff,ff,ff,ff,ff,ff,ff,ff,ff,ff,ff,ff,ff,ff,ff,ff,ff,ff,ff,ff,ff,ff,ff,ff,ff,ff,ff,ff,ff,ff,ff,ff,ff,ff,ff,ff] rfl rfl (take_ofW HT_.out HW_.out (by kernel_rfl)) (fun _ _ _ h => h) (Or.inl ⟨by rfl,?_⟩) hHeld ?_ ?_
                       rotate_left
                       ·rintro w' ⟨s0,s1,s2,s3,s4,s5,s6,s7,s8,s9,s10,s11,s12,s13,s14,s15,s16,s17,s18,s19,s20,s21,s22,s23,s24,s25,s26,s27,s28,s29,s30,s31,s32,s33,s34⟩
                        go_simp
                        with_reducible rfl
                       rotate_left
                       ·simp only [Act.put,List.setIfInBounds_toArray,List.set_cons_zero,List.set_cons_succ,i64_w,i32_w]
                        rfl
                       refine one_ (i := 58) (N := some 148) #[tt,tt,tt,tt,tt,tt,tt,tt,tt,tt,tt,tt,tt,tt,tt,tt,tt,tt,tt,tt,tt,tt,tt,tt,tt,tt,tt,tt,tt,tt,tt,tt,tt,tt,tt,tt,tt,tt,tt,tt,tt,tt,tt,tt,tt,tt,tt,tt,tt,tt,tt,tt,tt,tt,tt,tt,tt,tt,tt,ff,ff,ff,ff,ff,ff,ff,ff,ff,ff,ff,ff,ff,ff,ff,ff,ff,ff,ff,ff,ff,ff,ff,ff,ff,ff,ff,ff,ff,ff,ff,ff,ff,ff,ff,ff,ff,ff] rfl rfl (one_of HT_.out (by kernel_rfl)) (by decide) (fun K hK => ?_)
                       refine goes_ Tryz.func14 (by kernel_rfl) rfl #[.int .i64 1,.int .i64 0,.int .i64 0,.int .i64 0,.int .i64 0] (by rfl) rfl rfl (by (try simp only [List.map_toArray,List.map_cons,List.map_nil]); first | done | rfl | (simp only [List.length_drop,List.length_take]; rfl)) ?_
                       with_reducible refine (spoondriftlaw01_num.calls 1 0 0 0 0 t261 t262 t263 t264 t265 _ A46.out).mono ?_
                       rintro e w136 ⟨rfl,hb⟩
                       refine ⟨_,rfl,?_⟩
                       have n0_ := Aside0.mk (blk_below (g := gb113) (o := .cells #[.int .i64 t107,.int .i64 t108,.int .i64 t109,.int .i64 t110,.int .i64 t111] 23 (0,0)) (by (with_reducible repeat (first|refine bD ?_ _|refine bE ?_|refine bA ?_ _)); exact BK113.out) hb)
                       have n1_ := Aside0.mk (blk_below (g := gb125) (o := .cells #[.int .i64 t119,.int .i64 t120,.int .i64 t121,.int .i64 t122,.int .i64 t123] 23 (0,0)) (by (with_reducible repeat (first|refine bD ?_ _|refine bE ?_|refine bA ?_ _)); exact BK125.out) hb)
                       have n2_ := Aside0.mk (blk_below (g := gb142) (o := .cells #[.int .i64 t136,.int .i64 t137,.int .i64 t138,.int .i64 t139,.int .i64 t140] 23 (0,0)) (by (with_reducible repeat (first|refine bD ?_ _|refine bE ?_|refine bA ?_ _)); exact BK142.out) hb)
                       have n3_ := Aside0.mk (blk_below (g := gb154) (o := .cells #[.int .i64 t148,.int .i64 t149,.int .i64 t150,.int .i64 t151,.int .i64 t152] 23 (0,0)) (by (with_reducible repeat (first|refine bD ?_ _|refine bE ?_|refine bA ?_ _)); exact BK154.out) hb)
                       have n4_ := Aside0.mk (blk_below (g := gb166) (o := .cells #[.int .i64 t160,.int .i64 t161,.int .i64 t162,.int .i64 t163,.int .i64 t164] 23 (0,0)) (by (with_reducible repeat (first|refine bD ?_ _|refine bE ?_|refine bA ?_ _)); exact BK166.out) hb)
                       have n5_ := Aside0.mk (blk_below (g := gb207) (o := .cells #[.int .i64 t201,.int .i64 t202,.int .i64 t203,.int .i64 t204,.int .i64 t205] 23 (0,0)) (by (with_reducible repeat (first|refine bD ?_ _|refine bE ?_|refine bA ?_ _)); exact BK207.out) hb)
                       have n6_ := Aside0.mk (blk_below (g := gb224) (o := .cells #[.int .i64 t218,.int .i64 t219,.int .i64 t220,.int .i64 t221,.int .i64 t222] 23 (0,0)) (by (with_reducible repeat (first|refine bD ?_ _|refine bE ?_|refine bA ?_ _)); exact BK224.out) hb)
                       have n7_ := Aside0.mk (blk_below (g := gb250) (o := .cells #[.int .i64 t244,.int .i64 t245,.int .i64 t246,.int .i64 t247,.int .i64 t248] 23 (0,0)) (by (with_reducible repeat (first|refine bD ?_ _|refine bE ?_|refine bA ?_ _)); exact BK250.out) hb)
                       have n8_ := Aside0.mk (below_step (by repeat (first | (with_reducible first | exact HB.out | apply below_alloc | apply pw_below_drewN | apply below_drew1 | refine below_set ?_ GE113.out | refine below_set ?_ GE125.out | refine below_set ?_ GE142.out | refine below_set ?_ GE154.out | refine below_set ?_ GE166.out | refine below_set ?_ GE207.out | refine below_set ?_ GE224.out | refine below_set ?_ GE250.out) | exact HB.out)) hb)
                       clear BK113
                       clear BK125
                       clear BK142
                       clear BK154
                       clear BK166
                       clear BK207
                       clear BK224
                       clear BK250
                       clear HB
                       have BK113 := n0_
                       have BK125 := n1_
                       have BK142 := n2_
                       have BK154 := n3_
                       have BK166 := n4_
                       have BK207 := n5_
                       have BK224 := n6_
                       have BK250 := n7_
                       have HB := n8_
                       clear n0_ n1_ n2_ n3_ n4_ n5_ n6_ n7_ n8_
                       (try clear hb)
                       (try clear hb2)
                       (try clear hk)
                       (try clear hi)
                       refine hK.out _ _ ⟨(blk_cell BK113.out 0).trans rfl,(blk_cell BK113.out 1).trans rfl,(blk_cell BK113.out 2).trans rfl,(blk_cell BK113.out 3).trans rfl,(blk_cell BK113.out 4).trans rfl,(blk_cell BK125.out 0).trans rfl,(blk_cell BK125.out 1).trans rfl,(blk_cell BK125.out 2).trans rfl,(blk_cell BK125.out 3).trans rfl,(blk_cell BK125.out 4).trans rfl,(blk_cell BK142.out 0).trans rfl,(blk_cell BK142.out 1).trans rfl,(blk_cell BK142.out 2).trans rfl,(blk_cell BK142.out 3).trans rfl,(blk_cell BK142.out 4).trans rfl,(blk_cell BK154.out 0).trans rfl,(blk_cell BK154.out 1).trans rfl,(blk_cell BK154.out 2).trans rfl,(blk_cell BK154.out 3).trans rfl,(blk_cell BK154.out 4).trans rfl,(blk_cell BK166.out 0).trans rfl,(blk_cell BK166.out 1).trans rfl,(blk_cell BK166.out 2).trans rfl,(blk_cell BK166.out 3).trans rfl,(blk_cell BK166.out 4).trans rfl,(blk_cell BK207.out 0).trans rfl,(blk_cell BK207.out 1).trans rfl,(blk_cell BK207.out 2).trans rfl,(blk_cell BK207.out 3).trans rfl,(blk_cell BK207.out 4).trans rfl,(blk_cell BK250.out 0).trans rfl,(blk_cell BK250.out 1).trans rfl,(blk_cell BK250.out 2).trans rfl,(blk_cell BK250.out 3).trans rfl,(blk_cell BK250.out 4).trans rfl⟩ (fun hHeld => ?_)
                       clear hK K
                       refine norm_ (a' := ?_) ?_ ?_
                       rotate_left
                       ·show Act.put _ (some 148) _ = _
                        simp only [Act.put,List.setIfInBounds_toArray,List.set_cons_zero,List.set_cons_succ,i64_w,i32_w]
                        rfl
                       refine pure_ (i := 59) (N := some 149) (v := ?_) (a' := ?_) #[tt,tt,tt,tt,tt,tt,tt,tt,tt,tt,tt,tt,tt,tt,tt,tt,tt,tt,tt,tt,tt,tt,tt,tt,tt,tt,tt,tt,tt,tt,tt,tt,tt,tt,tt,tt,tt,tt,tt,tt,tt,tt,tt,tt,tt,tt,tt,tt,tt,tt,tt,tt,tt,tt,tt,tt,tt,tt,tt,tt,ff,ff,ff,ff,ff,ff,ff,ff,ff,ff,ff,ff,ff,ff,ff,ff,ff,ff,ff,ff,ff,ff,ff,ff,ff,ff,ff,ff,ff,ff,ff,ff,ff,ff,ff,ff,ff] rfl rfl (any_of HT_.out (by kernel_rfl)) (fun _ _ _ h => h) (Or.inl ⟨by rfl,?_⟩) ?_ ?_
                       rotate_left
                       ·intro w'
                        go_simp
                        with_reducible rfl
                       rotate_left
                       ·simp only [Act.put,List.setIfInBounds_toArray,List.set_cons_zero,List.set_cons_succ,i64_w,i32_w]
                        rfl
                       refine pure_ (i := 60) (N := some 150) (v := ?_) (a' := ?_) #[tt,tt,tt,tt,tt,tt,tt,tt,tt,tt,tt,tt,tt,tt,tt,tt,tt,tt,tt,tt,tt,tt,tt,tt,tt,tt,tt,tt,tt,tt,tt,tt,tt,tt,tt,tt,tt,tt,tt,tt,tt,tt,tt,tt,tt,tt,tt,tt,tt,tt,tt,tt,tt,tt,tt,tt,tt,tt,tt,tt,tt,ff,ff,ff,ff,ff,ff,ff,ff,ff,ff,ff,ff,ff,ff,ff,ff,ff,ff,ff,ff,ff,ff,ff,ff,ff,ff,ff,ff,ff,ff,ff,ff,ff,ff,ff,ff] rfl rfl (any_of HT_.out (by kernel_rfl)) (fun _ _ _ h => h) (Or.inl ⟨by rfl,?_⟩) ?_ ?_
                       rotate_left
                       ·intro w'
                        go_simp
                        with_reducible rfl
                       rotate_left
                       ·simp only [Act.put,List.setIfInBounds_toArray,List.set_cons_zero,List.set_cons_succ,i64_w,i32_w]
                        rfl
                       refine pure_ (i := 61) (N := some 151) (v := ?_) (a' := ?_) #[tt,tt,tt,tt,tt,tt,tt,tt,tt,tt,tt,tt,tt,tt,tt,tt,tt,tt,tt,tt,tt,tt,tt,tt,tt,tt,tt,tt,tt,tt,tt,tt,tt,tt,tt,tt,tt,tt,tt,tt,tt,tt,tt,tt,tt,tt,tt,tt,tt,tt,tt,tt,tt,tt,tt,tt,tt,tt,tt,tt,tt,tt,ff,ff,ff,ff,ff,ff,ff,ff,ff,ff,ff,ff,ff,ff,ff,ff,ff,ff,ff,ff,ff,ff,ff,ff,ff,ff,ff,ff,ff,ff,ff,ff,ff,ff,ff] rfl rfl (any_of HT_.out (by kernel_rfl)) (fun _ _ _ h => h) (Or.inl ⟨by rfl,?_⟩) ?_ ?_
                       rotate_left
                       ·intro w'
                        go_simp
                        with_reducible rfl
                       rotate_left
                       ·simp only [Act.put,List.setIfInBounds_toArray,List.set_cons_zero,List.set_cons_succ,i64_w,i32_w]
                        rfl
                       refine take_ (i := 62) (N := some 152) (v := ?_) (a' := ?_) #[tt,tt,tt,tt,tt,tt,tt,tt,tt,tt,tt,tt,tt,tt,tt,tt,tt,tt,tt,tt,tt,tt,tt,tt,tt,tt,tt,tt,tt,tt,tt,tt,tt,tt,tt,tt,tt,tt,tt,tt,tt,tt,tt,tt,tt,tt,tt,tt,tt,tt,tt,tt,tt,tt,tt,tt,tt,tt,tt,tt,tt,tt,tt,ff,ff,ff,ff,ff,ff,ff,ff,ff,ff,ff,ff,ff,ff,ff,ff,ff,ff,ff,ff,ff,ff,ff,ff,ff,ff,ff,ff,ff,ff,ff,ff,ff,ff] rfl rfl (take_ofW HT_.out HW_.out (by kernel_rfl)) (fun _ _ _ h => h) (Or.inl ⟨by rfl,?_⟩) hHeld ?_ ?_
                       rotate_left
                       ·rintro w' ⟨s0,s1,s2,s3,s4,s5,s6,s7,s8,s9,s10,s11,s12,s13,s14,s15,s16,s17,s18,s19,s20,s21,s22,s23,s24,s25,s26,s27,s28,s29,s30,s31,s32,s33,s34⟩
                        go_simp
                        with_reducible rfl
                       rotate_left
                       ·simp only [Act.put,List.setIfInBounds_toArray,List.set_cons_zero,List.set_cons_succ,i64_w,i32_w]
                        rfl
                       refine one_ (i := 63) (N := some 153) #[tt,tt,tt,tt,tt,tt,tt,tt,tt,tt,tt,tt,tt,tt,tt,tt,tt,tt,tt,tt,tt,tt,tt,tt,tt,tt,tt,tt,tt,tt,tt,tt,tt,tt,tt,tt,tt,tt,tt,tt,tt,tt,tt,tt,tt,tt,tt,tt,tt,tt,tt,tt,tt,tt,tt,tt,tt,tt,tt,tt,tt,tt,tt,tt,ff,ff,ff,ff,ff,ff,ff,ff,ff,ff,ff,ff,ff,ff,ff,ff,ff,ff,ff,ff,ff,ff,ff,ff,ff,ff,ff,ff,ff,ff,ff,ff,ff] rfl rfl (one_of HT_.out (by kernel_rfl)) (by decide) (fun K hK => ?_)
                       refine goes_ Tryz.func14 (by kernel_rfl) rfl #[.int .i64 (-1),.int .i64 0,.int .i64 0,.int .i64 0,.int .i64 1] (by rfl) rfl rfl (by (try simp only [List.map_toArray,List.map_cons,List.map_nil]); first | done | rfl | (simp only [List.length_drop,List.length_take]; rfl)) ?_
                       with_reducible refine (spoondriftlaw01_num.calls (-1) 0 0 0 1 t266 t267 t268 t269 t270 _ A48.out).mono ?_
                       rintro e w137 ⟨rfl,hb⟩
                       refine ⟨_,rfl,?_⟩
                       have n0_ := Aside0.mk (blk_below (g := gb113) (o := .cells #[.int .i64 t107,.int .i64 t108,.int .i64 t109,.int .i64 t110,.int .i64 t111] 23 (0,0)) (by (with_reducible repeat (first|refine bD ?_ _|refine bE ?_|refine bA ?_ _)); exact BK113.out) hb)
                       have n1_ := Aside0.mk (blk_below (g := gb125) (o := .cells #[.int .i64 t119,.int .i64 t120,.int .i64 t121,.int .i64 t122,.int .i64 t123] 23 (0,0)) (by (with_reducible repeat (first|refine bD ?_ _|refine bE ?_|refine bA ?_ _)); exact BK125.out) hb)
                       have n2_ := Aside0.mk (blk_below (g := gb142) (o := .cells #[.int .i64 t136,.int .i64 t137,.int .i64 t138,.int .i64 t139,.int .i64 t140] 23 (0,0)) (by (with_reducible repeat (first|refine bD ?_ _|refine bE ?_|refine bA ?_ _)); exact BK142.out) hb)
                       have n3_ := Aside0.mk (blk_below (g := gb154) (o := .cells #[.int .i64 t148,.int .i64 t149,.int .i64 t150,.int .i64 t151,.int .i64 t152] 23 (0,0)) (by (with_reducible repeat (first|refine bD ?_ _|refine bE ?_|refine bA ?_ _)); exact BK154.out) hb)
                       have n4_ := Aside0.mk (blk_below (g := gb166) (o := .cells #[.int .i64 t160,.int .i64 t161,.int .i64 t162,.int .i64 t163,.int .i64 t164] 23 (0,0)) (by (with_reducible repeat (first|refine bD ?_ _|refine bE ?_|refine bA ?_ _)); exact BK166.out) hb)
                       have n5_ := Aside0.mk (blk_below (g := gb207) (o := .cells #[.int .i64 t201,.int .i64 t202,.int .i64 t203,.int .i64 t204,.int .i64 t205] 23 (0,0)) (by (with_reducible repeat (first|refine bD ?_ _|refine bE ?_|refine bA ?_ _)); exact BK207.out) hb)
                       have n6_ := Aside0.mk (blk_below (g := gb224) (o := .cells #[.int .i64 t218,.int .i64 t219,.int .i64 t220,.int .i64 t221,.int .i64 t222] 23 (0,0)) (by (with_reducible repeat (first|refine bD ?_ _|refine bE ?_|refine bA ?_ _)); exact BK224.out) hb)
                       have n7_ := Aside0.mk (blk_below (g := gb250) (o := .cells #[.int .i64 t244,.int .i64 t245,.int .i64 t246,.int .i64 t247,.int .i64 t248] 23 (0,0)) (by (with_reducible repeat (first|refine bD ?_ _|refine bE ?_|refine bA ?_ _)); exact BK250.out) hb)
                       have n8_ := Aside0.mk (below_step (by repeat (first | (with_reducible first | exact HB.out | apply below_alloc | apply pw_below_drewN | apply below_drew1 | refine below_set ?_ GE113.out | refine below_set ?_ GE125.out | refine below_set ?_ GE142.out | refine below_set ?_ GE154.out | refine below_set ?_ GE166.out | refine below_set ?_ GE207.out | refine below_set ?_ GE224.out | refine below_set ?_ GE250.out) | exact HB.out)) hb)
                       clear BK113
                       clear BK125
                       clear BK142
                       clear BK154
                       clear BK166
                       clear BK207
                       clear BK224
                       clear BK250
                       clear HB
                       have BK113 := n0_
                       have BK125 := n1_
                       have BK142 := n2_
                       have BK154 := n3_
                       have BK166 := n4_
                       have BK207 := n5_
                       have BK224 := n6_
                       have BK250 := n7_
                       have HB := n8_
                       clear n0_ n1_ n2_ n3_ n4_ n5_ n6_ n7_ n8_
                       (try clear hb)
                       (try clear hb2)
                       (try clear hk)
                       (try clear hi)
                       refine hK.out _ _ ⟨(blk_cell BK113.out 0).trans rfl,(blk_cell BK113.out 1).trans rfl,(blk_cell BK113.out 2).trans rfl,(blk_cell BK113.out 3).trans rfl,(blk_cell BK113.out 4).trans rfl,(blk_cell BK125.out 0).trans rfl,(blk_cell BK125.out 1).trans rfl,(blk_cell BK125.out 2).trans rfl,(blk_cell BK125.out 3).trans rfl,(blk_cell BK125.out 4).trans rfl,(blk_cell BK142.out 0).trans rfl,(blk_cell BK142.out 1).trans rfl,(blk_cell BK142.out 2).trans rfl,(blk_cell BK142.out 3).trans rfl,(blk_cell BK142.out 4).trans rfl,(blk_cell BK154.out 0).trans rfl,(blk_cell BK154.out 1).trans rfl,(blk_cell BK154.out 2).trans rfl,(blk_cell BK154.out 3).trans rfl,(blk_cell BK154.out 4).trans rfl,(blk_cell BK166.out 0).trans rfl,(blk_cell BK166.out 1).trans rfl,(blk_cell BK166.out 2).trans rfl,(blk_cell BK166.out 3).trans rfl,(blk_cell BK166.out 4).trans rfl,(blk_cell BK207.out 0).trans rfl,(blk_cell BK207.out 1).trans rfl,(blk_cell BK207.out 2).trans rfl,(blk_cell BK207.out 3).trans rfl,(blk_cell BK207.out 4).trans rfl,(blk_cell BK250.out 0).trans rfl,(blk_cell BK250.out 1).trans rfl,(blk_cell BK250.out 2).trans rfl,(blk_cell BK250.out 3).trans rfl,(blk_cell BK250.out 4).trans rfl⟩ (fun hHeld => ?_)
                       clear hK K
                       refine norm_ (a' := ?_) ?_ ?_
                       rotate_left
                       ·show Act.put _ (some 153) _ = _
                        simp only [Act.put,List.setIfInBounds_toArray,List.set_cons_zero,List.set_cons_succ,i64_w,i32_w]
                        rfl
                       refine pure_ (i := 64) (N := some 154) (v := ?_) (a' := ?_) #[tt,tt,tt,tt,tt,tt,tt,tt,tt,tt,tt,tt,tt,tt,tt,tt,tt,tt,tt,tt,tt,tt,tt,tt,tt,tt,tt,tt,tt,tt,tt,tt,tt,tt,tt,tt,tt,tt,tt,tt,tt,tt,tt,tt,tt,tt,tt,tt,tt,tt,tt,tt,tt,tt,tt,tt,tt,tt,tt,tt,tt,tt,tt,tt,tt,ff,ff,ff,ff,ff,ff,ff,ff,ff,ff,ff,ff,ff,ff,ff,ff,ff,ff,ff,ff,ff,ff,ff,ff,ff,ff,ff,ff,ff,ff,ff,ff] rfl rfl (any_of HT_.out (by kernel_rfl)) (fun _ _ _ h => h) (Or.inl ⟨by rfl,?_⟩) ?_ ?_
                       rotate_left
                       ·intro w'
                        go_simp
                        with_reducible rfl
                       rotate_left
                       ·simp only [Act.put,List.setIfInBounds_toArray,List.set_cons_zero,List.set_cons_succ,i64_w,i32_w]
                        rfl
                       refine pure_ (i := 65) (N := some 155) (v := ?_) (a' := ?_) #[tt,tt,tt,tt,tt,tt,tt,tt,tt,tt,tt,tt,tt,tt,tt,tt,tt,tt,tt,tt,tt,tt,tt,tt,tt,tt,tt,tt,tt,tt,tt,tt,tt,tt,tt,tt,tt,tt,tt,tt,tt,tt,tt,tt,tt,tt,tt,tt,tt,tt,tt,tt,tt,tt,tt,tt,tt,tt,tt,tt,tt,tt,tt,tt,tt,tt,ff,ff,ff,ff,ff,ff,ff,ff,ff,ff,ff,ff,ff,ff,ff,ff,ff,ff,ff,ff,ff,ff,ff,ff,ff,ff,ff,ff,ff,ff,ff] rfl rfl (any_of HT_.out (by kernel_rfl)) (fun _ _ _ h => h) (Or.inl ⟨by rfl,?_⟩) ?_ ?_
                       rotate_left
                       ·intro w'
                        go_simp
                        with_reducible rfl
                       rotate_left
                       ·simp only [Act.put,List.setIfInBounds_toArray,List.set_cons_zero,List.set_cons_succ,i64_w,i32_w]
                        rfl
                       refine pure_ (i := 66) (N := some 156) (v := ?_) (a' := ?_) #[tt,tt,tt,tt,tt,tt,tt,tt,tt,tt,tt,tt,tt,tt,tt,tt,tt,tt,tt,tt,tt,tt,tt,tt,tt,tt,tt,tt,tt,tt,tt,tt,tt,tt,tt,tt,tt,tt,tt,tt,tt,tt,tt,tt,tt,tt,tt,tt,tt,tt,tt,tt,tt,tt,tt,tt,tt,tt,tt,tt,tt,tt,tt,tt,tt,tt,tt,ff,ff,ff,ff,ff,ff,ff,ff,ff,ff,ff,ff,ff,ff,ff,ff,ff,ff,ff,ff,ff,ff,ff,ff,ff,ff,ff,ff,ff,ff] rfl rfl (any_of HT_.out (by kernel_rfl)) (fun _ _ _ h => h) (Or.inl ⟨by rfl,?_⟩) ?_ ?_
                       rotate_left
                       ·intro w'
                        go_simp
                        with_reducible rfl
                       rotate_left
                       ·simp only [Act.put,List.setIfInBounds_toArray,List.set_cons_zero,List.set_cons_succ,i64_w,i32_w]
                        rfl
                       refine take_ (i := 67) (N := some 157) (v := ?_) (a' := ?_) #[tt,tt,tt,tt,tt,tt,tt,tt,tt,tt,tt,tt,tt,tt,tt,tt,tt,tt,tt,tt,tt,tt,tt,tt,tt,tt,tt,tt,tt,tt,tt,tt,tt,tt,tt,tt,tt,tt,tt,tt,tt,tt,tt,tt,tt,tt,tt,tt,tt,tt,tt,tt,tt,tt,tt,tt,tt,tt,tt,tt,tt,tt,tt,tt,tt,tt,tt,tt,ff,ff,ff,ff,ff,ff,ff,ff,ff,ff,ff,ff,ff,ff,ff,ff,ff,ff,ff,ff,ff,ff,ff,ff,ff,ff,ff,ff,ff] rfl rfl (take_ofW HT_.out HW_.out (by kernel_rfl)) (fun _ _ _ h => h) (Or.inl ⟨by rfl,?_⟩) hHeld ?_ ?_
                       rotate_left
                       ·rintro w' ⟨s0,s1,s2,s3,s4,s5,s6,s7,s8,s9,s10,s11,s12,s13,s14,s15,s16,s17,s18,s19,s20,s21,s22,s23,s24,s25,s26,s27,s28,s29,s30,s31,s32,s33,s34⟩
                        go_simp
                        with_reducible rfl
                       rotate_left
                       ·simp only [Act.put,List.setIfInBounds_toArray,List.set_cons_zero,List.set_cons_succ,i64_w,i32_w]
                        rfl
                       refine one_ (i := 68) (N := some 158) #[tt,tt,tt,tt,tt,tt,tt,tt,tt,tt,tt,tt,tt,tt,tt,tt,tt,tt,tt,tt,tt,tt,tt,tt,tt,tt,tt,tt,tt,tt,tt,tt,tt,tt,tt,tt,tt,tt,tt,tt,tt,tt,tt,tt,tt,tt,tt,tt,tt,tt,tt,tt,tt,tt,tt,tt,tt,tt,tt,tt,tt,tt,tt,tt,tt,tt,tt,tt,tt,ff,ff,ff,ff,ff,ff,ff,ff,ff,ff,ff,ff,ff,ff,ff,ff,ff,ff,ff,ff,ff,ff,ff,ff,ff,ff,ff,ff] rfl rfl (one_of HT_.out (by kernel_rfl)) (by decide) (fun K hK => ?_)
                       refine goes_ Tryz.func14 (by kernel_rfl) rfl #[.int .i64 2,.int .i64 1,.int .i64 0,.int .i64 (-1),.int .i64 0] (by rfl) rfl rfl (by (try simp only [List.map_toArray,List.map_cons,List.map_nil]); first | done | rfl | (simp only [List.length_drop,List.length_take]; rfl)) ?_
                       with_reducible refine (spoondriftlaw01_num.calls 2 1 0 (-1) 0 t271 t272 t273 t274 t275 _ A50.out).mono ?_
                       rintro e w138 ⟨rfl,hb⟩
                       refine ⟨_,rfl,?_⟩
                       have n0_ := Aside0.mk (blk_below (g := gb113) (o := .cells #[.int .i64 t107,.int .i64 t108,.int .i64 t109,.int .i64 t110,.int .i64 t111] 23 (0,0)) (by (with_reducible repeat (first|refine bD ?_ _|refine bE ?_|refine bA ?_ _)); exact BK113.out) hb)
                       have n1_ := Aside0.mk (blk_below (g := gb125) (o := .cells #[.int .i64 t119,.int .i64 t120,.int .i64 t121,.int .i64 t122,.int .i64 t123] 23 (0,0)) (by (with_reducible repeat (first|refine bD ?_ _|refine bE ?_|refine bA ?_ _)); exact BK125.out) hb)
                       have n2_ := Aside0.mk (blk_below (g := gb142) (o := .cells #[.int .i64 t136,.int .i64 t137,.int .i64 t138,.int .i64 t139,.int .i64 t140] 23 (0,0)) (by (with_reducible repeat (first|refine bD ?_ _|refine bE ?_|refine bA ?_ _)); exact BK142.out) hb)
                       have n3_ := Aside0.mk (blk_below (g := gb154) (o := .cells #[.int .i64 t148,.int .i64 t149,.int .i64 t150,.int .i64 t151,.int .i64 t152] 23 (0,0)) (by (with_reducible repeat (first|refine bD ?_ _|refine bE ?_|refine bA ?_ _)); exact BK154.out) hb)
                       have n4_ := Aside0.mk (blk_below (g := gb166) (o := .cells #[.int .i64 t160,.int .i64 t161,.int .i64 t162,.int .i64 t163,.int .i64 t164] 23 (0,0)) (by (with_reducible repeat (first|refine bD ?_ _|refine bE ?_|refine bA ?_ _)); exact BK166.out) hb)
                       have n5_ := Aside0.mk (blk_below (g := gb207) (o := .cells #[.int .i64 t201,.int .i64 t202,.int .i64 t203,.int .i64 t204,.int .i64 t205] 23 (0,0)) (by (with_reducible repeat (first|refine bD ?_ _|refine bE ?_|refine bA ?_ _)); exact BK207.out) hb)
                       have n6_ := Aside0.mk (blk_below (g := gb224) (o := .cells #[.int .i64 t218,.int .i64 t219,.int .i64 t220,.int .i64 t221,.int .i64 t222] 23 (0,0)) (by (with_reducible repeat (first|refine bD ?_ _|refine bE ?_|refine bA ?_ _)); exact BK224.out) hb)
                       have n7_ := Aside0.mk (blk_below (g := gb250) (o := .cells #[.int .i64 t244,.int .i64 t245,.int .i64 t246,.int .i64 t247,.int .i64 t248] 23 (0,0)) (by (with_reducible repeat (first|refine bD ?_ _|refine bE ?_|refine bA ?_ _)); exact BK250.out) hb)
                       have n8_ := Aside0.mk (below_step (by repeat (first | (with_reducible first | exact HB.out | apply below_alloc | apply pw_below_drewN | apply below_drew1 | refine below_set ?_ GE113.out | refine below_set ?_ GE125.out | refine below_set ?_ GE142.out | refine below_set ?_ GE154.out | refine below_set ?_ GE166.out | refine below_set ?_ GE207.out | refine below_set ?_ GE224.out | refine below_set ?_ GE250.out) | exact HB.out)) hb)
                       clear BK113
                       clear BK125
                       clear BK142
                       clear BK154
                       clear BK166
                       clear BK207
                       clear BK224
                       clear BK250
                       clear HB
                       have BK113 := n0_
                       have BK125 := n1_
                       have BK142 := n2_
                       have BK154 := n3_
                       have BK166 := n4_
                       have BK207 := n5_
                       have BK224 := n6_
                       have BK250 := n7_
                       have HB := n8_
                       clear n0_ n1_ n2_ n3_ n4_ n5_ n6_ n7_ n8_
                       (try clear hb)
                       (try clear hb2)
                       (try clear hk)
                       (try clear hi)
                       refine hK.out _ _ ⟨(blk_cell BK113.out 0).trans rfl,(blk_cell BK113.out 1).trans rfl,(blk_cell BK113.out 2).trans rfl,(blk_cell BK113.out 3).trans rfl,(blk_cell BK113.out 4).trans rfl,(blk_cell BK125.out 0).trans rfl,(blk_cell BK125.out 1).trans rfl,(blk_cell BK125.out 2).trans rfl,(blk_cell BK125.out 3).trans rfl,(blk_cell BK125.out 4).trans rfl,(blk_cell BK142.out 0).trans rfl,(blk_cell BK142.out 1).trans rfl,(blk_cell BK142.out 2).trans rfl,(blk_cell BK142.out 3).trans rfl,(blk_cell BK142.out 4).trans rfl,(blk_cell BK154.out 0).trans rfl,(blk_cell BK154.out 1).trans rfl,(blk_cell BK154.out 2).trans rfl,(blk_cell BK154.out 3).trans rfl,(blk_cell BK154.out 4).trans rfl,(blk_cell BK166.out 0).trans rfl,(blk_cell BK166.out 1).trans rfl,(blk_cell BK166.out 2).trans rfl,(blk_cell BK166.out 3).trans rfl,(blk_cell BK166.out 4).trans rfl,(blk_cell BK207.out 0).trans rfl,(blk_cell BK207.out 1).trans rfl,(blk_cell BK207.out 2).trans rfl,(blk_cell BK207.out 3).trans rfl,(blk_cell BK207.out 4).trans rfl,(blk_cell BK250.out 0).trans rfl,(blk_cell BK250.out 1).trans rfl,(blk_cell BK250.out 2).trans rfl,(blk_cell BK250.out 3).trans rfl,(blk_cell BK250.out 4).trans rfl⟩ (fun hHeld => ?_)
                       clear hK K
                       refine norm_ (a' := ?_) ?_ ?_
                       rotate_left
                       ·show Act.put _ (some 158) _ = _
                        simp only [Act.put,List.setIfInBounds_toArray,List.set_cons_zero,List.set_cons_succ,i64_w,i32_w]
                        rfl
                       refine pure_ (i := 69) (N := some 159) (v := ?_) (a' := ?_) #[tt,tt,tt,tt,tt,tt,tt,tt,tt,tt,tt,tt,tt,tt,tt,tt,tt,tt,tt,tt,tt,tt,tt,tt,tt,tt,tt,tt,tt,tt,tt,tt,tt,tt,tt,tt,tt,tt,tt,tt,tt,tt,tt,tt,tt,tt,tt,tt,tt,tt,tt,tt,tt,tt,tt,tt,tt,tt,tt,tt,tt,tt,tt,tt,tt,tt,tt,tt,tt,tt,ff,ff,ff,ff,ff,ff,ff,ff,ff,ff,ff,ff,ff,ff,ff,ff,ff,ff,ff,ff,ff,ff,ff,ff,ff,ff,ff] rfl rfl (any_of HT_.out (by kernel_rfl)) (fun _ _ _ h => h) (Or.inl ⟨by rfl,?_⟩) ?_ ?_
                       rotate_left
                       ·intro w'
                        go_simp
                        with_reducible rfl
                       rotate_left
                       ·simp only [Act.put,List.setIfInBounds_toArray,List.set_cons_zero,List.set_cons_succ,i64_w,i32_w]
                        rfl
                       refine pure_ (i := 70) (N := some 160) (v := ?_) (a' := ?_) #[tt,tt,tt,tt,tt,tt,tt,tt,tt,tt,tt,tt,tt,tt,tt,tt,tt,tt,tt,tt,tt,tt,tt,tt,tt,tt,tt,tt,tt,tt,tt,tt,tt,tt,tt,tt,tt,tt,tt,tt,tt,tt,tt,tt,tt,tt,tt,tt,tt,tt,tt,tt,tt,tt,tt,tt,tt,tt,tt,tt,tt,tt,tt,tt,tt,tt,tt,tt,tt,tt,tt,ff,ff,ff,ff,ff,ff,ff,ff,ff,ff,ff,ff,ff,ff,ff,ff,ff,ff,ff,ff,ff,ff,ff,ff,ff,ff] rfl rfl (any_of HT_.out (by kernel_rfl)) (fun _ _ _ h => h) (Or.inl ⟨by rfl,?_⟩) ?_ ?_
                       rotate_left
                       ·intro w'
                        go_simp
                        with_reducible rfl
                       rotate_left
                       ·simp only [Act.put,List.setIfInBounds_toArray,List.set_cons_zero,List.set_cons_succ,i64_w,i32_w]
                        rfl
                       refine pure_ (i := 71) (N := some 161) (v := ?_) (a' := ?_) #[tt,tt,tt,tt,tt,tt,tt,tt,tt,tt,tt,tt,tt,tt,tt,tt,tt,tt,tt,tt,tt,tt,tt,tt,tt,tt,tt,tt,tt,tt,tt,tt,tt,tt,tt,tt,tt,tt,tt,tt,tt,tt,tt,tt,tt,tt,tt,tt,tt,tt,tt,tt,tt,tt,tt,tt,tt,tt,tt,tt,tt,tt,tt,tt,tt,tt,tt,tt,tt,tt,tt,tt,ff,ff,ff,ff,ff,ff,ff,ff,ff,ff,ff,ff,ff,ff,ff,ff,ff,ff,ff,ff,ff,ff,ff,ff,ff] rfl rfl (any_of HT_.out (by kernel_rfl)) (fun _ _ _ h => h) (Or.inl ⟨by rfl,?_⟩) ?_ ?_
                       rotate_left
                       ·intro w'
                        go_simp
                        with_reducible rfl
                       rotate_left
                       ·simp only [Act.put,List.setIfInBounds_toArray,List.set_cons_zero,List.set_cons_succ,i64_w,i32_w]
                        rfl
                       refine pure_ (i := 72) (N := some 162) (v := ?_) (a' := ?_) #[tt,tt,tt,tt,tt,tt,tt,tt,tt,tt,tt,tt,tt,tt,tt,tt,tt,tt,tt,tt,tt,tt,tt,tt,tt,tt,tt,tt,tt,tt,tt,tt,tt,tt,tt,tt,tt,tt,tt,tt,tt,tt,tt,tt,tt,tt,tt,tt,tt,tt,tt,tt,tt,tt,tt,tt,tt,tt,tt,tt,tt,tt,tt,tt,tt,tt,tt,tt,tt,tt,tt,tt,tt,ff,ff,ff,ff,ff,ff,ff,ff,ff,ff,ff,ff,ff,ff,ff,ff,ff,ff,ff,ff,ff,ff,ff,ff] rfl rfl (any_of HT_.out (by kernel_rfl)) (fun _ _ _ h => h) (Or.inl ⟨by rfl,?_⟩) ?_ ?_
                       rotate_left
                       ·intro w'
                        go_simp
                        with_reducible rfl
                       rotate_left
                       ·simp only [Act.put,List.setIfInBounds_toArray,List.set_cons_zero,List.set_cons_succ,i64_w,i32_w]
                        rfl
                       refine pure_ (i := 73) (N := some 163) (v := ?_) (a' := ?_) #[tt,tt,tt,tt,tt,tt,tt,tt,tt,tt,tt,tt,tt,tt,tt,tt,tt,tt,tt,tt,tt,tt,tt,tt,tt,tt,tt,tt,tt,tt,tt,tt,tt,tt,tt,tt,tt,tt,tt,tt,tt,tt,tt,tt,tt,tt,tt,tt,tt,tt,tt,tt,tt,tt,tt,tt,tt,tt,tt,tt,tt,tt,tt,tt,tt,tt,tt,tt,tt,tt,tt,tt,tt,tt,ff,ff,ff,ff,ff,ff,ff,ff,ff,ff,ff,ff,ff,ff,ff,ff,ff,ff,ff,ff,ff,ff,ff] rfl rfl (any_of HT_.out (by kernel_rfl)) (fun _ _ _ h => h) (Or.inl ⟨by rfl,?_⟩) ?_ ?_
                       rotate_left
                       ·intro w'
                        go_simp
                        with_reducible rfl
                       rotate_left
                       ·simp only [Act.put,List.setIfInBounds_toArray,List.set_cons_zero,List.set_cons_succ,i64_w,i32_w]
                        rfl
                       refine pure_ (i := 74) (N := some 164) (v := ?_) (a' := ?_) #[tt,tt,tt,tt,tt,tt,tt,tt,tt,tt,tt,tt,tt,tt,tt,tt,tt,tt,tt,tt,tt,tt,tt,tt,tt,tt,tt,tt,tt,tt,tt,tt,tt,tt,tt,tt,tt,tt,tt,tt,tt,tt,tt,tt,tt,tt,tt,tt,tt,tt,tt,tt,tt,tt,tt,tt,tt,tt,tt,tt,tt,tt,tt,tt,tt,tt,tt,tt,tt,tt,tt,tt,tt,tt,tt,ff,ff,ff,ff,ff,ff,ff,ff,ff,ff,ff,ff,ff,ff,ff,ff,ff,ff,ff,ff,ff,ff] rfl rfl (any_of HT_.out (by kernel_rfl)) (fun _ _ _ h => h) (Or.inl ⟨by rfl,?_⟩) ?_ ?_
                       rotate_left
                       ·intro w'
                        go_simp
                        with_reducible rfl
                       rotate_left
                       ·simp only [Act.put,List.setIfInBounds_toArray,List.set_cons_zero,List.set_cons_succ,i64_w,i32_w]
                        rfl
                       refine pure_ (i := 75) (N := some 165) (v := ?_) (a' := ?_) #[tt,tt,tt,tt,tt,tt,tt,tt,tt,tt,tt,tt,tt,tt,tt,tt,tt,tt,tt,tt,tt,tt,tt,tt,tt,tt,tt,tt,tt,tt,tt,tt,tt,tt,tt,tt,tt,tt,tt,tt,tt,tt,tt,tt,tt,tt,tt,tt,tt,tt,tt,tt,tt,tt,tt,tt,tt,tt,tt,tt,tt,tt,tt,tt,tt,tt,tt,tt,tt,tt,tt,tt,tt,tt,tt,tt,ff,ff,ff,ff,ff,ff,ff,ff,ff,ff,ff,ff,ff,ff,ff,ff,ff,ff,ff,ff,ff] rfl rfl (any_of HT_.out (by kernel_rfl)) (fun _ _ _ h => h) (Or.inl ⟨by rfl,?_⟩) ?_ ?_
                       rotate_left
                       ·intro w'
                        go_simp
                        with_reducible rfl
                       rotate_left
                       ·simp only [Act.put,List.setIfInBounds_toArray,List.set_cons_zero,List.set_cons_succ,i64_w,i32_w]
                        rfl
                       refine pure_ (i := 76) (N := some 166) (v := ?_) (a' := ?_) #[tt,tt,tt,tt,tt,tt,tt,tt,tt,tt,tt,tt,tt,tt,tt,tt,tt,tt,tt,tt,tt,tt,tt,tt,tt,tt,tt,tt,tt,tt,tt,tt,tt,tt,tt,tt,tt,tt,tt,tt,tt,tt,tt,tt,tt,tt,tt,tt,tt,tt,tt,tt,tt,tt,tt,tt,tt,tt,tt,tt,tt,tt,tt,tt,tt,tt,tt,tt,tt,tt,tt,tt,tt,tt,tt,tt,tt,ff,ff,ff,ff,ff,ff,ff,ff,ff,ff,ff,ff,ff,ff,ff,ff,ff,ff,ff,ff] rfl rfl (any_of HT_.out (by kernel_rfl)) (fun _ _ _ h => h) (Or.inl ⟨by rfl,?_⟩) ?_ ?_
                       rotate_left
                       ·intro w'
                        go_simp
                        with_reducible rfl
                       rotate_left
                       ·simp only [Act.put,List.setIfInBounds_toArray,List.set_cons_zero,List.set_cons_succ,i64_w,i32_w]
                        rfl
                       refine pure_ (i := 77) (N := some 167) (v := ?_) (a' := ?_) #[tt,tt,tt,tt,tt,tt,tt,tt,tt,tt,tt,tt,tt,tt,tt,tt,tt,tt,tt,tt,tt,tt,tt,tt,tt,tt,tt,tt,tt,tt,tt,tt,tt,tt,tt,tt,tt,tt,tt,tt,tt,tt,tt,tt,tt,tt,tt,tt,tt,tt,tt,tt,tt,tt,tt,tt,tt,tt,tt,tt,tt,tt,tt,tt,tt,tt,tt,tt,tt,tt,tt,tt,tt,tt,tt,tt,tt,tt,ff,ff,ff,ff,ff,ff,ff,ff,ff,ff,ff,ff,ff,ff,ff,ff,ff,ff,ff] rfl rfl (any_of HT_.out (by kernel_rfl)) (fun _ _ _ h => h) (Or.inl ⟨by rfl,?_⟩) ?_ ?_
                       rotate_left
                       ·intro w'
                        go_simp
                        with_reducible rfl
                       rotate_left
                       ·simp only [Act.put,List.setIfInBounds_toArray,List.set_cons_zero,List.set_cons_succ,i64_w,i32_w]
                        rfl
                       refine pure_ (i := 78) (N := some 168) (v := ?_) (a' := ?_) #[tt,tt,tt,tt,tt,tt,tt,tt,tt,tt,tt,tt,tt,tt,tt,tt,tt,tt,tt,tt,tt,tt,tt,tt,tt,tt,tt,tt,tt,tt,tt,tt,tt,tt,tt,tt,tt,tt,tt,tt,tt,tt,tt,tt,tt,tt,tt,tt,tt,tt,tt,tt,tt,tt,tt,tt,tt,tt,tt,tt,tt,tt,tt,tt,tt,tt,tt,tt,tt,tt,tt,tt,tt,tt,tt,tt,tt,tt,tt,ff,ff,ff,ff,ff,ff,ff,ff,ff,ff,ff,ff,ff,ff,ff,ff,ff,ff] rfl rfl (any_of HT_.out (by kernel_rfl)) (fun _ _ _ h => h) (Or.inl ⟨by rfl,?_⟩) ?_ ?_
                       rotate_left
                       ·intro w'
                        go_simp
                        with_reducible rfl
                       rotate_left
                       ·simp only [Act.put,List.setIfInBounds_toArray,List.set_cons_zero,List.set_cons_succ,i64_w,i32_w]
                        rfl
                       refine take_ (i := 79) (N := some 169) (v := ?_) (a' := ?_) #[tt,tt,tt,tt,tt,tt,tt,tt,tt,tt,tt,tt,tt,tt,tt,tt,tt,tt,tt,tt,tt,tt,tt,tt,tt,tt,tt,tt,tt,tt,tt,tt,tt,tt,tt,tt,tt,tt,tt,tt,tt,tt,tt,tt,tt,tt,tt,tt,tt,tt,tt,tt,tt,tt,tt,tt,tt,tt,tt,tt,tt,tt,tt,tt,tt,tt,tt,tt,tt,tt,tt,tt,tt,tt,tt,tt,tt,tt,tt,tt,ff,ff,ff,ff,ff,ff,ff,ff,ff,ff,ff,ff,ff,ff,ff,ff,ff] rfl rfl (take_ofW HT_.out HW_.out (by kernel_rfl)) (fun _ _ _ h => h) (Or.inl ⟨by rfl,?_⟩) hHeld ?_ ?_
                       rotate_left
                       ·rintro w' ⟨s0,s1,s2,s3,s4,s5,s6,s7,s8,s9,s10,s11,s12,s13,s14,s15,s16,s17,s18,s19,s20,s21,s22,s23,s24,s25,s26,s27,s28,s29,s30,s31,s32,s33,s34⟩
                        go_simp
                        with_reducible rfl
                       rotate_left
                       ·simp only [Act.put,List.setIfInBounds_toArray,List.set_cons_zero,List.set_cons_succ,i64_w,i32_w]
                        rfl
                       refine one_ (i := 80) (N := some 170) #[tt,tt,tt,tt,tt,tt,tt,tt,tt,tt,tt,tt,tt,tt,tt,tt,tt,tt,tt,tt,tt,tt,tt,tt,tt,tt,tt,tt,tt,tt,tt,tt,tt,tt,tt,tt,tt,tt,tt,tt,tt,tt,tt,tt,tt,tt,tt,tt,tt,tt,tt,tt,tt,tt,tt,tt,tt,tt,tt,tt,tt,tt,tt,tt,tt,tt,tt,tt,tt,tt,tt,tt,tt,tt,tt,tt,tt,tt,tt,tt,tt,ff,ff,ff,ff,ff,ff,ff,ff,ff,ff,ff,ff,ff,ff,ff,ff] rfl rfl (one_of HT_.out (by kernel_rfl)) (by decide) (fun K hK => ?_)
                       refine goes_ Tryz.func14 (by kernel_rfl) rfl #[.int .i64 0,.int .i64 1,.int .i64 (-1),.int .i64 0,.int .i64 1] (by rfl) rfl rfl (by (try simp only [List.map_toArray,List.map_cons,List.map_nil]); first | done | rfl | (simp only [List.length_drop,List.length_take]; rfl)) ?_
                       with_reducible refine (spoondriftlaw01_num.calls 0 1 (-1) 0 1 t276 t277 t278 t279 t280 _ A54.out).mono ?_
                       rintro e w139 ⟨rfl,hb⟩
                       refine ⟨_,rfl,?_⟩
                       have n0_ := Aside0.mk (blk_below (g := gb113) (o := .cells #[.int .i64 t107,.int .i64 t108,.int .i64 t109,.int .i64 t110,.int .i64 t111] 23 (0,0)) (by (with_reducible repeat (first|refine bD ?_ _|refine bE ?_|refine bA ?_ _)); exact BK113.out) hb)
                       have n1_ := Aside0.mk (blk_below (g := gb125) (o := .cells #[.int .i64 t119,.int .i64 t120,.int .i64 t121,.int .i64 t122,.int .i64 t123] 23 (0,0)) (by (with_reducible repeat (first|refine bD ?_ _|refine bE ?_|refine bA ?_ _)); exact BK125.out) hb)
                       have n2_ := Aside0.mk (blk_below (g := gb142) (o := .cells #[.int .i64 t136,.int .i64 t137,.int .i64 t138,.int .i64 t139,.int .i64 t140] 23 (0,0)) (by (with_reducible repeat (first|refine bD ?_ _|refine bE ?_|refine bA ?_ _)); exact BK142.out) hb)
                       have n3_ := Aside0.mk (blk_below (g := gb154) (o := .cells #[.int .i64 t148,.int .i64 t149,.int .i64 t150,.int .i64 t151,.int .i64 t152] 23 (0,0)) (by (with_reducible repeat (first|refine bD ?_ _|refine bE ?_|refine bA ?_ _)); exact BK154.out) hb)
                       have n4_ := Aside0.mk (blk_below (g := gb166) (o := .cells #[.int .i64 t160,.int .i64 t161,.int .i64 t162,.int .i64 t163,.int .i64 t164] 23 (0,0)) (by (with_reducible repeat (first|refine bD ?_ _|refine bE ?_|refine bA ?_ _)); exact BK166.out) hb)
                       have n5_ := Aside0.mk (blk_below (g := gb207) (o := .cells #[.int .i64 t201,.int .i64 t202,.int .i64 t203,.int .i64 t204,.int .i64 t205] 23 (0,0)) (by (with_reducible repeat (first|refine bD ?_ _|refine bE ?_|refine bA ?_ _)); exact BK207.out) hb)
                       have n6_ := Aside0.mk (blk_below (g := gb224) (o := .cells #[.int .i64 t218,.int .i64 t219,.int .i64 t220,.int .i64 t221,.int .i64 t222] 23 (0,0)) (by (with_reducible repeat (first|refine bD ?_ _|refine bE ?_|refine bA ?_ _)); exact BK224.out) hb)
                       have n7_ := Aside0.mk (blk_below (g := gb250) (o := .cells #[.int .i64 t244,.int .i64 t245,.int .i64 t246,.int .i64 t247,.int .i64 t248] 23 (0,0)) (by (with_reducible repeat (first|refine bD ?_ _|refine bE ?_|refine bA ?_ _)); exact BK250.out) hb)
                       have n8_ := Aside0.mk (below_step (by repeat (first | (with_reducible first | exact HB.out | apply below_alloc | apply pw_below_drewN | apply below_drew1 | refine below_set ?_ GE113.out | refine below_set ?_ GE125.out | refine below_set ?_ GE142.out | refine below_set ?_ GE154.out | refine below_set ?_ GE166.out | refine below_set ?_ GE207.out | refine below_set ?_ GE224.out | refine below_set ?_ GE250.out) | exact HB.out)) hb)
                       clear BK113
                       clear BK125
                       clear BK142
                       clear BK154
                       clear BK166
                       clear BK207
                       clear BK224
                       clear BK250
                       clear HB
                       have BK113 := n0_
                       have BK125 := n1_
                       have BK142 := n2_
                       have BK154 := n3_
                       have BK166 := n4_
                       have BK207 := n5_
                       have BK224 := n6_
                       have BK250 := n7_
                       have HB := n8_
                       clear n0_ n1_ n2_ n3_ n4_ n5_ n6_ n7_ n8_
                       (try clear hb)
                       (try clear hb2)
                       (try clear hk)
                       (try clear hi)
                       refine hK.out _ _ ⟨(blk_cell BK113.out 0).trans rfl,(blk_cell BK113.out 1).trans rfl,(blk_cell BK113.out 2).trans rfl,(blk_cell BK113.out 3).trans rfl,(blk_cell BK113.out 4).trans rfl,(blk_cell BK125.out 0).trans rfl,(blk_cell BK125.out 1).trans rfl,(blk_cell BK125.out 2).trans rfl,(blk_cell BK125.out 3).trans rfl,(blk_cell BK125.out 4).trans rfl,(blk_cell BK142.out 0).trans rfl,(blk_cell BK142.out 1).trans rfl,(blk_cell BK142.out 2).trans rfl,(blk_cell BK142.out 3).trans rfl,(blk_cell BK142.out 4).trans rfl,(blk_cell BK154.out 0).trans rfl,(blk_cell BK154.out 1).trans rfl,(blk_cell BK154.out 2).trans rfl,(blk_cell BK154.out 3).trans rfl,(blk_cell BK154.out 4).trans rfl,(blk_cell BK166.out 0).trans rfl,(blk_cell BK166.out 1).trans rfl,(blk_cell BK166.out 2).trans rfl,(blk_cell BK166.out 3).trans rfl,(blk_cell BK166.out 4).trans rfl,(blk_cell BK207.out 0).trans rfl,(blk_cell BK207.out 1).trans rfl,(blk_cell BK207.out 2).trans rfl,(blk_cell BK207.out 3).trans rfl,(blk_cell BK207.out 4).trans rfl,(blk_cell BK250.out 0).trans rfl,(blk_cell BK250.out 1).trans rfl,(blk_cell BK250.out 2).trans rfl,(blk_cell BK250.out 3).trans rfl,(blk_cell BK250.out 4).trans rfl⟩ (fun hHeld => ?_)
                       clear hK K
                       refine norm_ (a' := ?_) ?_ ?_
                       rotate_left
                       ·show Act.put _ (some 170) _ = _
                        simp only [Act.put,List.setIfInBounds_toArray,List.set_cons_zero,List.set_cons_succ,i64_w,i32_w]
                        rfl
                       refine pure_ (i := 81) (N := some 171) (v := ?_) (a' := ?_) #[tt,tt,tt,tt,tt,tt,tt,tt,tt,tt,tt,tt,tt,tt,tt,tt,tt,tt,tt,tt,tt,tt,tt,tt,tt,tt,tt,tt,tt,tt,tt,tt,tt,tt,tt,tt,tt,tt,tt,tt,tt,tt,tt,tt,tt,tt,tt,tt,tt,tt,tt,tt,tt,tt,tt,tt,tt,tt,tt,tt,tt,tt,tt,tt,tt,tt,tt,tt,tt,tt,tt,tt,tt,tt,tt,tt,tt,tt,tt,tt,tt,tt,ff,ff,ff,ff,ff,ff,ff,ff,ff,ff,ff,ff,ff,ff,ff] rfl rfl (any_of HT_.out (by kernel_rfl)) (fun _ _ _ h => h) (Or.inl ⟨by rfl,?_⟩) ?_ ?_
                       rotate_left
                       ·intro w'
                        go_simp
                        with_reducible rfl
                       rotate_left
                       ·simp only [Act.put,List.setIfInBounds_toArray,List.set_cons_zero,List.set_cons_succ,i64_w,i32_w]
                        rfl
                       refine pure_ (i := 82) (N := some 172) (v := ?_) (a' := ?_) #[tt,tt,tt,tt,tt,tt,tt,tt,tt,tt,tt,tt,tt,tt,tt,tt,tt,tt,tt,tt,tt,tt,tt,tt,tt,tt,tt,tt,tt,tt,tt,tt,tt,tt,tt,tt,tt,tt,tt,tt,tt,tt,tt,tt,tt,tt,tt,tt,tt,tt,tt,tt,tt,tt,tt,tt,tt,tt,tt,tt,tt,tt,tt,tt,tt,tt,tt,tt,tt,tt,tt,tt,tt,tt,tt,tt,tt,tt,tt,tt,tt,tt,tt,ff,ff,ff,ff,ff,ff,ff,ff,ff,ff,ff,ff,ff,ff] rfl rfl (any_of HT_.out (by kernel_rfl)) (fun _ _ _ h => h) (Or.inl ⟨by rfl,?_⟩) ?_ ?_
                       rotate_left
                       ·intro w'
                        go_simp
                        with_reducible rfl
                       rotate_left
                       ·simp only [Act.put,List.setIfInBounds_toArray,List.set_cons_zero,List.set_cons_succ,i64_w,i32_w]
                        rfl
                       refine pure_ (i := 83) (N := some 173) (v := ?_) (a' := ?_) #[tt,tt,tt,tt,tt,tt,tt,tt,tt,tt,tt,tt,tt,tt,tt,tt,tt,tt,tt,tt,tt,tt,tt,tt,tt,tt,tt,tt,tt,tt,tt,tt,tt,tt,tt,tt,tt,tt,tt,tt,tt,tt,tt,tt,tt,tt,tt,tt,tt,tt,tt,tt,tt,tt,tt,tt,tt,tt,tt,tt,tt,tt,tt,tt,tt,tt,tt,tt,tt,tt,tt,tt,tt,tt,tt,tt,tt,tt,tt,tt,tt,tt,tt,tt,ff,ff,ff,ff,ff,ff,ff,ff,ff,ff,ff,ff,ff] rfl rfl (any_of HT_.out (by kernel_rfl)) (fun _ _ _ h => h) (Or.inl ⟨by rfl,?_⟩) ?_ ?_
                       rotate_left
                       ·intro w'
                        go_simp
                        with_reducible rfl
                       rotate_left
                       ·simp only [Act.put,List.setIfInBounds_toArray,List.set_cons_zero,List.set_cons_succ,i64_w,i32_w]
                        rfl
                       refine pure_ (i := 84) (N := some 174) (v := ?_) (a' := ?_) #[tt,tt,tt,tt,tt,tt,tt,tt,tt,tt,tt,tt,tt,tt,tt,tt,tt,tt,tt,tt,tt,tt,tt,tt,tt,tt,tt,tt,tt,tt,tt,tt,tt,tt,tt,tt,tt,tt,tt,tt,tt,tt,tt,tt,tt,tt,tt,tt,tt,tt,tt,tt,tt,tt,tt,tt,tt,tt,tt,tt,tt,tt,tt,tt,tt,tt,tt,tt,tt,tt,tt,tt,tt,tt,tt,tt,tt,tt,tt,tt,tt,tt,tt,tt,tt,ff,ff,ff,ff,ff,ff,ff,ff,ff,ff,ff,ff] rfl rfl (any_of HT_.out (by kernel_rfl)) (fun _ _ _ h => h) (Or.inl ⟨by rfl,?_⟩) ?_ ?_
                       rotate_left
                       ·intro w'
                        go_simp
                        with_reducible rfl
                       rotate_left
                       ·simp only [Act.put,List.setIfInBounds_toArray,List.set_cons_zero,List.set_cons_succ,i64_w,i32_w]
                        rfl
                       refine pure_ (i := 85) (N := some 175) (v := ?_) (a' := ?_) #[tt,tt,tt,tt,tt,tt,tt,tt,tt,tt,tt,tt,tt,tt,tt,tt,tt,tt,tt,tt,tt,tt,tt,tt,tt,tt,tt,tt,tt,tt,tt,tt,tt,tt,tt,tt,tt,tt,tt,tt,tt,tt,tt,tt,tt,tt,tt,tt,tt,tt,tt,tt,tt,tt,tt,tt,tt,tt,tt,tt,tt,tt,tt,tt,tt,tt,tt,tt,tt,tt,tt,tt,tt,tt,tt,tt,tt,tt,tt,tt,tt,tt,tt,tt,tt,tt,ff,ff,ff,ff,ff,ff,ff,ff,ff,ff,ff] rfl rfl (any_of HT_.out (by kernel_rfl)) (fun _ _ _ h => h) (Or.inl ⟨by rfl,?_⟩) ?_ ?_
                       rotate_left
                       ·intro w'
                        go_simp
                        with_reducible rfl
                       rotate_left
                       ·simp only [Act.put,List.setIfInBounds_toArray,List.set_cons_zero,List.set_cons_succ,i64_w,i32_w]
                        rfl
                       refine pure_ (i := 86) (N := some 176) (v := ?_) (a' := ?_) #[tt,tt,tt,tt,tt,tt,tt,tt,tt,tt,tt,tt,tt,tt,tt,tt,tt,tt,tt,tt,tt,tt,tt,tt,tt,tt,tt,tt,tt,tt,tt,tt,tt,tt,tt,tt,tt,tt,tt,tt,tt,tt,tt,tt,tt,tt,tt,tt,tt,tt,tt,tt,tt,tt,tt,tt,tt,tt,tt,tt,tt,tt,tt,tt,tt,tt,tt,tt,tt,tt,tt,tt,tt,tt,tt,tt,tt,tt,tt,tt,tt,tt,tt,tt,tt,tt,tt,ff,ff,ff,ff,ff,ff,ff,ff,ff,ff] rfl rfl (any_of HT_.out (by kernel_rfl)) (fun _ _ _ h => h) (Or.inl ⟨by rfl,?_⟩) ?_ ?_
                       rotate_left
                       ·intro w'
                        go_simp
                        with_reducible rfl
                       rotate_left
                       ·simp only [Act.put,List.setIfInBounds_toArray,List.set_cons_zero,List.set_cons_succ,i64_w,i32_w]
                        rfl
                       refine pure_ (i := 87) (N := some 177) (v := ?_) (a' := ?_) #[tt,tt,tt,tt,tt,tt,tt,tt,tt,tt,tt,tt,tt,tt,tt,tt,tt,tt,tt,tt,tt,tt,tt,tt,tt,tt,tt,tt,tt,tt,tt,tt,tt,tt,tt,tt,tt,tt,tt,tt,tt,tt,tt,tt,tt,tt,tt,tt,tt,tt,tt,tt,tt,tt,tt,tt,tt,tt,tt,tt,tt,tt,tt,tt,tt,tt,tt,tt,tt,tt,tt,tt,tt,tt,tt,tt,tt,tt,tt,tt,tt,tt,tt,tt,tt,tt,tt,tt,ff,ff,ff,ff,ff,ff,ff,ff,ff] rfl rfl (any_of HT_.out (by kernel_rfl)) (fun _ _ _ h => h) (Or.inl ⟨by rfl,?_⟩) ?_ ?_
                       rotate_left
                       ·intro w'
                        go_simp
                        with_reducible rfl
                       rotate_left
                       ·simp only [Act.put,List.setIfInBounds_toArray,List.set_cons_zero,List.set_cons_succ,i64_w,i32_w]
                        rfl
                       refine pure_ (i := 88) (N := some 178) (v := ?_) (a' := ?_) #[tt,tt,tt,tt,tt,tt,tt,tt,tt,tt,tt,tt,tt,tt,tt,tt,tt,tt,tt,tt,tt,tt,tt,tt,tt,tt,tt,tt,tt,tt,tt,tt,tt,tt,tt,tt,tt,tt,tt,tt,tt,tt,tt,tt,tt,tt,tt,tt,tt,tt,tt,tt,tt,tt,tt,tt,tt,tt,tt,tt,tt,tt,tt,tt,tt,tt,tt,tt,tt,tt,tt,tt,tt,tt,tt,tt,tt,tt,tt,tt,tt,tt,tt,tt,tt,tt,tt,tt,tt,ff,ff,ff,ff,ff,ff,ff,ff] rfl rfl (any_of HT_.out (by kernel_rfl)) (fun _ _ _ h => h) (Or.inl ⟨by rfl,?_⟩) ?_ ?_
                       rotate_left
                       ·intro w'
                        go_simp
                        with_reducible rfl
                       rotate_left
                       ·simp only [Act.put,List.setIfInBounds_toArray,List.set_cons_zero,List.set_cons_succ,i64_w,i32_w]
                        rfl
                       refine pure_ (i := 89) (N := some 179) (v := ?_) (a' := ?_) #[tt,tt,tt,tt,tt,tt,tt,tt,tt,tt,tt,tt,tt,tt,tt,tt,tt,tt,tt,tt,tt,tt,tt,tt,tt,tt,tt,tt,tt,tt,tt,tt,tt,tt,tt,tt,tt,tt,tt,tt,tt,tt,tt,tt,tt,tt,tt,tt,tt,tt,tt,tt,tt,tt,tt,tt,tt,tt,tt,tt,tt,tt,tt,tt,tt,tt,tt,tt,tt,tt,tt,tt,tt,tt,tt,tt,tt,tt,tt,tt,tt,tt,tt,tt,tt,tt,tt,tt,tt,tt,ff,ff,ff,ff,ff,ff,ff] rfl rfl (any_of HT_.out (by kernel_rfl)) (fun _ _ _ h => h) (Or.inl ⟨by rfl,?_⟩) ?_ ?_
                       rotate_left
                       ·intro w'
                        go_simp
                        with_reducible rfl
                       rotate_left
                       ·simp only [Act.put,List.setIfInBounds_toArray,List.set_cons_zero,List.set_cons_succ,i64_w,i32_w]
                        rfl
                       refine pure_ (i := 90) (N := some 180) (v := ?_) (a' := ?_) #[tt,tt,tt,tt,tt,tt,tt,tt,tt,tt,tt,tt,tt,tt,tt,tt,tt,tt,tt,tt,tt,tt,tt,tt,tt,tt,tt,tt,tt,tt,tt,tt,tt,tt,tt,tt,tt,tt,tt,tt,tt,tt,tt,tt,tt,tt,tt,tt,tt,tt,tt,tt,tt,tt,tt,tt,tt,tt,tt,tt,tt,tt,tt,tt,tt,tt,tt,tt,tt,tt,tt,tt,tt,tt,tt,tt,tt,tt,tt,tt,tt,tt,tt,tt,tt,tt,tt,tt,tt,tt,tt,ff,ff,ff,ff,ff,ff] rfl rfl (any_of HT_.out (by kernel_rfl)) (fun _ _ _ h => h) (Or.inl ⟨by rfl,?_⟩) ?_ ?_
                       rotate_left
                       ·intro w'
                        go_simp
                        with_reducible rfl
                       rotate_left
                       ·simp only [Act.put,List.setIfInBounds_toArray,List.set_cons_zero,List.set_cons_succ,i64_w,i32_w]
                        rfl
                       refine pure_ (i := 91) (N := some 181) (v := ?_) (a' := ?_) #[tt,tt,tt,tt,tt,tt,tt,tt,tt,tt,tt,tt,tt,tt,tt,tt,tt,tt,tt,tt,tt,tt,tt,tt,tt,tt,tt,tt,tt,tt,tt,tt,tt,tt,tt,tt,tt,tt,tt,tt,tt,tt,tt,tt,tt,tt,tt,tt,tt,tt,tt,tt,tt,tt,tt,tt,tt,tt,tt,tt,tt,tt,tt,tt,tt,tt,tt,tt,tt,tt,tt,tt,tt,tt,tt,tt,tt,tt,tt,tt,tt,tt,tt,tt,tt,tt,tt,tt,tt,tt,tt,tt,ff,ff,ff,ff,ff] rfl rfl (any_of HT_.out (by kernel_rfl)) (fun _ _ _ h => h) (Or.inl ⟨by rfl,?_⟩) ?_ ?_
                       rotate_left
                       ·intro w'
                        go_simp
                        with_reducible rfl
                       rotate_left
                       ·simp only [Act.put,List.setIfInBounds_toArray,List.set_cons_zero,List.set_cons_succ,i64_w,i32_w]
                        rfl
                       refine take_ (i := 92) (N := some 182) (v := ?_) (a' := ?_) #[tt,tt,tt,tt,tt,tt,tt,tt,tt,tt,tt,tt,tt,tt,tt,tt,tt,tt,tt,tt,tt,tt,tt,tt,tt,tt,tt,tt,tt,tt,tt,tt,tt,tt,tt,tt,tt,tt,tt,tt,tt,tt,tt,tt,tt,tt,tt,tt,tt,tt,tt,tt,tt,tt,tt,tt,tt,tt,tt,tt,tt,tt,tt,tt,tt,tt,tt,tt,tt,tt,tt,tt,tt,tt,tt,tt,tt,tt,tt,tt,tt,tt,tt,tt,tt,tt,tt,tt,tt,tt,tt,tt,tt,ff,ff,ff,ff] rfl rfl (take_ofW HT_.out HW_.out (by kernel_rfl)) (fun _ _ _ h => h) (Or.inl ⟨by rfl,?_⟩) hHeld ?_ ?_
                       rotate_left
                       ·rintro w' ⟨s0,s1,s2,s3,s4,s5,s6,s7,s8,s9,s10,s11,s12,s13,s14,s15,s16,s17,s18,s19,s20,s21,s22,s23,s24,s25,s26,s27,s28,s29,s30,s31,s32,s33,s34⟩
                        go_simp
                        with_reducible rfl
                       rotate_left
                       ·simp only [Act.put,List.setIfInBounds_toArray,List.set_cons_zero,List.set_cons_succ,i64_w,i32_w]
                        rfl
                       refine one_ (i := 93) (N := some 183) #[tt,tt,tt,tt,tt,tt,tt,tt,tt,tt,tt,tt,tt,tt,tt,tt,tt,tt,tt,tt,tt,tt,tt,tt,tt,tt,tt,tt,tt,tt,tt,tt,tt,tt,tt,tt,tt,tt,tt,tt,tt,tt,tt,tt,tt,tt,tt,tt,tt,tt,tt,tt,tt,tt,tt,tt,tt,tt,tt,tt,tt,tt,tt,tt,tt,tt,tt,tt,tt,tt,tt,tt,tt,tt,tt,tt,tt,tt,tt,tt,tt,tt,tt,tt,tt,tt,tt,tt,tt,tt,tt,tt,tt,tt,ff,ff,ff] rfl rfl (one_of HT_.out (by kernel_rfl)) (by decide) (fun K hK => ?_)
                       refine goes_ Tryz.func14 (by kernel_rfl) rfl #[.int .i64 1,.int .i64 0,.int .i64 0,.int .i64 0,.int .i64 1] (by rfl) rfl rfl (by (try simp only [List.map_toArray,List.map_cons,List.map_nil]); first | done | rfl | (simp only [List.length_drop,List.length_take]; rfl)) ?_
                       with_reducible refine (spoondriftlaw01_num.calls 1 0 0 0 1 t281 t282 t283 t284 t285 _ A58.out).mono ?_
                       rintro e w140 ⟨rfl,hb⟩
                       refine ⟨_,rfl,?_⟩
                       have n0_ := Aside0.mk (blk_below (g := gb113) (o := .cells #[.int .i64 t107,.int .i64 t108,.int .i64 t109,.int .i64 t110,.int .i64 t111] 23 (0,0)) (by (with_reducible repeat (first|refine bD ?_ _|refine bE ?_|refine bA ?_ _)); exact BK113.out) hb)
                       have n1_ := Aside0.mk (blk_below (g := gb125) (o := .cells #[.int .i64 t119,.int .i64 t120,.int .i64 t121,.int .i64 t122,.int .i64 t123] 23 (0,0)) (by (with_reducible repeat (first|refine bD ?_ _|refine bE ?_|refine bA ?_ _)); exact BK125.out) hb)
                       have n2_ := Aside0.mk (blk_below (g := gb142) (o := .cells #[.int .i64 t136,.int .i64 t137,.int .i64 t138,.int .i64 t139,.int .i64 t140] 23 (0,0)) (by (with_reducible repeat (first|refine bD ?_ _|refine bE ?_|refine bA ?_ _)); exact BK142.out) hb)
                       have n3_ := Aside0.mk (blk_below (g := gb154) (o := .cells #[.int .i64 t148,.int .i64 t149,.int .i64 t150,.int .i64 t151,.int .i64 t152] 23 (0,0)) (by (with_reducible repeat (first|refine bD ?_ _|refine bE ?_|refine bA ?_ _)); exact BK154.out) hb)
                       have n4_ := Aside0.mk (blk_below (g := gb166) (o := .cells #[.int .i64 t160,.int .i64 t161,.int .i64 t162,.int .i64 t163,.int .i64 t164] 23 (0,0)) (by (with_reducible repeat (first|refine bD ?_ _|refine bE ?_|refine bA ?_ _)); exact BK166.out) hb)
                       have n5_ := Aside0.mk (blk_below (g := gb207) (o := .cells #[.int .i64 t201,.int .i64 t202,.int .i64 t203,.int .i64 t204,.int .i64 t205] 23 (0,0)) (by (with_reducible repeat (first|refine bD ?_ _|refine bE ?_|refine bA ?_ _)); exact BK207.out) hb)
                       have n6_ := Aside0.mk (blk_below (g := gb224) (o := .cells #[.int .i64 t218,.int .i64 t219,.int .i64 t220,.int .i64 t221,.int .i64 t222] 23 (0,0)) (by (with_reducible repeat (first|refine bD ?_ _|refine bE ?_|refine bA ?_ _)); exact BK224.out) hb)
                       have n7_ := Aside0.mk (blk_below (g := gb250) (o := .cells #[.int .i64 t244,.int .i64 t245,.int .i64 t246,.int .i64 t247,.int .i64 t248] 23 (0,0)) (by (with_reducible repeat (first|refine bD ?_ _|refine bE ?_|refine bA ?_ _)); exact BK250.out) hb)
                       have n8_ := Aside0.mk (below_step (by repeat (first | (with_reducible first | exact HB.out | apply below_alloc | apply pw_below_drewN | apply below_drew1 | refine below_set ?_ GE113.out | refine below_set ?_ GE125.out | refine below_set ?_ GE142.out | refine below_set ?_ GE154.out | refine below_set ?_ GE166.out | refine below_set ?_ GE207.out | refine below_set ?_ GE224.out | refine below_set ?_ GE250.out) | exact HB.out)) hb)
                       clear BK113
                       clear BK125
                       clear BK142
                       clear BK154
                       clear BK166
                       clear BK207
                       clear BK224
                       clear BK250
                       clear HB
                       have BK113 := n0_
                       have BK125 := n1_
                       have BK142 := n2_
                       have BK154 := n3_
                       have BK166 := n4_
                       have BK207 := n5_
                       have BK224 := n6_
                       have BK250 := n7_
                       have HB := n8_
                       clear n0_ n1_ n2_ n3_ n4_ n5_ n6_ n7_ n8_
                       (try clear hb)
                       (try clear hb2)
                       (try clear hk)
                       (try clear hi)
                       refine hK.out _ _ ⟨(blk_cell BK113.out 0).trans rfl,(blk_cell BK113.out 1).trans rfl,(blk_cell BK113.out 2).trans rfl,(blk_cell BK113.out 3).trans rfl,(blk_cell BK113.out 4).trans rfl,(blk_cell BK125.out 0).trans rfl,(blk_cell BK125.out 1).trans rfl,(blk_cell BK125.out 2).trans rfl,(blk_cell BK125.out 3).trans rfl,(blk_cell BK125.out 4).trans rfl,(blk_cell BK142.out 0).trans rfl,(blk_cell BK142.out 1).trans rfl,(blk_cell BK142.out 2).trans rfl,(blk_cell BK142.out 3).trans rfl,(blk_cell BK142.out 4).trans rfl,(blk_cell BK154.out 0).trans rfl,(blk_cell BK154.out 1).trans rfl,(blk_cell BK154.out 2).trans rfl,(blk_cell BK154.out 3).trans rfl,(blk_cell BK154.out 4).trans rfl,(blk_cell BK166.out 0).trans rfl,(blk_cell BK166.out 1).trans rfl,(blk_cell BK166.out 2).trans rfl,(blk_cell BK166.out 3).trans rfl,(blk_cell BK166.out 4).trans rfl,(blk_cell BK207.out 0).trans rfl,(blk_cell BK207.out 1).trans rfl,(blk_cell BK207.out 2).trans rfl,(blk_cell BK207.out 3).trans rfl,(blk_cell BK207.out 4).trans rfl,(blk_cell BK250.out 0).trans rfl,(blk_cell BK250.out 1).trans rfl,(blk_cell BK250.out 2).trans rfl,(blk_cell BK250.out 3).trans rfl,(blk_cell BK250.out 4).trans rfl⟩ (fun hHeld => ?_)
                       clear hK K
                       refine norm_ (a' := ?_) ?_ ?_
                       rotate_left
                       ·show Act.put _ (some 183) _ = _
                        simp only [Act.put,List.setIfInBounds_toArray,List.set_cons_zero,List.set_cons_succ,i64_w,i32_w]
                        rfl
                       refine pure_ (i := 94) (N := some 184) (v := ?_) (a' := ?_) #[tt,tt,tt,tt,tt,tt,tt,tt,tt,tt,tt,tt,tt,tt,tt,tt,tt,tt,tt,tt,tt,tt,tt,tt,tt,tt,tt,tt,tt,tt,tt,tt,tt,tt,tt,tt,tt,tt,tt,tt,tt,tt,tt,tt,tt,tt,tt,tt,tt,tt,tt,tt,tt,tt,tt,tt,tt,tt,tt,tt,tt,tt,tt,tt,tt,tt,tt,tt,tt,tt,tt,tt,tt,tt,tt,tt,tt,tt,tt,tt,tt,tt,tt,tt,tt,tt,tt,tt,tt,tt,tt,tt,tt,tt,tt,ff,ff] rfl rfl (any_of HT_.out (by kernel_rfl)) (fun _ _ _ h => h) (Or.inl ⟨by rfl,?_⟩) ?_ ?_
                       rotate_left
                       ·intro w'
                        go_simp
                        with_reducible rfl
                       rotate_left
                       ·simp only [Act.put,List.setIfInBounds_toArray,List.set_cons_zero,List.set_cons_succ,i64_w,i32_w]
                        rfl
                       refine pure_ (i := 95) (N := some 185) (v := ?_) (a' := ?_) #[tt,tt,tt,tt,tt,tt,tt,tt,tt,tt,tt,tt,tt,tt,tt,tt,tt,tt,tt,tt,tt,tt,tt,tt,tt,tt,tt,tt,tt,tt,tt,tt,tt,tt,tt,tt,tt,tt,tt,tt,tt,tt,tt,tt,tt,tt,tt,tt,tt,tt,tt,tt,tt,tt,tt,tt,tt,tt,tt,tt,tt,tt,tt,tt,tt,tt,tt,tt,tt,tt,tt,tt,tt,tt,tt,tt,tt,tt,tt,tt,tt,tt,tt,tt,tt,tt,tt,tt,tt,tt,tt,tt,tt,tt,tt,tt,ff] rfl rfl (any_of HT_.out (by kernel_rfl)) (fun _ _ _ h => h) (Or.inl ⟨by rfl,?_⟩) ?_ ?_
                       rotate_left
                       ·intro w'
                        go_simp
                        with_reducible rfl
                       rotate_left
                       ·simp only [Act.put,List.setIfInBounds_toArray,List.set_cons_zero,List.set_cons_succ,i64_w,i32_w]
                        rfl
                       refine pure_ (i := 96) (N := some 0) (v := ?_) (a' := ?_) #[tt,tt,tt,tt,tt,tt,tt,tt,tt,tt,tt,tt,tt,tt,tt,tt,tt,tt,tt,tt,tt,tt,tt,tt,tt,tt,tt,tt,tt,tt,tt,tt,tt,tt,tt,tt,tt,tt,tt,tt,tt,tt,tt,tt,tt,tt,tt,tt,tt,tt,tt,tt,tt,tt,tt,tt,tt,tt,tt,tt,tt,tt,tt,tt,tt,tt,tt,tt,tt,tt,tt,tt,tt,tt,tt,tt,tt,tt,tt,tt,tt,tt,tt,tt,tt,tt,tt,tt,tt,tt,tt,tt,tt,tt,tt,tt,tt] rfl rfl (any_of HT_.out (by kernel_rfl)) (fun _ _ _ h => h) (Or.inl ⟨by rfl,?_⟩) ?_ ?_
                       rotate_left
                       ·intro w'
                        go_simp
                        with_reducible rfl
                       rotate_left
                       ·simp only [Act.put,List.setIfInBounds_toArray,List.set_cons_zero,List.set_cons_succ,i64_w,i32_w]
                        rfl
                       refine done_ (done_of HT_.out (by kernel_rfl)) ?_
                       try go_wp2
                       go_ret
                       exact ⟨by first | rfl | (rw [HE_.out]; done) | exact HE_.out | (simp only [HE_.out]; done) | (simp only [HE_.out]; rfl) | (simp [HE_.out,errW_none,errW_some]; done) | (simp [errW_none,errW_some] <;> rfl) | (simp [*,errW_none,errW_some] <;> rfl),by repeat (first | (with_reducible first | exact HB.out | apply below_alloc | apply pw_below_drewN | apply below_drew1 | refine below_set ?_ GE113.out | refine below_set ?_ GE125.out | refine below_set ?_ GE142.out | refine below_set ?_ GE154.out | refine below_set ?_ GE166.out | refine below_set ?_ GE207.out | refine below_set ?_ GE224.out | refine below_set ?_ GE250.out) | exact HB.out)⟩
                      ·rw [if_neg c57] at H
                       have c57b0 : (t242.toList == ([119,45,50,119,50,45,119,51] : List UInt8)) = false := beq_eq_false_iff_ne.mpr c57
                       have c57b1 : (t242.toList != ([119,45,50,119,50,45,119,51] : List UInt8)) = true := bne_iff_ne.mpr c57
                       exact absurd H (by simp)
                     ·rw [if_neg c56] at H
                      have c56b0 : (t235 == 5) = false := beq_eq_false_iff_ne.mpr c56
                      have c56b1 : (t235 != 5) = true := bne_iff_ne.mpr c56
                      exact absurd H (by simp)
                    ·rw [if_neg c55] at H
                     have c55b0 : (t201 == t276 && (t202 == t277 && (t203 == t278 && (t204 == t279 && (t205 == t280))))) = false := by simpa using c55
                     (try (have c55b1 : decide (t201 = t276 && (t202 == t277 && (t203 == t278 && (t204 == t279 && (t205 == t280))))) = false := by simpa using c55))
                     (try (have c55b2 : (t201 == t276 && (t202 == t277 && (t203 == t278 && (t204 == t279 && (t205 == t280))))) = false := by simpa using c55))
                     (try (have c55b3 : ¬ (t201 = t276 && (t202 == t277 && (t203 == t278 && (t204 == t279 && (t205 == t280))))) := by simpa using c55))
                     clear c55
                     exact absurd H (by simp)
                  ·replace c52 := Bool.eq_false_iff.mpr c52
                   subst c52
                   have H1 : (some false) = some true := by rw [if_neg (show ¬ (false = true) by decide)] at H; exact H
                   clear H
                   have H := H1
                   clear H1
                   exact absurd H (by simp)
                 ·rw [if_neg c51] at H
                  have c51b0 : (t160 == t271 && (t161 == t272 && (t162 == t273 && (t163 == t274 && (t164 == t275))))) = false := by simpa using c51
                  (try (have c51b1 : decide (t160 = t271 && (t161 == t272 && (t162 == t273 && (t163 == t274 && (t164 == t275))))) = false := by simpa using c51))
                  (try (have c51b2 : (t160 == t271 && (t161 == t272 && (t162 == t273 && (t163 == t274 && (t164 == t275))))) = false := by simpa using c51))
                  (try (have c51b3 : ¬ (t160 = t271 && (t161 == t272 && (t162 == t273 && (t163 == t274 && (t164 == t275))))) := by simpa using c51))
                  clear c51
                  exact absurd H (by simp)
                ·rw [if_neg c49] at H
                 have c49b0 : (t148 == t266 && (t149 == t267 && (t150 == t268 && (t151 == t269 && (t152 == t270))))) = false := by simpa using c49
                 (try (have c49b1 : decide (t148 = t266 && (t149 == t267 && (t150 == t268 && (t151 == t269 && (t152 == t270))))) = false := by simpa using c49))
                 (try (have c49b2 : (t148 == t266 && (t149 == t267 && (t150 == t268 && (t151 == t269 && (t152 == t270))))) = false := by simpa using c49))
                 (try (have c49b3 : ¬ (t148 = t266 && (t149 == t267 && (t150 == t268 && (t151 == t269 && (t152 == t270))))) := by simpa using c49))
                 clear c49
                 exact absurd H (by simp)
               ·rw [if_neg c47] at H
                have c47b0 : (t136 == t261 && (t137 == t262 && (t138 == t263 && (t139 == t264 && (t140 == t265))))) = false := by simpa using c47
                (try (have c47b1 : decide (t136 = t261 && (t137 == t262 && (t138 == t263 && (t139 == t264 && (t140 == t265))))) = false := by simpa using c47))
                (try (have c47b2 : (t136 == t261 && (t137 == t262 && (t138 == t263 && (t139 == t264 && (t140 == t265))))) = false := by simpa using c47))
                (try (have c47b3 : ¬ (t136 = t261 && (t137 == t262 && (t138 == t263 && (t139 == t264 && (t140 == t265))))) := by simpa using c47))
                clear c47
                exact absurd H (by simp)
              ·rw [if_neg c45] at H
               have c45b0 : (t119 == t256 && (t120 == t257 && (t121 == t258 && (t122 == t259 && (t123 == t260))))) = false := by simpa using c45
               (try (have c45b1 : decide (t119 = t256 && (t120 == t257 && (t121 == t258 && (t122 == t259 && (t123 == t260))))) = false := by simpa using c45))
               (try (have c45b2 : (t119 == t256 && (t120 == t257 && (t121 == t258 && (t122 == t259 && (t123 == t260))))) = false := by simpa using c45))
               (try (have c45b3 : ¬ (t119 = t256 && (t120 == t257 && (t121 == t258 && (t122 == t259 && (t123 == t260))))) := by simpa using c45))
               clear c45
               exact absurd H (by simp)
             ·rw [if_neg c43] at H
              have c43b0 : (t107 == t251 && (t108 == t252 && (t109 == t253 && (t110 == t254 && (t111 == t255))))) = false := by simpa using c43
              (try (have c43b1 : decide (t107 = t251 && (t108 == t252 && (t109 == t253 && (t110 == t254 && (t111 == t255))))) = false := by simpa using c43))
              (try (have c43b2 : (t107 == t251 && (t108 == t252 && (t109 == t253 && (t110 == t254 && (t111 == t255))))) = false := by simpa using c43))
              (try (have c43b3 : ¬ (t107 = t251 && (t108 == t252 && (t109 == t253 && (t110 == t254 && (t111 == t255))))) := by simpa using c43))
              clear c43
              exact absurd H (by simp)
            ·rw [if_neg c41] at H
             have c41b0 : (t249 == 0) = false := beq_eq_false_iff_ne.mpr c41
             have c41b1 : (t249 != 0) = true := bne_iff_ne.mpr c41
             exact absurd H (by simp)
           ·rw [if_neg c40] at H
            have c40b0 : (t243 == 0) = false := beq_eq_false_iff_ne.mpr c40
            have c40b1 : (t243 != 0) = true := bne_iff_ne.mpr c40
            exact absurd H (by simp)
          ·rw [if_neg c39] at H
           have c39b0 : (t236 == 0) = false := beq_eq_false_iff_ne.mpr c39
           have c39b1 : (t236 != 0) = true := bne_iff_ne.mpr c39
           exact absurd H (by simp)
         ·rw [if_neg c38] at H
          have c38b0 : (t223 == 6) = false := beq_eq_false_iff_ne.mpr c38
          have c38b1 : (t223 != 6) = true := bne_iff_ne.mpr c38
          exact absurd H (by simp)
        ·rw [if_neg c37] at H
         have c37b0 : (t206 == 0) = false := beq_eq_false_iff_ne.mpr c37
         have c37b1 : (t206 != 0) = true := bne_iff_ne.mpr c37
         exact absurd H (by simp)
       ·rw [if_neg c36] at H
        have c36b0 : (t190 == 0) = false := beq_eq_false_iff_ne.mpr c36
        have c36b1 : (t190 != 0) = true := bne_iff_ne.mpr c36
        exact absurd H (by simp)
      ·rw [if_neg c35] at H
       have c35b0 : (t178 == 0) = false := beq_eq_false_iff_ne.mpr c35
       have c35b1 : (t178 != 0) = true := bne_iff_ne.mpr c35
       exact absurd H (by simp)
     ·rw [if_neg c34] at H
      have c34b0 : (t165 == 0) = false := beq_eq_false_iff_ne.mpr c34
      have c34b1 : (t165 != 0) = true := bne_iff_ne.mpr c34
      exact absurd H (by simp)
    ·rw [if_neg c33] at H
     have c33b0 : (t153 == 0) = false := beq_eq_false_iff_ne.mpr c33
     have c33b1 : (t153 != 0) = true := bne_iff_ne.mpr c33
     exact absurd H (by simp)
   ·rw [if_neg c32] at H
    have c32b0 : (t141 == 0) = false := beq_eq_false_iff_ne.mpr c32
    have c32b1 : (t141 != 0) = true := bne_iff_ne.mpr c32
    exact absurd H (by simp)
  ·rw [if_neg c31] at H
   have c31b0 : (t124 == 0) = false := beq_eq_false_iff_ne.mpr c31
   have c31b1 : (t124 != 0) = true := bne_iff_ne.mpr c31
   exact absurd H (by simp)
 ·rw [if_neg c30] at H
  have c30b0 : (t112 == 0) = false := beq_eq_false_iff_ne.mpr c30
  have c30b1 : (t112 != 0) = true := bne_iff_ne.mpr c30
  exact absurd H (by simp)
def spoondriftlaw01_awake.Pure : Prop := spoondriftlaw01_awake.f  = some true
theorem spoondriftlaw01_awake.walk (P : spoondriftlaw01_awake.Pure)  (w : World) (ht : Go.Proofs.YtepdnjjfhbjcjaaGreatDoor.Tabs w)  :
  Calls Tryz.prog 5 #[] w fun e w' => e = .returned (.bool true) ∧ Below w.heap.size w w' := by
 have h := P
 refine (spoondriftlaw01_awake.calls  w h ht).mono ?_
 rintro e w' ⟨rfl,hd⟩
 exact ⟨rfl,hd⟩
end Go.Proofs.YtepdnjjfhbjcjaaGreatDoorPA
end
end
