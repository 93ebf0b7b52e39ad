/- Proved: for every list of numbers the law PlaysChecked answers true and leaves its argument as it was (the tied card); no condition beyond the row's own. Text 5 of 14. -/
import Derived.Test.YteoboibjepokoaaGreatDoorProg
import Derived.Test.YteoboibjepokoaaGreatDoorW4
set_option linter.unusedVariables false
set_option linter.unusedSimpArgs false
set_option linter.unusedSectionVars false
set_option linter.all false
set_option maxRecDepth 100000
namespace Go.Proofs.YteoboibjepokoaaGreatDoor.Av
open Go.RowKit
def s3 : SCode :=
  (.seq (.region [⟨(some 2), .mov (.val (.bool false)), none⟩])
  (.seq (.region [⟨(some 16), .mov (.tmp 0), none⟩,
    ⟨(some 17), .build [.nils, .int .i64 0] [(0, 1, .tmp 16)], none⟩,
    ⟨(some 18), .box (.tmp 17), none⟩,
    ⟨(some 3), .mov (.tmp 18), none⟩])
  (.seq (.region [⟨(some 19), .mov (.tmp 3), none⟩,
    ⟨(some 20), .call (.val (.clos 4 [] [])) [.tmp 19], none⟩,
    ⟨(some 21), .mov (.tmp 3), none⟩,
    ⟨(some 22), .buildF 1 [.val (.int .i64 0), .val (.int .i64 1), .val (.int .i64 3), .val (.int .i64 8), .val (.int .i64 (-1)), .val (.int .i64 50)], none⟩,
    ⟨(some 23), .call (.val (.clos 5 [] [])) [.tmp 21, .tmp 22], none⟩,
    ⟨(some 4), .alloc (.agg [.nils, .nils]), none⟩,
    ⟨none, .store 2 (.tmp 4) (.tmp 20), none⟩,
    ⟨(some 5), .mov (.tmp 23), none⟩])
  (.seq (.region [⟨(some 25), .load true 2 (.tmp 4), none⟩,
    ⟨(some 26), .call (.val (.clos 6 [] [])) [.tmp 25], none⟩,
    ⟨(some 24), .mov (.tmp 26), none⟩,
    ⟨(some 27), .extract (.tmp 24) 0, none⟩,
    ⟨(some 28), .extract (.tmp 24) 1, none⟩,
    ⟨(some 6), .mov (.tmp 27), none⟩,
    ⟨(some 7), .mov (.tmp 28), none⟩])
  (.seq (.region [⟨(some 30), .load true 2 (.tmp 4), none⟩,
    ⟨(some 31), .mov (.tmp 5), none⟩,
    ⟨(some 32), .call (.val (.clos 7 [] [])) [.tmp 30, .tmp 31], none⟩,
    ⟨(some 29), .mov (.tmp 32), none⟩,
    ⟨(some 33), .extract (.tmp 29) 0, none⟩,
    ⟨(some 34), .extract (.tmp 29) 1, none⟩,
    ⟨(some 35), .extract (.tmp 29) 2, none⟩,
    ⟨(some 8), .alloc (.agg [.int .i64 0, .str ⟨#[]⟩, .str ⟨#[]⟩, .str ⟨#[]⟩, .str ⟨#[]⟩, .int .i64 0, .int .i64 0, .str ⟨#[]⟩, .nils, .nils, .nils, .str ⟨#[]⟩, .nils]), none⟩,
    ⟨none, .store 13 (.tmp 8) (.tmp 33), none⟩,
    ⟨(some 9), .mov (.tmp 34), none⟩,
    ⟨(some 10), .mov (.tmp 35), none⟩])
  (.seq (.region [⟨(some 36), .load true 2 (.tmp 4), none⟩,
    ⟨(some 37), .call (.val (.clos 8 [] [])) [.tmp 36], none⟩,
    ⟨(some 11), .mov (.tmp 37), none⟩])
  (.seq (.region [⟨(some 38), .mov (.tmp 11), none⟩,
    ⟨(some 12), .mov (.tmp 38), none⟩,
    ⟨(some 13), .mov (.val (.int .i64 0)), none⟩,
    ⟨(some 14), .mov (.val (.str ⟨#[]⟩)), none⟩])
  (.seq (.region [⟨(some 39), .build [.int .i64 0, .str ⟨#[]⟩, .str ⟨#[]⟩, .str ⟨#[]⟩, .str ⟨#[]⟩, .int .i64 0, .int .i64 0, .str ⟨#[]⟩, .nils, .nils, .nils, .str ⟨#[]⟩, .nils] [], none⟩,
    ⟨(some 15), .alloc (.agg [.int .i64 0, .str ⟨#[]⟩, .str ⟨#[]⟩, .str ⟨#[]⟩, .str ⟨#[]⟩, .int .i64 0, .int .i64 0, .str ⟨#[]⟩, .nils, .nils, .nils, .str ⟨#[]⟩, .nils]), none⟩,
    ⟨none, .store 13 (.tmp 15) (.tmp 39), none⟩])
  (.seq (.seq (.region [⟨(some 40), .mov (.tmp 11), none⟩,
    ⟨(some 41), .bin .eql (.tmp 40) (.val (.int .i64 0)), none⟩])
  (.cond (.tmp 41) (.seq (.region [⟨(some 42), .load true 2 (.tmp 4), none⟩,
    ⟨(some 43), .call (.val (.clos 9 [] [])) [.tmp 42], none⟩,
    ⟨(some 13), .mov (.tmp 43), none⟩])
  (.region [⟨(some 45), .load true 2 (.tmp 4), none⟩,
    ⟨(some 46), .mov (.tmp 5), none⟩,
    ⟨(some 47), .call (.val (.clos 10 [] [])) [.tmp 45, .tmp 46], none⟩,
    ⟨(some 44), .mov (.tmp 47), none⟩,
    ⟨(some 48), .extract (.tmp 44) 0, none⟩,
    ⟨(some 49), .extract (.tmp 44) 1, none⟩,
    ⟨(some 50), .extract (.tmp 44) 2, none⟩,
    ⟨none, .store 13 (.tmp 15) (.tmp 48), none⟩,
    ⟨(some 14), .mov (.tmp 49), none⟩,
    ⟨(some 12), .mov (.tmp 50), none⟩])) .skip))
  (.seq (.region [⟨(some 51), .load true 2 (.tmp 4), none⟩,
    ⟨(some 52), .call (.val (.clos 11 [] [])) [.tmp 51], none⟩,
    ⟨(some 53), .mov (.tmp 11), none⟩,
    ⟨(some 54), .bin .eql (.tmp 52) (.tmp 53), none⟩,
    ⟨(some 55), .mov (.tmp 54), none⟩,
    ⟨(some 56), .mov (.tmp 7), (some (55, true))⟩,
    ⟨(some 57), .mov (.tmp 11), (some (55, true))⟩,
    ⟨(some 58), .bin .eql (.tmp 56) (.tmp 57), (some (55, true))⟩,
    ⟨(some 59), .pick (.tmp 55) (.tmp 58) (.val (.bool false)), none⟩,
    ⟨(some 60), .mov (.tmp 59), none⟩,
    ⟨(some 61), .mov (.tmp 6), (some (60, true))⟩,
    ⟨(some 62), .mov (.tmp 13), (some (60, true))⟩,
    ⟨(some 63), .bin .eql (.tmp 61) (.tmp 62), (some (60, true))⟩,
    ⟨(some 64), .pick (.tmp 60) (.tmp 63) (.val (.bool false)), none⟩,
    ⟨(some 65), .mov (.tmp 64), none⟩,
    ⟨(some 66), .mov (.tmp 10), (some (65, true))⟩,
    ⟨(some 67), .mov (.tmp 12), (some (65, true))⟩,
    ⟨(some 68), .bin .eql (.tmp 66) (.tmp 67), (some (65, true))⟩,
    ⟨(some 69), .pick (.tmp 65) (.tmp 68) (.val (.bool false)), none⟩,
    ⟨(some 70), .mov (.tmp 69), none⟩,
    ⟨(some 71), .load true 13 (.tmp 8), (some (70, true))⟩,
    ⟨(some 72), .load true 13 (.tmp 15), (some (70, true))⟩,
    ⟨(some 73), .call (.val (.clos 12 [] [])) [.tmp 71, .tmp 72], (some (70, true))⟩,
    ⟨(some 74), .pick (.tmp 70) (.tmp 73) (.val (.bool false)), none⟩,
    ⟨(some 75), .mov (.tmp 74), none⟩,
    ⟨(some 76), .mov (.tmp 9), (some (75, true))⟩,
    ⟨(some 77), .mov (.tmp 14), (some (75, true))⟩,
    ⟨(some 78), .bin .eql (.tmp 76) (.tmp 77), (some (75, true))⟩,
    ⟨(some 79), .pick (.tmp 75) (.tmp 78) (.val (.bool false)), none⟩,
    ⟨(some 80), .mov (.tmp 79), none⟩,
    ⟨(some 81), .call (.val (.clos 13 [] [])) [], (some (80, true))⟩,
    ⟨(some 82), .pick (.tmp 80) (.tmp 81) (.val (.bool false)), none⟩,
    ⟨(some 2), .mov (.tmp 82), none⟩])
  .ret))))))))))
def r3 : List SRes := [.tmp 2]
theorem c3 : Code1 Tryz.prog 3 s3 r3 83 :=
  ⟨⟨Tryz.f3, _, Tryz.func3, rfl, rfl, by kernel_rfl, by kernel_rfl⟩, by kernel_rfl, by kernel_rfl⟩
def s5 : SCode :=
  (.seq (.region [⟨(some 4), .mov (.val (.int .i64 0)), none⟩])
  (.seq (.region [⟨(some 5), .mov (.tmp 1), none⟩,
    ⟨(some 6), .mov (.tmp 0), none⟩,
    ⟨(some 7), .mov (.tmp 1), none⟩,
    ⟨(some 8), .len false (.tmp 7), none⟩,
    ⟨(some 9), .call (.val (.clos 16 [] [])) [.tmp 6, .tmp 8], none⟩,
    ⟨(some 10), .iaddr 1 (.tmp 5) (.tmp 9), none⟩,
    ⟨(some 11), .load false 1 (.tmp 10), none⟩,
    ⟨(some 4), .mov (.tmp 11), none⟩])
  .ret))
def r5 : List SRes := [.tmp 4]
theorem c5 : Code1 Tryz.prog 5 s5 r5 12 :=
  ⟨⟨Tryz.f5, _, Tryz.func5, rfl, rfl, by kernel_rfl, by kernel_rfl⟩, by kernel_rfl, by kernel_rfl⟩
def s6 : SCode :=
  (.seq (.region [⟨(some 1), .box (.tmp 0), none⟩,
    ⟨(some 2), .mov (.val (.int .i64 0)), none⟩,
    ⟨(some 3), .mov (.val (.int .i64 0)), none⟩])
  (.seq (.seq (.region [⟨(some 5), .load true 2 (.tmp 1), none⟩,
    ⟨(some 6), .call (.val (.clos 11 [] [])) [.tmp 5], none⟩,
    ⟨(some 4), .mov (.tmp 6), none⟩])
  (.seq (.region [⟨(some 7), .mov (.tmp 4), none⟩,
    ⟨(some 8), .bin .neq (.tmp 7) (.val (.int .i64 0)), none⟩])
  (.cond (.tmp 8) (.seq (.region [⟨(some 9), .mov (.tmp 4), none⟩,
    ⟨(some 2), .mov (.val (.int .i64 0)), none⟩,
    ⟨(some 3), .mov (.tmp 9), none⟩])
  .ret) .skip)))
  (.seq (.region [⟨(some 10), .load true 2 (.tmp 1), none⟩,
    ⟨(some 11), .call (.val (.clos 19 [] [])) [.tmp 10], none⟩,
    ⟨(some 2), .mov (.tmp 11), none⟩,
    ⟨(some 3), .mov (.val (.int .i64 0)), none⟩])
  .ret)))
def r6 : List SRes := [.tmp 2, .tmp 3]
theorem c6 : Code1 Tryz.prog 6 s6 r6 12 :=
  ⟨⟨Tryz.f6, _, Tryz.func6, rfl, rfl, by kernel_rfl, by kernel_rfl⟩, by kernel_rfl, by kernel_rfl⟩
def s7 : SCode :=
  (.seq (.region [⟨(some 2), .box (.tmp 0), none⟩,
    ⟨(some 3), .box (.tmp 1), none⟩,
    ⟨(some 4), .alloc (.agg [.int .i64 0, .str ⟨#[]⟩, .str ⟨#[]⟩, .str ⟨#[]⟩, .str ⟨#[]⟩, .int .i64 0, .int .i64 0, .str ⟨#[]⟩, .nils, .nils, .nils, .str ⟨#[]⟩, .nils]), none⟩,
    ⟨(some 5), .mov (.val (.str ⟨#[]⟩)), none⟩,
    ⟨(some 6), .mov (.val (.int .i64 0)), none⟩])
  (.seq (.seq (.region [⟨(some 11), .load true 2 (.tmp 2), none⟩,
    ⟨(some 12), .call (.val (.clos 11 [] [])) [.tmp 11], none⟩,
    ⟨(some 7), .mov (.tmp 12), none⟩])
  (.seq (.region [⟨(some 13), .mov (.tmp 7), none⟩,
    ⟨(some 14), .bin .neq (.tmp 13) (.val (.int .i64 0)), none⟩])
  (.cond (.tmp 14) (.seq (.region [⟨(some 15), .build [.int .i64 0, .str ⟨#[]⟩, .str ⟨#[]⟩, .str ⟨#[]⟩, .str ⟨#[]⟩, .int .i64 0, .int .i64 0, .str ⟨#[]⟩, .nils, .nils, .nils, .str ⟨#[]⟩, .nils] [], none⟩,
    ⟨(some 16), .mov (.tmp 7), none⟩,
    ⟨none, .store 13 (.tmp 4) (.tmp 15), none⟩,
    ⟨(some 5), .mov (.val (.str ⟨#[]⟩)), none⟩,
    ⟨(some 6), .mov (.tmp 16), none⟩])
  .ret) .skip)))
  (.seq (.seq (.qregion [⟨⟨(some 17), .load false 1 (.tmp 3), none⟩, false, 0, 0, 0⟩,
    ⟨⟨(some 18), .bin .lss (.tmp 17) (.val (.int .i64 0)), none⟩, false, 0, 0, 1⟩,
    ⟨⟨(some 19), .mov (.tmp 18), none⟩, false, 0, 0, 3⟩,
    ⟨⟨(some 20), .load false 1 (.tmp 3), (some (19, false))⟩, false, 0, 0, 7⟩,
    ⟨⟨(some 21), .load true 2 (.tmp 2), (some (19, false))⟩, false, 0, 0, 7⟩,
    ⟨⟨(some 22), .call (.val (.clos 19 [] [])) [.tmp 21], (some (19, false))⟩, false, 0, 0, 23⟩,
    ⟨⟨(some 23), .bin .geq (.tmp 20) (.tmp 22), (some (19, false))⟩, false, 0, 0, 63⟩,
    ⟨⟨(some 24), .pick (.tmp 19) (.val (.bool true)) (.tmp 23), none⟩, false, 0, 0, 127⟩])
  (.cond (.tmp 24) (.seq (.region [⟨(some 25), .build [.int .i64 0, .str ⟨#[]⟩, .str ⟨#[]⟩, .str ⟨#[]⟩, .str ⟨#[]⟩, .int .i64 0, .int .i64 0, .str ⟨#[]⟩, .nils, .nils, .nils, .str ⟨#[]⟩, .nils] [], none⟩,
    ⟨none, .store 13 (.tmp 4) (.tmp 25), none⟩,
    ⟨(some 5), .mov (.val (.str ⟨#[]⟩)), none⟩,
    ⟨(some 6), .mov (.val (.int .i64 1)), none⟩])
  .ret) .skip))
  (.seq (.region [⟨(some 8), .alloc (.agg [.int .i64 0, .str ⟨#[]⟩, .str ⟨#[]⟩, .str ⟨#[]⟩, .str ⟨#[]⟩, .int .i64 0, .int .i64 0, .str ⟨#[]⟩, .nils, .nils, .nils, .str ⟨#[]⟩, .nils]), none⟩])
  (.seq (.region [⟨(some 9), .alloc (.str ⟨#[]⟩), none⟩,
    ⟨none, .store 1 (.tmp 9) (.val (.str ⟨#[]⟩)), none⟩])
  (.seq (.region [⟨(some 26), .load true 2 (.tmp 2), none⟩,
    ⟨(some 27), .call (.val (.clos 20 [] [])) [.tmp 26, .val (.clos 21 [] [])], none⟩,
    ⟨(some 10), .alloc (.agg [.nils, .nils]), none⟩,
    ⟨none, .store 2 (.tmp 10) (.tmp 27), none⟩])
  (.seq (.region [⟨(some 28), .load true 2 (.tmp 10), none⟩,
    ⟨(some 29), .mkfn 23 [] [.tmp 3, .tmp 8, .tmp 2, .tmp 9], none⟩,
    ⟨(some 30), .call (.val (.clos 22 [] [])) [.tmp 28, .tmp 29], none⟩])
  (.seq (.qregion [⟨⟨(some 31), .load true 13 (.tmp 8), none⟩, false, 0, 0, 0⟩,
    ⟨⟨(some 32), .load false 1 (.tmp 9), none⟩, false, 0, 1, 0⟩,
    ⟨⟨none, .store 13 (.tmp 4) (.tmp 31), none⟩, true, 0, 0, 1⟩,
    ⟨⟨(some 5), .mov (.tmp 32), none⟩, false, 1, 1, 7⟩,
    ⟨⟨(some 6), .mov (.val (.int .i64 0)), none⟩, false, 1, 1, 15⟩])
  .ret))))))))
def r7 : List SRes := [.cell true 13 4, .tmp 5, .tmp 6]
theorem c7 : Code1 Tryz.prog 7 s7 r7 33 :=
  ⟨⟨Tryz.f7, _, Tryz.func7, rfl, rfl, by kernel_rfl, by kernel_rfl⟩, by kernel_rfl, by kernel_rfl⟩
def s8 : SCode :=
  (.seq (.region [⟨(some 1), .box (.tmp 0), none⟩,
    ⟨(some 2), .mov (.val (.int .i64 0)), none⟩])
  (.seq (.seq (.region [⟨(some 10), .load true 2 (.tmp 1), none⟩,
    ⟨(some 11), .call (.val (.clos 24 [] [])) [.tmp 10], none⟩,
    ⟨(some 3), .mov (.tmp 11), none⟩])
  (.seq (.region [⟨(some 12), .mov (.tmp 3), none⟩,
    ⟨(some 13), .bin .neq (.tmp 12) (.val (.int .i64 0)), none⟩])
  (.cond (.tmp 13) (.seq (.region [⟨(some 14), .mov (.tmp 3), none⟩,
    ⟨(some 2), .mov (.tmp 14), none⟩])
  .ret) .skip)))
  (.seq (.seq (.region [⟨(some 15), .load true 2 (.tmp 1), none⟩,
    ⟨(some 16), .call (.val (.clos 25 [] [])) [.tmp 15], none⟩,
    ⟨(some 17), .len false (.tmp 16), none⟩,
    ⟨(some 18), .mov (.val (.int .i64 0)), none⟩])
  (.block 0 (.loop (.seq (.region [⟨(some 19), .bin .lss (.tmp 18) (.tmp 17), none⟩])
  (.seq (.cond (.tmp 19) .skip (.exit 0))
  (.seq (.block 1 (.seq (.region [⟨(some 20), .iaddr 15 (.tmp 16) (.tmp 18), none⟩,
    ⟨(some 21), .load true 15 (.tmp 20), none⟩,
    ⟨(some 5), .alloc (.agg [.int .i64 0, .str ⟨#[]⟩, .str ⟨#[]⟩, .str ⟨#[]⟩, .str ⟨#[]⟩, .int .i64 0, .int .i64 0, .str ⟨#[]⟩, .nils, .nils, .nils, .str ⟨#[]⟩, .nils, .int .i64 0, .bool false]), none⟩,
    ⟨none, .store 15 (.tmp 5) (.tmp 21), none⟩])
  (.seq (.region [⟨(some 22), .faddr 0 (.tmp 5), none⟩,
    ⟨(some 23), .load true 13 (.tmp 22), none⟩,
    ⟨(some 6), .alloc (.agg [.int .i64 0, .str ⟨#[]⟩, .str ⟨#[]⟩, .str ⟨#[]⟩, .str ⟨#[]⟩, .int .i64 0, .int .i64 0, .str ⟨#[]⟩, .nils, .nils, .nils, .str ⟨#[]⟩, .nils]), none⟩,
    ⟨none, .store 13 (.tmp 6) (.tmp 23), none⟩])
  (.seq (.seq (.region [⟨(some 24), .faddr 13 (.tmp 5), none⟩,
    ⟨(some 25), .load false 1 (.tmp 24), none⟩,
    ⟨(some 26), .bin .geq (.tmp 25) (.val (.int .i64 0)), none⟩,
    ⟨(some 27), .mov (.tmp 26), none⟩,
    ⟨(some 28), .load true 13 (.tmp 6), (some (27, true))⟩,
    ⟨(some 29), .call (.val (.clos 27 [] [])) [.tmp 28], (some (27, true))⟩,
    ⟨(some 30), .mkfn 28 [] [.tmp 1, .tmp 5], (some (27, true))⟩,
    ⟨(some 31), .call (.val (.clos 26 [] [])) [.tmp 29, .tmp 30], (some (27, true))⟩,
    ⟨(some 32), .pick (.tmp 27) (.tmp 31) (.val (.bool false)), none⟩])
  (.cond (.tmp 32) (.seq (.region [⟨(some 2), .mov (.val (.int .i64 5)), none⟩])
  .ret) .skip))
  (.seq (.seq (.region [⟨(some 33), .faddr 0 (.tmp 6), none⟩,
    ⟨(some 34), .load false 1 (.tmp 33), none⟩,
    ⟨(some 35), .bin .neq (.tmp 34) (.val (.int .i64 5)), none⟩])
  (.cond (.tmp 35) (.seq (.seq (.region [⟨(some 36), .faddr 2 (.tmp 6), none⟩,
    ⟨(some 37), .load false 1 (.tmp 36), none⟩,
    ⟨(some 38), .faddr 1 (.tmp 6), none⟩,
    ⟨(some 39), .load false 1 (.tmp 38), none⟩,
    ⟨(some 40), .bin .eql (.tmp 37) (.tmp 39), none⟩])
  (.cond (.tmp 40) (.seq (.region [⟨(some 2), .mov (.val (.int .i64 6)), none⟩])
  .ret) .skip))
  (.exit 1)) .skip))
  (.seq (.region [⟨(some 41), .load true 2 (.tmp 1), none⟩,
    ⟨(some 42), .faddr 11 (.tmp 6), none⟩,
    ⟨(some 43), .load false 1 (.tmp 42), none⟩,
    ⟨(some 44), .call (.val (.clos 30 [] [])) [.tmp 41, .tmp 43], none⟩,
    ⟨(some 7), .mov (.tmp 44), none⟩])
  (.seq (.block 2 (.seq (.region [⟨(some 46), .mov (.tmp 7), none⟩,
    ⟨(some 47), .bin .lss (.tmp 46) (.val (.int .i64 0)), none⟩,
    ⟨(some 45), .mov (.tmp 47), none⟩])
  (.cond (.tmp 45) (.seq (.region [⟨(some 2), .mov (.val (.int .i64 8)), none⟩])
  .ret) (.seq (.qregion [⟨⟨(some 49), .faddr 0 (.tmp 1), none⟩, false, 0, 0, 0⟩,
    ⟨⟨(some 50), .load false 1 (.tmp 49), none⟩, false, 0, 0, 1⟩,
    ⟨⟨(some 51), .mov (.tmp 7), none⟩, false, 0, 0, 0⟩,
    ⟨⟨(some 52), .iaddr 3 (.tmp 50) (.tmp 51), none⟩, false, 0, 0, 7⟩,
    ⟨⟨(some 53), .faddr 1 (.tmp 52), none⟩, false, 0, 0, 15⟩,
    ⟨⟨(some 54), .load false 1 (.tmp 53), none⟩, false, 0, 0, 31⟩,
    ⟨⟨(some 55), .len false (.tmp 54), none⟩, false, 0, 0, 63⟩,
    ⟨⟨(some 56), .faddr 12 (.tmp 6), none⟩, false, 0, 0, 0⟩,
    ⟨⟨(some 57), .load false 1 (.tmp 56), none⟩, false, 0, 0, 128⟩,
    ⟨⟨(some 58), .len false (.tmp 57), none⟩, false, 0, 0, 384⟩,
    ⟨⟨(some 59), .bin .neq (.tmp 55) (.tmp 58), none⟩, false, 0, 0, 1023⟩,
    ⟨⟨(some 48), .mov (.tmp 59), none⟩, false, 0, 0, 2047⟩])
  (.cond (.tmp 48) (.seq (.region [⟨(some 2), .mov (.val (.int .i64 3)), none⟩])
  .ret) .skip)))))
  (.seq (.region [⟨(some 60), .faddr 12 (.tmp 6), none⟩,
    ⟨(some 61), .load false 1 (.tmp 60), none⟩,
    ⟨(some 62), .len false (.tmp 61), none⟩,
    ⟨(some 63), .mov (.val (.int .i64 0)), none⟩])
  (.block 3 (.loop (.seq (.region [⟨(some 64), .bin .lss (.tmp 63) (.tmp 62), none⟩])
  (.seq (.cond (.tmp 64) .skip (.exit 3))
  (.seq (.block 4 (.seq (.region [⟨(some 65), .mov (.tmp 63), none⟩,
    ⟨(some 66), .iaddr 1 (.tmp 61) (.tmp 63), none⟩,
    ⟨(some 67), .load false 1 (.tmp 66), none⟩,
    ⟨(some 8), .mov (.tmp 65), none⟩,
    ⟨(some 9), .mov (.tmp 67), none⟩])
  (.seq (.region [⟨(some 68), .faddr 12 (.tmp 6), none⟩,
    ⟨(some 69), .load false 1 (.tmp 68), none⟩,
    ⟨(some 70), .mov (.tmp 8), none⟩,
    ⟨(some 71), .slice 1 (.tmp 69) none (some (.tmp 70)), none⟩,
    ⟨(some 72), .mov (.tmp 9), none⟩,
    ⟨(some 73), .call (.val (.clos 29 [] [])) [.tmp 71, .tmp 72], none⟩])
  (.cond (.tmp 73) (.seq (.region [⟨(some 2), .mov (.val (.int .i64 6)), none⟩])
  .ret) .skip))))
  (.region [⟨(some 74), .bin .add (.tmp 63) (.val (.int .i64 1)), none⟩,
    ⟨(some 63), .mov (.tmp 74), none⟩]))))))))))))))
  (.region [⟨(some 75), .bin .add (.tmp 18) (.val (.int .i64 1)), none⟩,
    ⟨(some 18), .mov (.tmp 75), none⟩])))))))
  (.seq (.region [⟨(some 2), .mov (.val (.int .i64 0)), none⟩])
  .ret))))
def r8 : List SRes := [.tmp 2]
theorem c8 : Code1 Tryz.prog 8 s8 r8 76 :=
  ⟨⟨Tryz.f8, _, Tryz.func8, rfl, rfl, by kernel_rfl, by kernel_rfl⟩, by kernel_rfl, by kernel_rfl⟩
def s9 : SCode :=
  (.seq (.region [⟨(some 1), .box (.tmp 0), none⟩,
    ⟨(some 2), .mov (.val (.int .i64 0)), none⟩])
  (.seq (.region [⟨(some 3), .load true 2 (.tmp 1), none⟩,
    ⟨(some 4), .call (.val (.clos 25 [] [])) [.tmp 3], none⟩,
    ⟨(some 5), .len false (.tmp 4), none⟩,
    ⟨(some 2), .mov (.tmp 5), none⟩])
  .ret))
def r9 : List SRes := [.tmp 2]
theorem c9 : Code1 Tryz.prog 9 s9 r9 6 :=
  ⟨⟨Tryz.f9, _, Tryz.func9, rfl, rfl, by kernel_rfl, by kernel_rfl⟩, by kernel_rfl, by kernel_rfl⟩
def s10 : SCode :=
  (.seq (.region [⟨(some 2), .box (.tmp 0), none⟩,
    ⟨(some 4), .alloc (.agg [.int .i64 0, .str ⟨#[]⟩, .str ⟨#[]⟩, .str ⟨#[]⟩, .str ⟨#[]⟩, .int .i64 0, .int .i64 0, .str ⟨#[]⟩, .nils, .nils, .nils, .str ⟨#[]⟩, .nils]), none⟩,
    ⟨(some 5), .mov (.val (.str ⟨#[]⟩)), none⟩,
    ⟨(some 6), .mov (.val (.int .i64 0)), none⟩])
  (.seq (.region [⟨(some 9), .load true 2 (.tmp 2), none⟩,
    ⟨(some 10), .call (.val (.clos 25 [] [])) [.tmp 9], none⟩,
    ⟨(some 7), .mov (.tmp 10), none⟩])
  (.seq (.seq (.region [⟨(some 11), .mov (.tmp 1), none⟩,
    ⟨(some 12), .mov (.tmp 7), none⟩,
    ⟨(some 13), .len false (.tmp 12), none⟩,
    ⟨(some 14), .bin .sub (.tmp 13) (.val (.int .i64 1)), none⟩,
    ⟨(some 15), .call (.val (.clos 31 [] [])) [.tmp 11, .val (.int .i64 0), .tmp 14], none⟩,
    ⟨(some 16), .un .not (.tmp 15), none⟩])
  (.cond (.tmp 16) (.seq (.region [⟨(some 17), .build [.int .i64 0, .str ⟨#[]⟩, .str ⟨#[]⟩, .str ⟨#[]⟩, .str ⟨#[]⟩, .int .i64 0, .int .i64 0, .str ⟨#[]⟩, .nils, .nils, .nils, .str ⟨#[]⟩, .nils] [], none⟩,
    ⟨none, .store 13 (.tmp 4) (.tmp 17), none⟩,
    ⟨(some 5), .mov (.val (.str ⟨#[]⟩)), none⟩,
    ⟨(some 6), .mov (.val (.int .i64 1)), none⟩])
  .ret) .skip))
  (.seq (.region [⟨(some 8), .mov (.val (.str ⟨#[]⟩)), none⟩])
  (.seq (.seq (.region [⟨(some 18), .mov (.tmp 7), none⟩,
    ⟨(some 19), .mov (.tmp 1), none⟩,
    ⟨(some 20), .iaddr 15 (.tmp 18) (.tmp 19), none⟩,
    ⟨(some 21), .faddr 13 (.tmp 20), none⟩,
    ⟨(some 22), .load false 1 (.tmp 21), none⟩,
    ⟨(some 23), .bin .geq (.tmp 22) (.val (.int .i64 0)), none⟩])
  (.cond (.tmp 23) (.qregion [⟨⟨(some 24), .faddr 0 (.tmp 2), none⟩, false, 0, 0, 0⟩,
    ⟨⟨(some 25), .load false 1 (.tmp 24), none⟩, false, 0, 0, 1⟩,
    ⟨⟨(some 26), .mov (.tmp 7), none⟩, false, 0, 0, 0⟩,
    ⟨⟨(some 27), .mov (.tmp 1), none⟩, false, 0, 0, 0⟩,
    ⟨⟨(some 28), .iaddr 15 (.tmp 26) (.tmp 27), none⟩, false, 0, 0, 12⟩,
    ⟨⟨(some 29), .faddr 13 (.tmp 28), none⟩, false, 0, 0, 28⟩,
    ⟨⟨(some 30), .load false 1 (.tmp 29), none⟩, false, 0, 0, 60⟩,
    ⟨⟨(some 31), .iaddr 3 (.tmp 25) (.tmp 30), none⟩, false, 0, 0, 127⟩,
    ⟨⟨(some 32), .faddr 0 (.tmp 31), none⟩, false, 0, 0, 255⟩,
    ⟨⟨(some 33), .load false 1 (.tmp 32), none⟩, false, 0, 0, 511⟩,
    ⟨⟨(some 8), .mov (.tmp 33), none⟩, false, 0, 0, 1023⟩]) .skip))
  (.seq (.region [⟨(some 34), .mov (.tmp 7), none⟩,
    ⟨(some 35), .mov (.tmp 1), none⟩,
    ⟨(some 36), .iaddr 15 (.tmp 34) (.tmp 35), none⟩,
    ⟨(some 37), .faddr 0 (.tmp 36), none⟩,
    ⟨(some 38), .load true 13 (.tmp 37), none⟩,
    ⟨(some 39), .mov (.tmp 8), none⟩,
    ⟨none, .store 13 (.tmp 4) (.tmp 38), none⟩,
    ⟨(some 5), .mov (.tmp 39), none⟩,
    ⟨(some 6), .mov (.val (.int .i64 0)), none⟩])
  .ret))))))
def r10 : List SRes := [.cell true 13 4, .tmp 5, .tmp 6]
theorem c10 : Code1 Tryz.prog 10 s10 r10 40 :=
  ⟨⟨Tryz.f10, _, Tryz.func10, rfl, rfl, by kernel_rfl, by kernel_rfl⟩, by kernel_rfl, by kernel_rfl⟩
def s11 : SCode :=
  (.seq (.region [⟨(some 1), .box (.tmp 0), none⟩,
    ⟨(some 2), .mov (.val (.int .i64 0)), none⟩])
  (.seq (.seq (.region [⟨(some 5), .load true 2 (.tmp 1), none⟩,
    ⟨(some 6), .call (.val (.clos 32 [] [])) [.tmp 5], none⟩,
    ⟨(some 3), .mov (.tmp 6), none⟩])
  (.seq (.region [⟨(some 7), .mov (.tmp 3), none⟩,
    ⟨(some 8), .bin .neq (.tmp 7) (.val (.int .i64 0)), none⟩])
  (.cond (.tmp 8) (.seq (.region [⟨(some 9), .mov (.tmp 3), none⟩,
    ⟨(some 2), .mov (.tmp 9), none⟩])
  .ret) .skip)))
  (.seq (.region [⟨(some 4), .alloc (.int .i64 0), none⟩,
    ⟨none, .store 1 (.tmp 4) (.val (.int .i64 0)), none⟩])
  (.seq (.region [⟨(some 10), .load true 2 (.tmp 1), none⟩,
    ⟨(some 11), .mkfn 33 [] [.tmp 4, .tmp 1], none⟩,
    ⟨(some 12), .call (.val (.clos 22 [] [])) [.tmp 10, .tmp 11], none⟩])
  (.seq (.region [⟨(some 13), .load false 1 (.tmp 4), none⟩,
    ⟨(some 2), .mov (.tmp 13), none⟩])
  .ret)))))
def r11 : List SRes := [.tmp 2]
theorem c11 : Code1 Tryz.prog 11 s11 r11 14 :=
  ⟨⟨Tryz.f11, _, Tryz.func11, rfl, rfl, by kernel_rfl, by kernel_rfl⟩, by kernel_rfl, by kernel_rfl⟩
def s12 : SCode :=
  (.seq (.region [⟨(some 2), .box (.tmp 0), none⟩,
    ⟨(some 3), .box (.tmp 1), none⟩,
    ⟨(some 4), .mov (.val (.bool false)), none⟩])
  (.seq (.region [⟨(some 5), .faddr 0 (.tmp 2), none⟩,
    ⟨(some 6), .load false 1 (.tmp 5), none⟩,
    ⟨(some 7), .faddr 0 (.tmp 3), none⟩,
    ⟨(some 8), .load false 1 (.tmp 7), none⟩,
    ⟨(some 9), .bin .eql (.tmp 6) (.tmp 8), none⟩,
    ⟨(some 10), .mov (.tmp 9), none⟩,
    ⟨(some 11), .faddr 1 (.tmp 2), (some (10, true))⟩,
    ⟨(some 12), .load false 1 (.tmp 11), (some (10, true))⟩,
    ⟨(some 13), .faddr 1 (.tmp 3), (some (10, true))⟩,
    ⟨(some 14), .load false 1 (.tmp 13), (some (10, true))⟩,
    ⟨(some 15), .bin .eql (.tmp 12) (.tmp 14), (some (10, true))⟩,
    ⟨(some 16), .pick (.tmp 10) (.tmp 15) (.val (.bool false)), none⟩,
    ⟨(some 17), .mov (.tmp 16), none⟩,
    ⟨(some 18), .faddr 2 (.tmp 2), (some (17, true))⟩,
    ⟨(some 19), .load false 1 (.tmp 18), (some (17, true))⟩,
    ⟨(some 20), .faddr 2 (.tmp 3), (some (17, true))⟩,
    ⟨(some 21), .load false 1 (.tmp 20), (some (17, true))⟩,
    ⟨(some 22), .bin .eql (.tmp 19) (.tmp 21), (some (17, true))⟩,
    ⟨(some 23), .pick (.tmp 17) (.tmp 22) (.val (.bool false)), none⟩,
    ⟨(some 24), .mov (.tmp 23), none⟩,
    ⟨(some 25), .faddr 3 (.tmp 2), (some (24, true))⟩,
    ⟨(some 26), .load false 1 (.tmp 25), (some (24, true))⟩,
    ⟨(some 27), .faddr 3 (.tmp 3), (some (24, true))⟩,
    ⟨(some 28), .load false 1 (.tmp 27), (some (24, true))⟩,
    ⟨(some 29), .bin .eql (.tmp 26) (.tmp 28), (some (24, true))⟩,
    ⟨(some 30), .pick (.tmp 24) (.tmp 29) (.val (.bool false)), none⟩,
    ⟨(some 31), .mov (.tmp 30), none⟩,
    ⟨(some 32), .faddr 4 (.tmp 2), (some (31, true))⟩,
    ⟨(some 33), .load false 1 (.tmp 32), (some (31, true))⟩,
    ⟨(some 34), .faddr 4 (.tmp 3), (some (31, true))⟩,
    ⟨(some 35), .load false 1 (.tmp 34), (some (31, true))⟩,
    ⟨(some 36), .bin .eql (.tmp 33) (.tmp 35), (some (31, true))⟩,
    ⟨(some 37), .pick (.tmp 31) (.tmp 36) (.val (.bool false)), none⟩,
    ⟨(some 38), .mov (.tmp 37), none⟩,
    ⟨(some 39), .faddr 11 (.tmp 2), (some (38, true))⟩,
    ⟨(some 40), .load false 1 (.tmp 39), (some (38, true))⟩,
    ⟨(some 41), .faddr 11 (.tmp 3), (some (38, true))⟩,
    ⟨(some 42), .load false 1 (.tmp 41), (some (38, true))⟩,
    ⟨(some 43), .bin .eql (.tmp 40) (.tmp 42), (some (38, true))⟩,
    ⟨(some 44), .pick (.tmp 38) (.tmp 43) (.val (.bool false)), none⟩,
    ⟨(some 45), .mov (.tmp 44), none⟩,
    ⟨(some 46), .faddr 5 (.tmp 2), (some (45, true))⟩,
    ⟨(some 47), .load true 4 (.tmp 46), (some (45, true))⟩,
    ⟨(some 48), .faddr 5 (.tmp 3), (some (45, true))⟩,
    ⟨(some 49), .load true 4 (.tmp 48), (some (45, true))⟩,
    ⟨(some 50), .call (.val (.clos 35 [] [])) [.tmp 47, .tmp 49], (some (45, true))⟩,
    ⟨(some 51), .pick (.tmp 45) (.tmp 50) (.val (.bool false)), none⟩,
    ⟨(some 52), .mov (.tmp 51), none⟩,
    ⟨(some 53), .faddr 12 (.tmp 2), (some (52, true))⟩,
    ⟨(some 54), .load false 1 (.tmp 53), (some (52, true))⟩,
    ⟨(some 55), .faddr 12 (.tmp 3), (some (52, true))⟩,
    ⟨(some 56), .load false 1 (.tmp 55), (some (52, true))⟩,
    ⟨(some 57), .call (.val (.clos 36 [] [])) [.tmp 54, .tmp 56], (some (52, true))⟩,
    ⟨(some 58), .pick (.tmp 52) (.tmp 57) (.val (.bool false)), none⟩,
    ⟨(some 59), .mov (.tmp 58), none⟩,
    ⟨(some 60), .faddr 9 (.tmp 2), (some (59, true))⟩,
    ⟨(some 61), .load false 1 (.tmp 60), (some (59, true))⟩,
    ⟨(some 62), .faddr 9 (.tmp 3), (some (59, true))⟩,
    ⟨(some 63), .load false 1 (.tmp 62), (some (59, true))⟩,
    ⟨(some 64), .call (.val (.clos 37 [] [])) [.tmp 61, .tmp 63], (some (59, true))⟩,
    ⟨(some 65), .pick (.tmp 59) (.tmp 64) (.val (.bool false)), none⟩,
    ⟨(some 66), .mov (.tmp 65), none⟩,
    ⟨(some 67), .faddr 10 (.tmp 2), (some (66, true))⟩,
    ⟨(some 68), .load false 1 (.tmp 67), (some (66, true))⟩,
    ⟨(some 69), .faddr 10 (.tmp 3), (some (66, true))⟩,
    ⟨(some 70), .load false 1 (.tmp 69), (some (66, true))⟩,
    ⟨(some 71), .call (.val (.clos 37 [] [])) [.tmp 68, .tmp 70], (some (66, true))⟩,
    ⟨(some 72), .pick (.tmp 66) (.tmp 71) (.val (.bool false)), none⟩,
    ⟨(some 4), .mov (.tmp 72), none⟩])
  .ret))
def r12 : List SRes := [.tmp 4]
theorem c12 : Code1 Tryz.prog 12 s12 r12 73 :=
  ⟨⟨Tryz.f12, _, Tryz.func12, rfl, rfl, by kernel_rfl, by kernel_rfl⟩, by kernel_rfl, by kernel_rfl⟩
def s13 : SCode :=
  (.seq (.region [⟨(some 0), .mov (.val (.bool false)), none⟩])
  (.seq (.region [⟨(some 4), .call (.val (.clos 38 [] [])) [], none⟩,
    ⟨(some 5), .call (.val (.clos 6 [] [])) [.tmp 4], none⟩,
    ⟨(some 3), .mov (.tmp 5), none⟩,
    ⟨(some 6), .extract (.tmp 3) 0, none⟩,
    ⟨(some 7), .extract (.tmp 3) 1, none⟩,
    ⟨(some 1), .mov (.tmp 6), none⟩,
    ⟨(some 2), .mov (.tmp 7), none⟩])
  (.seq (.region [⟨(some 8), .mov (.tmp 2), none⟩,
    ⟨(some 9), .bin .eql (.tmp 8) (.val (.int .i64 0)), none⟩,
    ⟨(some 10), .mov (.tmp 9), none⟩,
    ⟨(some 11), .mov (.tmp 1), (some (10, true))⟩,
    ⟨(some 12), .bin .eql (.tmp 11) (.val (.int .i64 1)), (some (10, true))⟩,
    ⟨(some 13), .pick (.tmp 10) (.tmp 12) (.val (.bool false)), none⟩,
    ⟨(some 0), .mov (.tmp 13), none⟩])
  .ret)))
def r13 : List SRes := [.tmp 0]
theorem c13 : Code1 Tryz.prog 13 s13 r13 14 :=
  ⟨⟨Tryz.f13, _, Tryz.func13, rfl, rfl, by kernel_rfl, by kernel_rfl⟩, by kernel_rfl, by kernel_rfl⟩
def s14 : SCode :=
  (.seq (.region [⟨(some 4), .mov (.val (.bool false)), none⟩])
  (.seq (.region [⟨(some 5), .mov (.tmp 0), none⟩,
    ⟨(some 6), .mov (.tmp 1), none⟩,
    ⟨(some 7), .call (.val (.clos 16 [] [])) [.tmp 5, .tmp 6], none⟩,
    ⟨(some 8), .bin .eql (.tmp 7) (.val (.int .i64 0)), none⟩,
    ⟨(some 4), .mov (.tmp 8), none⟩])
  .ret))
def r14 : List SRes := [.tmp 4]
theorem c14 : Code1 Tryz.prog 14 s14 r14 9 :=
  ⟨⟨Tryz.f14, _, Tryz.func14, rfl, rfl, by kernel_rfl, by kernel_rfl⟩, by kernel_rfl, by kernel_rfl⟩
def s16 : SCode :=
  (.seq (.region [⟨(some 4), .mov (.val (.int .i64 0)), none⟩])
  (.seq (.region [⟨(some 7), .mov (.tmp 0), none⟩,
    ⟨(some 8), .nilc (.tmp 7), none⟩,
    ⟨(some 9), .faddr 1 (.tmp 8), none⟩,
    ⟨(some 10), .load false 1 (.tmp 9), none⟩,
    ⟨(some 11), .bin .add (.tmp 10) (.val (.int .i64 1)), none⟩,
    ⟨(some 12), .nilc (.tmp 7), none⟩,
    ⟨(some 13), .faddr 1 (.tmp 12), none⟩,
    ⟨none, .store 1 (.tmp 13) (.tmp 11), none⟩])
  (.seq (.seq (.region [⟨(some 14), .mov (.tmp 0), none⟩,
    ⟨(some 15), .nilc (.tmp 14), none⟩,
    ⟨(some 16), .faddr 0 (.tmp 15), none⟩,
    ⟨(some 17), .load false 1 (.tmp 16), none⟩,
    ⟨(some 18), .len false (.tmp 17), none⟩,
    ⟨(some 19), .bin .eql (.tmp 18) (.val (.int .i64 0)), none⟩])
  (.cond (.tmp 19) (.seq (.region [⟨(some 20), .mov (.tmp 0), none⟩,
    ⟨(some 21), .nilc (.tmp 20), none⟩,
    ⟨(some 22), .faddr 1 (.tmp 21), none⟩,
    ⟨(some 23), .load false 1 (.tmp 22), none⟩,
    ⟨(some 24), .bin .mul (.tmp 23) (.val (.int .i64 7919)), none⟩,
    ⟨(some 25), .mov (.tmp 1), none⟩,
    ⟨(some 26), .call (.val (.clos 44 [] [])) [.tmp 24, .tmp 25], none⟩,
    ⟨(some 4), .mov (.tmp 26), none⟩])
  .ret) .skip))
  (.seq (.qregion [⟨⟨(some 27), .mov (.tmp 0), none⟩, false, 0, 0, 0⟩,
    ⟨⟨(some 28), .nilc (.tmp 27), none⟩, false, 0, 0, 1⟩,
    ⟨⟨(some 29), .faddr 1 (.tmp 28), none⟩, false, 0, 0, 3⟩,
    ⟨⟨(some 30), .load false 1 (.tmp 29), none⟩, false, 0, 0, 7⟩,
    ⟨⟨(some 31), .bin .sub (.tmp 30) (.val (.int .i64 1)), none⟩, false, 0, 0, 15⟩,
    ⟨⟨(some 32), .mov (.tmp 0), none⟩, false, 0, 0, 0⟩,
    ⟨⟨(some 33), .nilc (.tmp 32), none⟩, false, 0, 0, 32⟩,
    ⟨⟨(some 34), .faddr 0 (.tmp 33), none⟩, false, 0, 0, 96⟩,
    ⟨⟨(some 35), .load false 1 (.tmp 34), none⟩, false, 0, 0, 224⟩,
    ⟨⟨(some 36), .len false (.tmp 35), none⟩, false, 0, 0, 480⟩,
    ⟨⟨(some 37), .bin .rem (.tmp 31) (.tmp 36), none⟩, false, 0, 0, 1023⟩,
    ⟨⟨(some 5), .mov (.tmp 37), none⟩, false, 0, 0, 2047⟩])
  (.seq (.qregion [⟨⟨(some 38), .mov (.tmp 0), none⟩, false, 0, 0, 0⟩,
    ⟨⟨(some 39), .nilc (.tmp 38), none⟩, false, 0, 0, 1⟩,
    ⟨⟨(some 40), .faddr 1 (.tmp 39), none⟩, false, 0, 0, 3⟩,
    ⟨⟨(some 41), .load false 1 (.tmp 40), none⟩, false, 0, 0, 7⟩,
    ⟨⟨(some 42), .bin .sub (.tmp 41) (.val (.int .i64 1)), none⟩, false, 0, 0, 15⟩,
    ⟨⟨(some 43), .mov (.tmp 0), none⟩, false, 0, 0, 0⟩,
    ⟨⟨(some 44), .nilc (.tmp 43), none⟩, false, 0, 0, 32⟩,
    ⟨⟨(some 45), .faddr 0 (.tmp 44), none⟩, false, 0, 0, 96⟩,
    ⟨⟨(some 46), .load false 1 (.tmp 45), none⟩, false, 0, 0, 224⟩,
    ⟨⟨(some 47), .len false (.tmp 46), none⟩, false, 0, 0, 480⟩,
    ⟨⟨(some 48), .bin .quo (.tmp 42) (.tmp 47), none⟩, false, 0, 0, 1023⟩,
    ⟨⟨(some 6), .mov (.tmp 48), none⟩, false, 0, 0, 2047⟩])
  (.seq (.region [⟨(some 49), .mov (.tmp 0), none⟩,
    ⟨(some 50), .nilc (.tmp 49), none⟩,
    ⟨(some 51), .faddr 0 (.tmp 50), none⟩,
    ⟨(some 52), .load false 1 (.tmp 51), none⟩,
    ⟨(some 53), .mov (.tmp 5), none⟩,
    ⟨(some 54), .iaddr 1 (.tmp 52) (.tmp 53), none⟩,
    ⟨(some 55), .load false 1 (.tmp 54), none⟩,
    ⟨(some 56), .call (.val (.clos 44 [] [])) [.tmp 55, .val (.int .i64 1073741824)], none⟩,
    ⟨(some 57), .mov (.tmp 6), none⟩,
    ⟨(some 58), .mov (.tmp 5), none⟩,
    ⟨(some 59), .bin .add (.val (.int .i64 7919)) (.tmp 58), none⟩,
    ⟨(some 60), .bin .mul (.tmp 57) (.tmp 59), none⟩,
    ⟨(some 61), .bin .add (.tmp 56) (.tmp 60), none⟩,
    ⟨(some 62), .mov (.tmp 1), none⟩,
    ⟨(some 63), .call (.val (.clos 44 [] [])) [.tmp 61, .tmp 62], none⟩,
    ⟨(some 4), .mov (.tmp 63), none⟩])
  .ret))))))
def r16 : List SRes := [.tmp 4]
theorem c16 : Code1 Tryz.prog 16 s16 r16 64 :=
  ⟨⟨Tryz.f16, _, Tryz.func16, rfl, rfl, by kernel_rfl, by kernel_rfl⟩, by kernel_rfl, by kernel_rfl⟩
def s19 : SCode :=
  (.seq (.region [⟨(some 1), .box (.tmp 0), none⟩,
    ⟨(some 2), .mov (.val (.int .i64 0)), none⟩])
  (.seq (.region [⟨(some 6), .faddr 1 (.tmp 1), none⟩,
    ⟨(some 7), .load false 1 (.tmp 6), none⟩,
    ⟨(some 8), .call (.val (.clos 49 [] [])) [.tmp 7], none⟩,
    ⟨(some 3), .mov (.tmp 8), none⟩])
  (.seq (.seq (.region [⟨(some 9), .faddr 0 (.tmp 1), none⟩,
    ⟨(some 10), .load false 1 (.tmp 9), none⟩,
    ⟨(some 11), .len false (.tmp 10), none⟩,
    ⟨(some 12), .mov (.val (.int .i64 0)), none⟩])
  (.block 0 (.loop (.seq (.region [⟨(some 13), .bin .lss (.tmp 12) (.tmp 11), none⟩])
  (.seq (.cond (.tmp 13) .skip (.exit 0))
  (.seq (.block 1 (.seq (.region [⟨(some 14), .iaddr 3 (.tmp 10) (.tmp 12), none⟩,
    ⟨(some 15), .load true 3 (.tmp 14), none⟩,
    ⟨(some 5), .alloc (.agg [.str ⟨#[]⟩, .nils, .nils]), none⟩,
    ⟨none, .store 3 (.tmp 5) (.tmp 15), none⟩])
  (.region [⟨(some 16), .mov (.tmp 3), none⟩,
    ⟨(some 17), .faddr 2 (.tmp 5), none⟩,
    ⟨(some 18), .load false 1 (.tmp 17), none⟩,
    ⟨(some 19), .call (.val (.clos 49 [] [])) [.tmp 18], none⟩,
    ⟨(some 20), .bin .add (.tmp 16) (.tmp 19), none⟩,
    ⟨(some 3), .mov (.tmp 20), none⟩])))
  (.region [⟨(some 21), .bin .add (.tmp 12) (.val (.int .i64 1)), none⟩,
    ⟨(some 12), .mov (.tmp 21), none⟩])))))))
  (.seq (.region [⟨(some 22), .mov (.tmp 3), none⟩,
    ⟨(some 2), .mov (.tmp 22), none⟩])
  .ret))))
def r19 : List SRes := [.tmp 2]
theorem c19 : Code1 Tryz.prog 19 s19 r19 23 :=
  ⟨⟨Tryz.f19, _, Tryz.func19, rfl, rfl, by kernel_rfl, by kernel_rfl⟩, by kernel_rfl, by kernel_rfl⟩
def s20 : SCode :=
  (.seq (.region [⟨(some 2), .box (.tmp 0), none⟩,
    ⟨(some 4), .alloc (.agg [.nils, .nils]), none⟩])
  (.seq (.region [⟨(some 5), .alloc (.agg [.nils, .nils]), none⟩])
  (.seq (.region [⟨(some 6), .mov (.val (.int .i64 0)), none⟩])
  (.seq (.region [⟨(some 10), .faddr 1 (.tmp 2), none⟩,
    ⟨(some 11), .load false 1 (.tmp 10), none⟩,
    ⟨(some 12), .mov (.tmp 1), none⟩,
    ⟨(some 13), .call (.val (.clos 50 [] [])) [.tmp 11, .val (.int .i64 0), .tmp 12], none⟩,
    ⟨(some 9), .mov (.tmp 13), none⟩,
    ⟨(some 14), .extract (.tmp 9) 0, none⟩,
    ⟨(some 15), .extract (.tmp 9) 1, none⟩,
    ⟨(some 16), .faddr 1 (.tmp 5), none⟩,
    ⟨none, .store 1 (.tmp 16) (.tmp 14), none⟩,
    ⟨(some 6), .mov (.tmp 15), none⟩])
  (.seq (.seq (.region [⟨(some 17), .faddr 0 (.tmp 2), none⟩,
    ⟨(some 18), .load false 1 (.tmp 17), none⟩,
    ⟨(some 19), .len false (.tmp 18), none⟩,
    ⟨(some 20), .mov (.val (.int .i64 0)), none⟩])
  (.block 0 (.loop (.seq (.region [⟨(some 21), .bin .lss (.tmp 20) (.tmp 19), none⟩])
  (.seq (.cond (.tmp 21) .skip (.exit 0))
  (.seq (.block 1 (.seq (.region [⟨(some 22), .iaddr 3 (.tmp 18) (.tmp 20), none⟩,
    ⟨(some 23), .load true 3 (.tmp 22), none⟩,
    ⟨(some 8), .alloc (.agg [.str ⟨#[]⟩, .nils, .nils]), none⟩,
    ⟨none, .store 3 (.tmp 8) (.tmp 23), none⟩])
  (.seq (.region [⟨(some 24), .faddr 1 (.tmp 8), none⟩,
    ⟨(some 25), .load false 1 (.tmp 24), none⟩,
    ⟨(some 26), .call (.val (.clos 46 [] [])) [.tmp 25], none⟩,
    ⟨(some 27), .faddr 1 (.tmp 8), none⟩,
    ⟨none, .store 1 (.tmp 27) (.tmp 26), none⟩])
  (.seq (.region [⟨(some 29), .faddr 2 (.tmp 8), none⟩,
    ⟨(some 30), .load false 1 (.tmp 29), none⟩,
    ⟨(some 31), .mov (.tmp 6), none⟩,
    ⟨(some 32), .mov (.tmp 1), none⟩,
    ⟨(some 33), .call (.val (.clos 50 [] [])) [.tmp 30, .tmp 31, .tmp 32], none⟩,
    ⟨(some 28), .mov (.tmp 33), none⟩,
    ⟨(some 34), .extract (.tmp 28) 0, none⟩,
    ⟨(some 35), .extract (.tmp 28) 1, none⟩,
    ⟨(some 36), .faddr 2 (.tmp 8), none⟩,
    ⟨none, .store 1 (.tmp 36) (.tmp 34), none⟩,
    ⟨(some 6), .mov (.tmp 35), none⟩])
  (.region [⟨(some 37), .faddr 0 (.tmp 5), none⟩,
    ⟨(some 38), .load false 1 (.tmp 37), none⟩,
    ⟨(some 39), .load true 3 (.tmp 8), none⟩,
    ⟨(some 40), .buildF 3 [.tmp 39], none⟩,
    ⟨(some 41), .append 3 64 (.tmp 38) (.tmp 40), none⟩,
    ⟨(some 42), .faddr 0 (.tmp 5), none⟩,
    ⟨none, .store 1 (.tmp 42) (.tmp 41), none⟩])))))
  (.region [⟨(some 43), .bin .add (.tmp 20) (.val (.int .i64 1)), none⟩,
    ⟨(some 20), .mov (.tmp 43), none⟩])))))))
  (.seq (.region [⟨(some 44), .load true 2 (.tmp 5), none⟩,
    ⟨none, .store 2 (.tmp 4) (.tmp 44), none⟩])
  .ret))))))
def r20 : List SRes := [.cell true 2 4]
theorem c20 : Code1 Tryz.prog 20 s20 r20 45 :=
  ⟨⟨Tryz.f20, _, Tryz.func20, rfl, rfl, by kernel_rfl, by kernel_rfl⟩, by kernel_rfl, by kernel_rfl⟩
def s21 : SCode :=
  (.seq (.region [⟨(some 3), .box (.tmp 1), none⟩,
    ⟨(some 4), .mov (.val (.nils)), none⟩])
  (.seq (.region [⟨(some 5), .load true 13 (.tmp 3), none⟩,
    ⟨(some 6), .buildF 13 [.tmp 5], none⟩,
    ⟨(some 4), .mov (.tmp 6), none⟩])
  .ret))
def r21 : List SRes := [.tmp 4]
theorem c21 : Code1 Tryz.prog 21 s21 r21 7 :=
  ⟨⟨Tryz.f21, _, Tryz.func21, rfl, rfl, by kernel_rfl, by kernel_rfl⟩, by kernel_rfl, by kernel_rfl⟩
def s22 : SCode :=
  (.seq (.region [⟨(some 2), .box (.tmp 0), none⟩,
    ⟨(some 3), .box (.tmp 1), none⟩])
  (.seq (.region [⟨(some 7), .faddr 1 (.tmp 2), none⟩,
    ⟨(some 8), .load false 1 (.tmp 7), none⟩,
    ⟨(some 9), .mkfn 52 [] [.tmp 3], none⟩,
    ⟨(some 10), .call (.val (.clos 51 [] [])) [.tmp 8, .val (.int .i64 0), .tmp 9], none⟩,
    ⟨(some 4), .mov (.tmp 10), none⟩])
  (.seq (.region [⟨(some 11), .faddr 0 (.tmp 2), none⟩,
    ⟨(some 12), .load false 1 (.tmp 11), none⟩,
    ⟨(some 13), .len false (.tmp 12), none⟩,
    ⟨(some 14), .mov (.val (.int .i64 0)), none⟩])
  (.block 0 (.loop (.seq (.region [⟨(some 15), .bin .lss (.tmp 14) (.tmp 13), none⟩])
  (.seq (.cond (.tmp 15) .skip (.exit 0))
  (.seq (.block 1 (.seq (.region [⟨(some 16), .mov (.tmp 14), none⟩,
    ⟨(some 17), .iaddr 3 (.tmp 12) (.tmp 14), none⟩,
    ⟨(some 18), .load true 3 (.tmp 17), none⟩,
    ⟨(some 5), .alloc (.int .i64 0), none⟩,
    ⟨(some 6), .alloc (.agg [.str ⟨#[]⟩, .nils, .nils]), none⟩,
    ⟨none, .store 1 (.tmp 5) (.tmp 16), none⟩,
    ⟨none, .store 3 (.tmp 6) (.tmp 18), none⟩])
  (.region [⟨(some 19), .faddr 2 (.tmp 6), none⟩,
    ⟨(some 20), .load false 1 (.tmp 19), none⟩,
    ⟨(some 21), .mov (.tmp 4), none⟩,
    ⟨(some 22), .mkfn 53 [] [.tmp 3, .tmp 5], none⟩,
    ⟨(some 23), .call (.val (.clos 51 [] [])) [.tmp 20, .tmp 21, .tmp 22], none⟩,
    ⟨(some 4), .mov (.tmp 23), none⟩])))
  (.region [⟨(some 24), .bin .add (.tmp 14) (.val (.int .i64 1)), none⟩,
    ⟨(some 14), .mov (.tmp 24), none⟩])))))))))
def r22 : List SRes := []
theorem c22 : Code1 Tryz.prog 22 s22 r22 25 :=
  ⟨⟨Tryz.f22, _, Tryz.func22, rfl, rfl, by kernel_rfl, by kernel_rfl⟩, by kernel_rfl, by kernel_rfl⟩
def s23 : SCode :=
  (.seq (.region [⟨(some 9), .box (.tmp 2), none⟩])
  (.seq (.region [⟨(some 10), .mov (.tmp 0), none⟩,
    ⟨(some 11), .load false 1 (.tmp 3), none⟩,
    ⟨(some 12), .bin .eql (.tmp 10) (.tmp 11), none⟩])
  (.cond (.tmp 12) (.seq (.region [⟨(some 13), .load true 13 (.tmp 9), none⟩,
    ⟨none, .store 13 (.tmp 4) (.tmp 13), none⟩])
  (.seq (.region [⟨(some 14), .mov (.tmp 1), none⟩,
    ⟨(some 15), .bin .geq (.tmp 14) (.val (.int .i64 0)), none⟩])
  (.cond (.tmp 15) (.region [⟨(some 16), .faddr 0 (.tmp 5), none⟩,
    ⟨(some 17), .load false 1 (.tmp 16), none⟩,
    ⟨(some 18), .mov (.tmp 1), none⟩,
    ⟨(some 19), .iaddr 3 (.tmp 17) (.tmp 18), none⟩,
    ⟨(some 20), .faddr 0 (.tmp 19), none⟩,
    ⟨(some 21), .load false 1 (.tmp 20), none⟩,
    ⟨none, .store 1 (.tmp 6) (.tmp 21), none⟩]) .skip))) .skip)))
def r23 : List SRes := []
theorem c23 : Code1 Tryz.prog 23 s23 r23 22 :=
  ⟨⟨Tryz.f23, _, Tryz.func23, rfl, rfl, by kernel_rfl, by kernel_rfl⟩, by kernel_rfl, by kernel_rfl⟩
def s24 : SCode :=
  (.seq (.region [⟨(some 1), .box (.tmp 0), none⟩,
    ⟨(some 2), .mov (.val (.int .i64 0)), none⟩])
  (.seq (.seq (.region [⟨(some 11), .faddr 0 (.tmp 1), none⟩,
    ⟨(some 12), .load false 1 (.tmp 11), none⟩,
    ⟨(some 13), .len false (.tmp 12), none⟩,
    ⟨(some 14), .bin .gtr (.tmp 13) (.val (.int .i64 50)), none⟩])
  (.cond (.tmp 14) (.seq (.region [⟨(some 2), .mov (.val (.int .i64 2)), none⟩])
  .ret) .skip))
  (.seq (.region [⟨(some 3), .alloc (.int .i64 0), none⟩,
    ⟨none, .store 1 (.tmp 3) (.val (.int .i64 0)), none⟩])
  (.seq (.region [⟨(some 4), .mov (.val (.nils)), none⟩])
  (.seq (.seq (.region [⟨(some 15), .faddr 0 (.tmp 1), none⟩,
    ⟨(some 16), .load false 1 (.tmp 15), none⟩,
    ⟨(some 17), .len false (.tmp 16), none⟩,
    ⟨(some 18), .mov (.val (.int .i64 0)), none⟩])
  (.block 0 (.loop (.seq (.region [⟨(some 19), .bin .lss (.tmp 18) (.tmp 17), none⟩])
  (.seq (.cond (.tmp 19) .skip (.exit 0))
  (.seq (.block 1 (.seq (.region [⟨(some 20), .iaddr 3 (.tmp 16) (.tmp 18), none⟩,
    ⟨(some 21), .load true 3 (.tmp 20), none⟩,
    ⟨(some 6), .alloc (.agg [.str ⟨#[]⟩, .nils, .nils]), none⟩,
    ⟨none, .store 3 (.tmp 6) (.tmp 21), none⟩])
  (.seq (.block 2 (.seq (.region [⟨(some 23), .faddr 0 (.tmp 6), none⟩,
    ⟨(some 24), .load false 1 (.tmp 23), none⟩,
    ⟨(some 25), .call (.val (.clos 54 [] [])) [.tmp 24], none⟩,
    ⟨(some 26), .un .not (.tmp 25), none⟩,
    ⟨(some 22), .mov (.tmp 26), none⟩])
  (.cond (.tmp 22) (.seq (.region [⟨(some 2), .mov (.val (.int .i64 5)), none⟩])
  .ret) (.seq (.region [⟨(some 28), .mov (.tmp 4), none⟩,
    ⟨(some 29), .faddr 0 (.tmp 6), none⟩,
    ⟨(some 30), .load false 1 (.tmp 29), none⟩,
    ⟨(some 31), .call (.val (.clos 29 [] [])) [.tmp 28, .tmp 30], none⟩,
    ⟨(some 27), .mov (.tmp 31), none⟩])
  (.cond (.tmp 27) (.seq (.region [⟨(some 2), .mov (.val (.int .i64 6)), none⟩])
  .ret) (.seq (.region [⟨(some 33), .faddr 1 (.tmp 6), none⟩,
    ⟨(some 34), .load false 1 (.tmp 33), none⟩,
    ⟨(some 35), .len false (.tmp 34), none⟩,
    ⟨(some 36), .bin .eql (.tmp 35) (.val (.int .i64 0)), none⟩,
    ⟨(some 32), .mov (.tmp 36), none⟩])
  (.cond (.tmp 32) (.seq (.region [⟨(some 2), .mov (.val (.int .i64 8)), none⟩])
  .ret) (.seq (.region [⟨(some 38), .faddr 1 (.tmp 6), none⟩,
    ⟨(some 39), .load false 1 (.tmp 38), none⟩,
    ⟨(some 40), .len false (.tmp 39), none⟩,
    ⟨(some 41), .bin .gtr (.tmp 40) (.val (.int .i64 12)), none⟩,
    ⟨(some 37), .mov (.tmp 41), none⟩])
  (.cond (.tmp 37) (.seq (.region [⟨(some 2), .mov (.val (.int .i64 2)), none⟩])
  .ret) .skip)))))))))
  (.seq (.seq (.region [⟨(some 42), .faddr 1 (.tmp 6), none⟩,
    ⟨(some 43), .load false 1 (.tmp 42), none⟩,
    ⟨(some 44), .len false (.tmp 43), none⟩,
    ⟨(some 45), .mov (.val (.int .i64 0)), none⟩])
  (.block 3 (.loop (.seq (.region [⟨(some 46), .bin .lss (.tmp 45) (.tmp 44), none⟩])
  (.seq (.cond (.tmp 46) .skip (.exit 3))
  (.seq (.block 4 (.seq (.region [⟨(some 47), .mov (.tmp 45), none⟩,
    ⟨(some 48), .iaddr 1 (.tmp 43) (.tmp 45), none⟩,
    ⟨(some 49), .load false 1 (.tmp 48), none⟩,
    ⟨(some 7), .mov (.tmp 47), none⟩,
    ⟨(some 8), .mov (.tmp 49), none⟩])
  (.seq (.seq (.region [⟨(some 50), .mov (.tmp 8), none⟩,
    ⟨(some 51), .call (.val (.clos 54 [] [])) [.tmp 50], none⟩,
    ⟨(some 52), .un .not (.tmp 51), none⟩])
  (.cond (.tmp 52) (.seq (.region [⟨(some 2), .mov (.val (.int .i64 5)), none⟩])
  .ret) .skip))
  (.seq (.region [⟨(some 53), .faddr 1 (.tmp 6), none⟩,
    ⟨(some 54), .load false 1 (.tmp 53), none⟩,
    ⟨(some 55), .mov (.tmp 7), none⟩,
    ⟨(some 56), .slice 1 (.tmp 54) none (some (.tmp 55)), none⟩,
    ⟨(some 57), .mov (.tmp 8), none⟩,
    ⟨(some 58), .call (.val (.clos 29 [] [])) [.tmp 56, .tmp 57], none⟩])
  (.cond (.tmp 58) (.seq (.region [⟨(some 2), .mov (.val (.int .i64 6)), none⟩])
  .ret) .skip)))))
  (.region [⟨(some 59), .bin .add (.tmp 45) (.val (.int .i64 1)), none⟩,
    ⟨(some 45), .mov (.tmp 59), none⟩])))))))
  (.seq (.seq (.region [⟨(some 60), .faddr 2 (.tmp 6), none⟩,
    ⟨(some 61), .load false 1 (.tmp 60), none⟩,
    ⟨(some 62), .call (.val (.clos 55 [] [])) [.tmp 61, .val (.int .i64 1), .tmp 3], none⟩,
    ⟨(some 9), .mov (.tmp 62), none⟩])
  (.seq (.region [⟨(some 63), .mov (.tmp 9), none⟩,
    ⟨(some 64), .bin .neq (.tmp 63) (.val (.int .i64 0)), none⟩])
  (.cond (.tmp 64) (.seq (.region [⟨(some 65), .mov (.tmp 9), none⟩,
    ⟨(some 2), .mov (.tmp 65), none⟩])
  .ret) .skip)))
  (.region [⟨(some 66), .mov (.tmp 4), none⟩,
    ⟨(some 67), .faddr 0 (.tmp 6), none⟩,
    ⟨(some 68), .load false 1 (.tmp 67), none⟩,
    ⟨(some 69), .buildF 1 [.tmp 68], none⟩,
    ⟨(some 70), .append 1 16 (.tmp 66) (.tmp 69), none⟩,
    ⟨(some 4), .mov (.tmp 70), none⟩]))))))
  (.region [⟨(some 71), .bin .add (.tmp 18) (.val (.int .i64 1)), none⟩,
    ⟨(some 18), .mov (.tmp 71), none⟩])))))))
  (.seq (.seq (.region [⟨(some 72), .faddr 1 (.tmp 1), none⟩,
    ⟨(some 73), .load false 1 (.tmp 72), none⟩,
    ⟨(some 74), .call (.val (.clos 55 [] [])) [.tmp 73, .val (.int .i64 1), .tmp 3], none⟩,
    ⟨(some 10), .mov (.tmp 74), none⟩])
  (.seq (.region [⟨(some 75), .mov (.tmp 10), none⟩,
    ⟨(some 76), .bin .neq (.tmp 75) (.val (.int .i64 0)), none⟩])
  (.cond (.tmp 76) (.seq (.region [⟨(some 77), .mov (.tmp 10), none⟩,
    ⟨(some 2), .mov (.tmp 77), none⟩])
  .ret) .skip)))
  (.seq (.seq (.region [⟨(some 78), .load false 1 (.tmp 3), none⟩,
    ⟨(some 79), .bin .gtr (.tmp 78) (.val (.int .i64 2000)), none⟩])
  (.cond (.tmp 79) (.seq (.region [⟨(some 2), .mov (.val (.int .i64 2)), none⟩])
  .ret) .skip))
  (.seq (.region [⟨(some 2), .mov (.val (.int .i64 0)), none⟩])
  .ret))))))))
def r24 : List SRes := [.tmp 2]
theorem c24 : Code1 Tryz.prog 24 s24 r24 80 :=
  ⟨⟨Tryz.f24, _, Tryz.func24, rfl, rfl, by kernel_rfl, by kernel_rfl⟩, by kernel_rfl, by kernel_rfl⟩
def s25 : SCode :=
  (.seq (.region [⟨(some 1), .box (.tmp 0), none⟩,
    ⟨(some 2), .mov (.val (.nils)), none⟩])
  (.seq (.region [⟨(some 3), .alloc (.nils), none⟩])
  (.seq (.region [⟨(some 4), .alloc (.nilf), none⟩])
  (.seq (.region [⟨(some 7), .mkfn 56 [] [.tmp 3, .tmp 4], none⟩,
    ⟨none, .store 1 (.tmp 4) (.tmp 7), none⟩])
  (.seq (.region [⟨(some 8), .load false 1 (.tmp 4), none⟩,
    ⟨(some 9), .faddr 1 (.tmp 1), none⟩,
    ⟨(some 10), .load false 1 (.tmp 9), none⟩,
    ⟨(some 11), .call (.tmp 8) [.tmp 10, .val (.int .i64 (-1)), .val (.bool true)], none⟩])
  (.seq (.seq (.region [⟨(some 12), .faddr 0 (.tmp 1), none⟩,
    ⟨(some 13), .load false 1 (.tmp 12), none⟩,
    ⟨(some 14), .len false (.tmp 13), none⟩,
    ⟨(some 15), .mov (.val (.int .i64 0)), none⟩])
  (.block 0 (.loop (.seq (.region [⟨(some 16), .bin .lss (.tmp 15) (.tmp 14), none⟩])
  (.seq (.cond (.tmp 16) .skip (.exit 0))
  (.seq (.block 1 (.seq (.region [⟨(some 17), .mov (.tmp 15), none⟩,
    ⟨(some 18), .iaddr 3 (.tmp 13) (.tmp 15), none⟩,
    ⟨(some 19), .load true 3 (.tmp 18), none⟩,
    ⟨(some 6), .alloc (.agg [.str ⟨#[]⟩, .nils, .nils]), none⟩,
    ⟨(some 5), .mov (.tmp 17), none⟩,
    ⟨none, .store 3 (.tmp 6) (.tmp 19), none⟩])
  (.region [⟨(some 20), .load false 1 (.tmp 4), none⟩,
    ⟨(some 21), .faddr 2 (.tmp 6), none⟩,
    ⟨(some 22), .load false 1 (.tmp 21), none⟩,
    ⟨(some 23), .mov (.tmp 5), none⟩,
    ⟨(some 24), .call (.tmp 20) [.tmp 22, .tmp 23, .val (.bool true)], none⟩])))
  (.region [⟨(some 25), .bin .add (.tmp 15) (.val (.int .i64 1)), none⟩,
    ⟨(some 15), .mov (.tmp 25), none⟩])))))))
  (.seq (.region [⟨(some 26), .load false 1 (.tmp 3), none⟩,
    ⟨(some 2), .mov (.tmp 26), none⟩])
  .ret)))))))
def r25 : List SRes := [.tmp 2]
theorem c25 : Code1 Tryz.prog 25 s25 r25 27 :=
  ⟨⟨Tryz.f25, _, Tryz.func25, rfl, rfl, by kernel_rfl, by kernel_rfl⟩, by kernel_rfl, by kernel_rfl⟩
def s26 : SCode :=
  (.seq (.region [⟨(some 4), .mov (.val (.bool false)), none⟩])
  (.seq (.region [⟨(some 5), .mov (.tmp 0), none⟩,
    ⟨(some 6), .mov (.tmp 1), none⟩,
    ⟨(some 7), .call (.val (.clos 57 [] [])) [.tmp 5, .tmp 6], none⟩,
    ⟨(some 8), .bin .geq (.tmp 7) (.val (.int .i64 0)), none⟩,
    ⟨(some 4), .mov (.tmp 8), none⟩])
  .ret))
def r26 : List SRes := [.tmp 4]
theorem c26 : Code1 Tryz.prog 26 s26 r26 9 :=
  ⟨⟨Tryz.f26, _, Tryz.func26, rfl, rfl, by kernel_rfl, by kernel_rfl⟩, by kernel_rfl, by kernel_rfl⟩
def s27 : SCode :=
  (.seq (.region [⟨(some 1), .box (.tmp 0), none⟩,
    ⟨(some 2), .mov (.val (.nils)), none⟩])
  (.seq (.seq (.region [⟨(some 3), .faddr 0 (.tmp 1), none⟩,
    ⟨(some 4), .load false 1 (.tmp 3), none⟩])
  (.block 0 (.seq (.seq (.region [⟨(some 6), .bin .eql (.tmp 4) (.val (.int .i64 1)), none⟩,
    ⟨(some 5), .mov (.tmp 6), none⟩])
  (.cond (.tmp 5) .skip (.region [⟨(some 7), .bin .eql (.tmp 4) (.val (.int .i64 2)), none⟩,
    ⟨(some 5), .mov (.tmp 7), none⟩])))
  (.cond (.tmp 5) (.seq (.region [⟨(some 8), .faddr 1 (.tmp 1), none⟩,
    ⟨(some 9), .load false 1 (.tmp 8), none⟩,
    ⟨(some 10), .faddr 2 (.tmp 1), none⟩,
    ⟨(some 11), .load false 1 (.tmp 10), none⟩,
    ⟨(some 12), .buildF 1 [.tmp 9, .tmp 11], none⟩,
    ⟨(some 2), .mov (.tmp 12), none⟩])
  .ret) (.seq (.region [⟨(some 14), .bin .eql (.tmp 4) (.val (.int .i64 5)), none⟩,
    ⟨(some 13), .mov (.tmp 14), none⟩])
  (.cond (.tmp 13) (.seq (.region [⟨(some 15), .faddr 12 (.tmp 1), none⟩,
    ⟨(some 16), .load false 1 (.tmp 15), none⟩,
    ⟨(some 2), .mov (.tmp 16), none⟩])
  .ret) .skip))))))
  (.seq (.region [⟨(some 17), .faddr 1 (.tmp 1), none⟩,
    ⟨(some 18), .load false 1 (.tmp 17), none⟩,
    ⟨(some 19), .buildF 1 [.tmp 18], none⟩,
    ⟨(some 2), .mov (.tmp 19), none⟩])
  .ret)))
def r27 : List SRes := [.tmp 2]
theorem c27 : Code1 Tryz.prog 27 s27 r27 20 :=
  ⟨⟨Tryz.f27, _, Tryz.func27, rfl, rfl, by kernel_rfl, by kernel_rfl⟩, by kernel_rfl, by kernel_rfl⟩
def s28 : SCode :=
  (.seq (.region [⟨(some 4), .mov (.val (.bool false)), none⟩])
  (.seq (.region [⟨(some 5), .faddr 0 (.tmp 1), none⟩,
    ⟨(some 6), .load false 1 (.tmp 5), none⟩,
    ⟨(some 7), .faddr 13 (.tmp 2), none⟩,
    ⟨(some 8), .load false 1 (.tmp 7), none⟩,
    ⟨(some 9), .iaddr 3 (.tmp 6) (.tmp 8), none⟩,
    ⟨(some 10), .faddr 1 (.tmp 9), none⟩,
    ⟨(some 11), .load false 1 (.tmp 10), none⟩,
    ⟨(some 12), .mov (.tmp 0), none⟩,
    ⟨(some 13), .call (.val (.clos 29 [] [])) [.tmp 11, .tmp 12], none⟩,
    ⟨(some 14), .un .not (.tmp 13), none⟩,
    ⟨(some 4), .mov (.tmp 14), none⟩])
  .ret))
def r28 : List SRes := [.tmp 4]
theorem c28 : Code1 Tryz.prog 28 s28 r28 15 :=
  ⟨⟨Tryz.f28, _, Tryz.func28, rfl, rfl, by kernel_rfl, by kernel_rfl⟩, by kernel_rfl, by kernel_rfl⟩
def s29 : SCode :=
  (.seq (.region [⟨(some 4), .mov (.val (.bool false)), none⟩])
  (.seq (.region [⟨(some 5), .mov (.tmp 0), none⟩,
    ⟨(some 6), .mov (.tmp 1), none⟩,
    ⟨(some 7), .call (.val (.clos 58 [] [])) [.tmp 5, .tmp 6], none⟩,
    ⟨(some 8), .bin .geq (.tmp 7) (.val (.int .i64 0)), none⟩,
    ⟨(some 4), .mov (.tmp 8), none⟩])
  .ret))
def r29 : List SRes := [.tmp 4]
theorem c29 : Code1 Tryz.prog 29 s29 r29 9 :=
  ⟨⟨Tryz.f29, _, Tryz.func29, rfl, rfl, by kernel_rfl, by kernel_rfl⟩, by kernel_rfl, by kernel_rfl⟩
def s30 : SCode :=
  (.seq (.region [⟨(some 2), .box (.tmp 0), none⟩,
    ⟨(some 3), .box (.tmp 1), none⟩,
    ⟨(some 4), .mov (.val (.int .i64 0)), none⟩])
  (.seq (.region [⟨(some 5), .faddr 0 (.tmp 2), none⟩,
    ⟨(some 6), .load false 1 (.tmp 5), none⟩,
    ⟨(some 7), .mkfn 60 [] [.tmp 3], none⟩,
    ⟨(some 8), .call (.val (.clos 59 [] [])) [.tmp 6, .tmp 7], none⟩,
    ⟨(some 4), .mov (.tmp 8), none⟩])
  .ret))
def r30 : List SRes := [.tmp 4]
theorem c30 : Code1 Tryz.prog 30 s30 r30 9 :=
  ⟨⟨Tryz.f30, _, Tryz.func30, rfl, rfl, by kernel_rfl, by kernel_rfl⟩, by kernel_rfl, by kernel_rfl⟩
def s31 : SCode :=
  (.seq (.region [⟨(some 6), .mov (.val (.bool false)), none⟩])
  (.seq (.region [⟨(some 7), .mov (.tmp 1), none⟩,
    ⟨(some 8), .mov (.tmp 0), none⟩,
    ⟨(some 9), .bin .leq (.tmp 7) (.tmp 8), none⟩,
    ⟨(some 10), .mov (.tmp 9), none⟩,
    ⟨(some 11), .mov (.tmp 0), (some (10, true))⟩,
    ⟨(some 12), .mov (.tmp 2), (some (10, true))⟩,
    ⟨(some 13), .bin .leq (.tmp 11) (.tmp 12), (some (10, true))⟩,
    ⟨(some 14), .pick (.tmp 10) (.tmp 13) (.val (.bool false)), none⟩,
    ⟨(some 6), .mov (.tmp 14), none⟩])
  .ret))
def r31 : List SRes := [.tmp 6]
theorem c31 : Code1 Tryz.prog 31 s31 r31 15 :=
  ⟨⟨Tryz.f31, _, Tryz.func31, rfl, rfl, by kernel_rfl, by kernel_rfl⟩, by kernel_rfl, by kernel_rfl⟩
def s32 : SCode :=
  (.seq (.region [⟨(some 1), .box (.tmp 0), none⟩,
    ⟨(some 2), .mov (.val (.int .i64 0)), none⟩])
  (.seq (.seq (.region [⟨(some 6), .faddr 0 (.tmp 1), none⟩,
    ⟨(some 7), .load false 1 (.tmp 6), none⟩,
    ⟨(some 8), .len false (.tmp 7), none⟩,
    ⟨(some 9), .bin .gtr (.tmp 8) (.val (.int .i64 50)), none⟩])
  (.cond (.tmp 9) (.seq (.region [⟨(some 2), .mov (.val (.int .i64 2)), none⟩])
  .ret) .skip))
  (.seq (.seq (.region [⟨(some 10), .faddr 0 (.tmp 1), none⟩,
    ⟨(some 11), .load false 1 (.tmp 10), none⟩,
    ⟨(some 12), .len false (.tmp 11), none⟩,
    ⟨(some 13), .mov (.val (.int .i64 0)), none⟩])
  (.block 0 (.loop (.seq (.region [⟨(some 14), .bin .lss (.tmp 13) (.tmp 12), none⟩])
  (.seq (.cond (.tmp 14) .skip (.exit 0))
  (.seq (.block 1 (.seq (.region [⟨(some 15), .mov (.tmp 13), none⟩,
    ⟨(some 3), .mov (.tmp 15), none⟩])
  (.seq (.region [⟨(some 16), .faddr 0 (.tmp 1), none⟩,
    ⟨(some 17), .load false 1 (.tmp 16), none⟩,
    ⟨(some 18), .mov (.tmp 3), none⟩,
    ⟨(some 19), .call (.val (.clos 61 [] [])) [.tmp 17, .tmp 18], none⟩,
    ⟨(some 4), .mov (.tmp 19), none⟩])
  (.seq (.region [⟨(some 20), .mov (.tmp 4), none⟩,
    ⟨(some 21), .bin .neq (.tmp 20) (.val (.int .i64 0)), none⟩])
  (.cond (.tmp 21) (.seq (.region [⟨(some 22), .mov (.tmp 4), none⟩,
    ⟨(some 2), .mov (.tmp 22), none⟩])
  .ret) .skip)))))
  (.region [⟨(some 23), .bin .add (.tmp 13) (.val (.int .i64 1)), none⟩,
    ⟨(some 13), .mov (.tmp 23), none⟩])))))))
  (.seq (.seq (.region [⟨(some 24), .faddr 1 (.tmp 1), none⟩,
    ⟨(some 25), .load false 1 (.tmp 24), none⟩,
    ⟨(some 26), .call (.val (.clos 62 [] [])) [.tmp 25, .val (.int .i64 1)], none⟩,
    ⟨(some 5), .mov (.tmp 26), none⟩])
  (.seq (.region [⟨(some 27), .mov (.tmp 5), none⟩,
    ⟨(some 28), .bin .neq (.tmp 27) (.val (.int .i64 0)), none⟩])
  (.cond (.tmp 28) (.seq (.region [⟨(some 29), .mov (.tmp 5), none⟩,
    ⟨(some 2), .mov (.tmp 29), none⟩])
  .ret) .skip)))
  (.seq (.seq (.region [⟨(some 30), .load true 2 (.tmp 1), none⟩,
    ⟨(some 31), .call (.val (.clos 19 [] [])) [.tmp 30], none⟩,
    ⟨(some 32), .bin .gtr (.tmp 31) (.val (.int .i64 2000)), none⟩])
  (.cond (.tmp 32) (.seq (.region [⟨(some 2), .mov (.val (.int .i64 2)), none⟩])
  .ret) .skip))
  (.seq (.region [⟨(some 2), .mov (.val (.int .i64 0)), none⟩])
  .ret))))))
def r32 : List SRes := [.tmp 2]
theorem c32 : Code1 Tryz.prog 32 s32 r32 33 :=
  ⟨⟨Tryz.f32, _, Tryz.func32, rfl, rfl, by kernel_rfl, by kernel_rfl⟩, by kernel_rfl, by kernel_rfl⟩
def s33 : SCode :=
  (.seq (.region [⟨(some 7), .box (.tmp 2), none⟩])
  (.seq (.region [⟨(some 8), .load false 1 (.tmp 3), none⟩,
    ⟨(some 9), .bin .eql (.tmp 8) (.val (.int .i64 0)), none⟩])
  (.cond (.tmp 9) (.region [⟨(some 10), .load true 2 (.tmp 4), none⟩,
    ⟨(some 11), .mov (.tmp 1), none⟩,
    ⟨(some 12), .load true 13 (.tmp 7), none⟩,
    ⟨(some 13), .call (.val (.clos 34 [] [])) [.tmp 10, .tmp 11, .tmp 12], none⟩,
    ⟨none, .store 1 (.tmp 3) (.tmp 13), none⟩]) .skip)))
def r33 : List SRes := []
theorem c33 : Code1 Tryz.prog 33 s33 r33 14 :=
  ⟨⟨Tryz.f33, _, Tryz.func33, rfl, rfl, by kernel_rfl, by kernel_rfl⟩, by kernel_rfl, by kernel_rfl⟩
def s34 : SCode :=
  (.seq (.region [⟨(some 3), .box (.tmp 0), none⟩,
    ⟨(some 4), .box (.tmp 1), none⟩,
    ⟨(some 5), .box (.tmp 2), none⟩,
    ⟨(some 6), .mov (.val (.int .i64 0)), none⟩])
  (.seq (.seq (.region [⟨(some 10), .load false 1 (.tmp 4), none⟩,
    ⟨(some 11), .bin .geq (.tmp 10) (.val (.int .i64 0)), none⟩,
    ⟨(some 12), .mov (.tmp 11), none⟩,
    ⟨(some 13), .load true 13 (.tmp 5), (some (12, true))⟩,
    ⟨(some 14), .call (.val (.clos 63 [] [])) [.tmp 13], (some (12, true))⟩,
    ⟨(some 15), .mkfn 64 [] [.tmp 3, .tmp 4], (some (12, true))⟩,
    ⟨(some 16), .call (.val (.clos 26 [] [])) [.tmp 14, .tmp 15], (some (12, true))⟩,
    ⟨(some 17), .pick (.tmp 12) (.tmp 16) (.val (.bool false)), none⟩])
  (.cond (.tmp 17) (.seq (.region [⟨(some 6), .mov (.val (.int .i64 5)), none⟩])
  .ret) .skip))
  (.seq (.seq (.region [⟨(some 18), .faddr 2 (.tmp 5), none⟩,
    ⟨(some 19), .load false 1 (.tmp 18), none⟩,
    ⟨(some 20), .bin .neq (.tmp 19) (.val (.str ⟨#[]⟩)), none⟩,
    ⟨(some 21), .mov (.tmp 20), none⟩,
    ⟨(some 22), .faddr 1 (.tmp 5), (some (21, true))⟩,
    ⟨(some 23), .load false 1 (.tmp 22), (some (21, true))⟩,
    ⟨(some 24), .faddr 2 (.tmp 5), (some (21, true))⟩,
    ⟨(some 25), .load false 1 (.tmp 24), (some (21, true))⟩,
    ⟨(some 26), .bin .eql (.tmp 23) (.tmp 25), (some (21, true))⟩,
    ⟨(some 27), .pick (.tmp 21) (.tmp 26) (.val (.bool false)), none⟩])
  (.cond (.tmp 27) (.seq (.region [⟨(some 6), .mov (.val (.int .i64 6)), none⟩])
  .ret) .skip))
  (.seq (.seq (.region [⟨(some 28), .faddr 0 (.tmp 5), none⟩,
    ⟨(some 29), .load false 1 (.tmp 28), none⟩,
    ⟨(some 30), .bin .neq (.tmp 29) (.val (.int .i64 5)), none⟩])
  (.cond (.tmp 30) (.seq (.region [⟨(some 6), .mov (.val (.int .i64 0)), none⟩])
  .ret) .skip))
  (.seq (.region [⟨(some 31), .load true 2 (.tmp 3), none⟩,
    ⟨(some 32), .faddr 11 (.tmp 5), none⟩,
    ⟨(some 33), .load false 1 (.tmp 32), none⟩,
    ⟨(some 34), .call (.val (.clos 65 [] [])) [.tmp 31, .tmp 33], none⟩,
    ⟨(some 7), .mov (.tmp 34), none⟩])
  (.seq (.seq (.region [⟨(some 35), .mov (.tmp 7), none⟩,
    ⟨(some 36), .bin .lss (.tmp 35) (.val (.int .i64 0)), none⟩])
  (.cond (.tmp 36) (.seq (.region [⟨(some 6), .mov (.val (.int .i64 8)), none⟩])
  .ret) .skip))
  (.seq (.seq (.qregion [⟨⟨(some 37), .faddr 0 (.tmp 3), none⟩, false, 0, 0, 0⟩,
    ⟨⟨(some 38), .load false 1 (.tmp 37), none⟩, false, 0, 0, 1⟩,
    ⟨⟨(some 39), .mov (.tmp 7), none⟩, false, 0, 0, 0⟩,
    ⟨⟨(some 40), .iaddr 3 (.tmp 38) (.tmp 39), none⟩, false, 0, 0, 7⟩,
    ⟨⟨(some 41), .faddr 1 (.tmp 40), none⟩, false, 0, 0, 15⟩,
    ⟨⟨(some 42), .load false 1 (.tmp 41), none⟩, false, 0, 0, 31⟩,
    ⟨⟨(some 43), .len false (.tmp 42), none⟩, false, 0, 0, 63⟩,
    ⟨⟨(some 44), .faddr 12 (.tmp 5), none⟩, false, 0, 0, 0⟩,
    ⟨⟨(some 45), .load false 1 (.tmp 44), none⟩, false, 0, 0, 128⟩,
    ⟨⟨(some 46), .len false (.tmp 45), none⟩, false, 0, 0, 384⟩,
    ⟨⟨(some 47), .bin .neq (.tmp 43) (.tmp 46), none⟩, false, 0, 0, 1023⟩])
  (.cond (.tmp 47) (.seq (.region [⟨(some 6), .mov (.val (.int .i64 3)), none⟩])
  .ret) .skip))
  (.seq (.seq (.region [⟨(some 48), .faddr 12 (.tmp 5), none⟩,
    ⟨(some 49), .load false 1 (.tmp 48), none⟩,
    ⟨(some 50), .len false (.tmp 49), none⟩,
    ⟨(some 51), .mov (.val (.int .i64 0)), none⟩])
  (.block 0 (.loop (.seq (.region [⟨(some 52), .bin .lss (.tmp 51) (.tmp 50), none⟩])
  (.seq (.cond (.tmp 52) .skip (.exit 0))
  (.seq (.block 1 (.seq (.region [⟨(some 53), .mov (.tmp 51), none⟩,
    ⟨(some 54), .iaddr 1 (.tmp 49) (.tmp 51), none⟩,
    ⟨(some 55), .load false 1 (.tmp 54), none⟩,
    ⟨(some 8), .mov (.tmp 53), none⟩,
    ⟨(some 9), .mov (.tmp 55), none⟩])
  (.seq (.region [⟨(some 56), .faddr 12 (.tmp 5), none⟩,
    ⟨(some 57), .load false 1 (.tmp 56), none⟩,
    ⟨(some 58), .mov (.tmp 8), none⟩,
    ⟨(some 59), .slice 1 (.tmp 57) none (some (.tmp 58)), none⟩,
    ⟨(some 60), .mov (.tmp 9), none⟩,
    ⟨(some 61), .call (.val (.clos 29 [] [])) [.tmp 59, .tmp 60], none⟩])
  (.cond (.tmp 61) (.seq (.region [⟨(some 6), .mov (.val (.int .i64 6)), none⟩])
  .ret) .skip))))
  (.region [⟨(some 62), .bin .add (.tmp 51) (.val (.int .i64 1)), none⟩,
    ⟨(some 51), .mov (.tmp 62), none⟩])))))))
  (.seq (.region [⟨(some 6), .mov (.val (.int .i64 0)), none⟩])
  .ret)))))))))
def r34 : List SRes := [.tmp 6]
theorem c34 : Code1 Tryz.prog 34 s34 r34 63 :=
  ⟨⟨Tryz.f34, _, Tryz.func34, rfl, rfl, by kernel_rfl, by kernel_rfl⟩, by kernel_rfl, by kernel_rfl⟩
def s35 : SCode :=
  (.seq (.region [⟨(some 2), .box (.tmp 0), none⟩,
    ⟨(some 3), .box (.tmp 1), none⟩,
    ⟨(some 4), .mov (.val (.bool false)), none⟩])
  (.seq (.region [⟨(some 5), .faddr 0 (.tmp 2), none⟩,
    ⟨(some 6), .load false 1 (.tmp 5), none⟩,
    ⟨(some 7), .faddr 0 (.tmp 3), none⟩,
    ⟨(some 8), .load false 1 (.tmp 7), none⟩,
    ⟨(some 9), .bin .eql (.tmp 6) (.tmp 8), none⟩,
    ⟨(some 10), .mov (.tmp 9), none⟩,
    ⟨(some 11), .faddr 1 (.tmp 2), (some (10, true))⟩,
    ⟨(some 12), .load false 1 (.tmp 11), (some (10, true))⟩,
    ⟨(some 13), .faddr 1 (.tmp 3), (some (10, true))⟩,
    ⟨(some 14), .load false 1 (.tmp 13), (some (10, true))⟩,
    ⟨(some 15), .bin .eql (.tmp 12) (.tmp 14), (some (10, true))⟩,
    ⟨(some 16), .pick (.tmp 10) (.tmp 15) (.val (.bool false)), none⟩,
    ⟨(some 17), .mov (.tmp 16), none⟩,
    ⟨(some 18), .faddr 2 (.tmp 2), (some (17, true))⟩,
    ⟨(some 19), .load false 1 (.tmp 18), (some (17, true))⟩,
    ⟨(some 20), .faddr 2 (.tmp 3), (some (17, true))⟩,
    ⟨(some 21), .load false 1 (.tmp 20), (some (17, true))⟩,
    ⟨(some 22), .bin .eql (.tmp 19) (.tmp 21), (some (17, true))⟩,
    ⟨(some 23), .pick (.tmp 17) (.tmp 22) (.val (.bool false)), none⟩,
    ⟨(some 24), .mov (.tmp 23), none⟩,
    ⟨(some 25), .faddr 3 (.tmp 2), (some (24, true))⟩,
    ⟨(some 26), .load false 1 (.tmp 25), (some (24, true))⟩,
    ⟨(some 27), .faddr 3 (.tmp 3), (some (24, true))⟩,
    ⟨(some 28), .load false 1 (.tmp 27), (some (24, true))⟩,
    ⟨(some 29), .call (.val (.clos 66 [] [])) [.tmp 26, .tmp 28, .val (.clos 35 [] [])], (some (24, true))⟩,
    ⟨(some 30), .pick (.tmp 24) (.tmp 29) (.val (.bool false)), none⟩,
    ⟨(some 4), .mov (.tmp 30), none⟩])
  .ret))
def r35 : List SRes := [.tmp 4]
theorem c35 : Code1 Tryz.prog 35 s35 r35 31 :=
  ⟨⟨Tryz.f35, _, Tryz.func35, rfl, rfl, by kernel_rfl, by kernel_rfl⟩, by kernel_rfl, by kernel_rfl⟩
def s36 : SCode :=
  (.seq (.region [⟨(some 4), .mov (.val (.bool false)), none⟩])
  (.seq (.seq (.region [⟨(some 6), .mov (.tmp 0), none⟩,
    ⟨(some 7), .len false (.tmp 6), none⟩,
    ⟨(some 8), .mov (.tmp 1), none⟩,
    ⟨(some 9), .len false (.tmp 8), none⟩,
    ⟨(some 10), .bin .neq (.tmp 7) (.tmp 9), none⟩])
  (.cond (.tmp 10) (.seq (.region [⟨(some 4), .mov (.val (.bool false)), none⟩])
  .ret) .skip))
  (.seq (.seq (.region [⟨(some 11), .mov (.tmp 0), none⟩,
    ⟨(some 12), .len false (.tmp 11), none⟩,
    ⟨(some 13), .mov (.val (.int .i64 0)), none⟩])
  (.block 0 (.loop (.seq (.region [⟨(some 14), .bin .lss (.tmp 13) (.tmp 12), none⟩])
  (.seq (.cond (.tmp 14) .skip (.exit 0))
  (.seq (.block 1 (.seq (.region [⟨(some 15), .mov (.tmp 13), none⟩,
    ⟨(some 5), .mov (.tmp 15), none⟩])
  (.seq (.qregion [⟨⟨(some 16), .mov (.tmp 0), none⟩, false, 0, 0, 0⟩,
    ⟨⟨(some 17), .mov (.tmp 5), none⟩, false, 0, 0, 0⟩,
    ⟨⟨(some 18), .iaddr 1 (.tmp 16) (.tmp 17), none⟩, false, 0, 0, 3⟩,
    ⟨⟨(some 19), .load false 1 (.tmp 18), none⟩, false, 0, 0, 7⟩,
    ⟨⟨(some 20), .mov (.tmp 1), none⟩, false, 0, 0, 0⟩,
    ⟨⟨(some 21), .mov (.tmp 5), none⟩, false, 0, 0, 0⟩,
    ⟨⟨(some 22), .iaddr 1 (.tmp 20) (.tmp 21), none⟩, false, 0, 0, 48⟩,
    ⟨⟨(some 23), .load false 1 (.tmp 22), none⟩, false, 0, 0, 112⟩,
    ⟨⟨(some 24), .bin .neq (.tmp 19) (.tmp 23), none⟩, false, 0, 0, 255⟩])
  (.cond (.tmp 24) (.seq (.region [⟨(some 4), .mov (.val (.bool false)), none⟩])
  .ret) .skip))))
  (.region [⟨(some 25), .bin .add (.tmp 13) (.val (.int .i64 1)), none⟩,
    ⟨(some 13), .mov (.tmp 25), none⟩])))))))
  (.seq (.region [⟨(some 4), .mov (.val (.bool true)), none⟩])
  .ret))))
def r36 : List SRes := [.tmp 4]
theorem c36 : Code1 Tryz.prog 36 s36 r36 26 :=
  ⟨⟨Tryz.f36, _, Tryz.func36, rfl, rfl, by kernel_rfl, by kernel_rfl⟩, by kernel_rfl, by kernel_rfl⟩
def s37 : SCode :=
  (.seq (.region [⟨(some 4), .mov (.val (.bool false)), none⟩])
  (.seq (.region [⟨(some 5), .mov (.tmp 0), none⟩,
    ⟨(some 6), .mov (.tmp 1), none⟩,
    ⟨(some 7), .call (.val (.clos 67 [] [])) [.tmp 5, .tmp 6, .val (.clos 12 [] [])], none⟩,
    ⟨(some 4), .mov (.tmp 7), none⟩])
  .ret))
def r37 : List SRes := [.tmp 4]
theorem c37 : Code1 Tryz.prog 37 s37 r37 8 :=
  ⟨⟨Tryz.f37, _, Tryz.func37, rfl, rfl, by kernel_rfl, by kernel_rfl⟩, by kernel_rfl, by kernel_rfl⟩
def s38 : SCode :=
  (.seq (.region [⟨(some 0), .alloc (.agg [.nils, .nils]), none⟩])
  (.seq (.region [⟨(some 1), .build [.int .i64 0, .int .i64 0, .str ⟨#[]⟩, .fs []] [(0, 1, .val (.int .i64 1)), (1, 1, .val (.int .i64 7))], none⟩,
    ⟨(some 2), .build [.int .i64 0, .str ⟨#[]⟩, .str ⟨#[]⟩, .str ⟨#[]⟩, .str ⟨#[]⟩, .int .i64 0, .int .i64 0, .str ⟨#[]⟩, .fs [], .fs [], .fs [], .str ⟨#[]⟩, .fs []] [(0, 1, .val (.int .i64 3)), (1, 1, .val (.str ⟨#[97]⟩)), (3, 1, .val (.str ⟨#[120]⟩)), (5, 4, .tmp 1)], none⟩,
    ⟨(some 3), .buildF 13 [.tmp 2], none⟩,
    ⟨(some 4), .build [.fs [], .fs []] [(1, 1, .tmp 3)], none⟩,
    ⟨none, .store 2 (.tmp 0) (.tmp 4), none⟩])
  .ret))
def r38 : List SRes := [.cell true 2 0]
theorem c38 : Code1 Tryz.prog 38 s38 r38 5 :=
  ⟨⟨Tryz.f38, _, Tryz.func38, rfl, rfl, by kernel_rfl, by kernel_rfl⟩, by kernel_rfl, by kernel_rfl⟩
def s39 : SCode :=
  (.seq (.region [⟨(some 6), .mov (.val (.int .i64 0)), none⟩])
  (.seq (.seq (.region [⟨(some 7), .mov (.tmp 2), none⟩,
    ⟨(some 8), .mov (.tmp 1), none⟩,
    ⟨(some 9), .bin .lss (.tmp 7) (.tmp 8), none⟩])
  (.cond (.tmp 9) (.seq (.region [⟨(some 10), .mov (.tmp 1), none⟩,
    ⟨(some 6), .mov (.tmp 10), none⟩])
  .ret) .skip))
  (.seq (.region [⟨(some 11), .mov (.tmp 1), none⟩,
    ⟨(some 12), .mov (.tmp 0), none⟩,
    ⟨(some 13), .mov (.tmp 2), none⟩,
    ⟨(some 14), .mov (.tmp 1), none⟩,
    ⟨(some 15), .bin .sub (.tmp 13) (.tmp 14), none⟩,
    ⟨(some 16), .bin .add (.tmp 15) (.val (.int .i64 1)), none⟩,
    ⟨(some 17), .call (.val (.clos 16 [] [])) [.tmp 12, .tmp 16], none⟩,
    ⟨(some 18), .bin .add (.tmp 11) (.tmp 17), none⟩,
    ⟨(some 6), .mov (.tmp 18), none⟩])
  .ret)))
def r39 : List SRes := [.tmp 6]
theorem c39 : Code1 Tryz.prog 39 s39 r39 19 :=
  ⟨⟨Tryz.f39, _, Tryz.func39, rfl, rfl, by kernel_rfl, by kernel_rfl⟩, by kernel_rfl, by kernel_rfl⟩
def s40 : SCode :=
  (.seq (.region [⟨(some 4), .mov (.val (.str ⟨#[]⟩)), none⟩,
    ⟨(some 5), .mov (.val (.str ⟨#[]⟩)), none⟩])
  (.seq (.region [⟨(some 8), .mov (.tmp 0), none⟩,
    ⟨(some 9), .mov (.tmp 1), none⟩,
    ⟨(some 10), .len false (.tmp 9), none⟩,
    ⟨(some 11), .call (.val (.clos 16 [] [])) [.tmp 8, .tmp 10], none⟩,
    ⟨(some 6), .mov (.tmp 11), none⟩])
  (.seq (.region [⟨(some 12), .mov (.tmp 6), none⟩,
    ⟨(some 13), .bin .add (.tmp 12) (.val (.int .i64 1)), none⟩,
    ⟨(some 14), .mov (.tmp 0), none⟩,
    ⟨(some 15), .mov (.tmp 1), none⟩,
    ⟨(some 16), .len false (.tmp 15), none⟩,
    ⟨(some 17), .bin .sub (.tmp 16) (.val (.int .i64 1)), none⟩,
    ⟨(some 18), .call (.val (.clos 16 [] [])) [.tmp 14, .tmp 17], none⟩,
    ⟨(some 19), .bin .add (.tmp 13) (.tmp 18), none⟩,
    ⟨(some 20), .mov (.tmp 1), none⟩,
    ⟨(some 21), .len false (.tmp 20), none⟩,
    ⟨(some 22), .bin .rem (.tmp 19) (.tmp 21), none⟩,
    ⟨(some 7), .mov (.tmp 22), none⟩])
  (.seq (.qregion [⟨⟨(some 23), .mov (.tmp 1), none⟩, false, 0, 0, 0⟩,
    ⟨⟨(some 24), .mov (.tmp 6), none⟩, false, 0, 0, 0⟩,
    ⟨⟨(some 25), .iaddr 1 (.tmp 23) (.tmp 24), none⟩, false, 0, 0, 3⟩,
    ⟨⟨(some 26), .load false 1 (.tmp 25), none⟩, false, 0, 0, 7⟩,
    ⟨⟨(some 27), .mov (.tmp 1), none⟩, false, 0, 0, 0⟩,
    ⟨⟨(some 28), .mov (.tmp 7), none⟩, false, 0, 0, 0⟩,
    ⟨⟨(some 29), .iaddr 1 (.tmp 27) (.tmp 28), none⟩, false, 0, 0, 48⟩,
    ⟨⟨(some 30), .load false 1 (.tmp 29), none⟩, false, 0, 0, 112⟩,
    ⟨⟨(some 4), .mov (.tmp 26), none⟩, false, 0, 0, 15⟩,
    ⟨⟨(some 5), .mov (.tmp 30), none⟩, false, 0, 0, 511⟩])
  .ret))))
def r40 : List SRes := [.tmp 4, .tmp 5]
theorem c40 : Code1 Tryz.prog 40 s40 r40 31 :=
  ⟨⟨Tryz.f40, _, Tryz.func40, rfl, rfl, by kernel_rfl, by kernel_rfl⟩, by kernel_rfl, by kernel_rfl⟩
def s41 : SCode :=
  (.seq (.region [⟨(some 4), .mov (.val (.str ⟨#[]⟩)), none⟩])
  (.seq (.region [⟨(some 5), .mov (.tmp 1), none⟩,
    ⟨(some 6), .mov (.tmp 0), none⟩,
    ⟨(some 7), .mov (.tmp 1), none⟩,
    ⟨(some 8), .len false (.tmp 7), none⟩,
    ⟨(some 9), .call (.val (.clos 16 [] [])) [.tmp 6, .tmp 8], none⟩,
    ⟨(some 10), .iaddr 1 (.tmp 5) (.tmp 9), none⟩,
    ⟨(some 11), .load false 1 (.tmp 10), none⟩,
    ⟨(some 4), .mov (.tmp 11), none⟩])
  .ret))
def r41 : List SRes := [.tmp 4]
theorem c41 : Code1 Tryz.prog 41 s41 r41 12 :=
  ⟨⟨Tryz.f41, _, Tryz.func41, rfl, rfl, by kernel_rfl, by kernel_rfl⟩, by kernel_rfl, by kernel_rfl⟩
def s42 : SCode :=
  (.seq (.region [⟨(some 4), .alloc (.agg [.int .i64 0, .int .i64 0, .str ⟨#[]⟩, .nils]), none⟩])
  (.seq (.seq (.region [⟨(some 7), .mov (.tmp 1), none⟩,
    ⟨(some 8), .bin .lss (.tmp 7) (.val (.int .i64 2)), none⟩,
    ⟨(some 9), .mov (.tmp 8), none⟩,
    ⟨(some 10), .mov (.tmp 0), (some (9, false))⟩,
    ⟨(some 11), .call (.val (.clos 14 [] [])) [.tmp 10, .val (.int .i64 3)], (some (9, false))⟩,
    ⟨(some 12), .pick (.tmp 9) (.val (.bool true)) (.tmp 11), none⟩])
  (.cond (.tmp 12) (.seq (.region [⟨(some 13), .mov (.tmp 0), none⟩,
    ⟨(some 14), .call (.val (.clos 45 [] [])) [.tmp 13], none⟩,
    ⟨none, .store 4 (.tmp 4) (.tmp 14), none⟩])
  .ret) .skip))
  (.seq (.region [⟨(some 15), .mov (.tmp 0), none⟩,
    ⟨(some 16), .buildF 1 [.val (.int .i64 3), .val (.int .i64 4), .val (.int .i64 5), .val (.int .i64 6), .val (.int .i64 7), .val (.int .i64 8), .val (.int .i64 9)], none⟩,
    ⟨(some 17), .call (.val (.clos 5 [] [])) [.tmp 15, .tmp 16], none⟩,
    ⟨(some 18), .build [.int .i64 0, .int .i64 0, .str ⟨#[]⟩, .nils] [(0, 1, .tmp 17)], none⟩,
    ⟨(some 5), .alloc (.agg [.int .i64 0, .int .i64 0, .str ⟨#[]⟩, .nils]), none⟩,
    ⟨none, .store 4 (.tmp 5) (.tmp 18), none⟩])
  (.seq (.region [⟨(some 6), .mov (.val (.int .i64 2)), none⟩])
  (.seq (.seq (.region [⟨(some 19), .faddr 0 (.tmp 5), none⟩,
    ⟨(some 20), .load false 1 (.tmp 19), none⟩])
  (.block 0 (.seq (.region [⟨(some 22), .bin .eql (.tmp 20) (.val (.int .i64 8)), none⟩,
    ⟨(some 21), .mov (.tmp 22), none⟩])
  (.cond (.tmp 21) (.region [⟨(some 6), .mov (.val (.int .i64 1)), none⟩]) (.seq (.region [⟨(some 24), .bin .eql (.tmp 20) (.val (.int .i64 9)), none⟩,
    ⟨(some 23), .mov (.tmp 24), none⟩])
  (.cond (.tmp 23) (.region [⟨(some 6), .mov (.val (.int .i64 3)), none⟩]) .skip))))))
  (.seq (.seq (.region [⟨(some 25), .mov (.tmp 6), none⟩,
    ⟨(some 26), .mov (.val (.int .i64 0)), none⟩])
  (.block 1 (.loop (.seq (.region [⟨(some 27), .bin .lss (.tmp 26) (.tmp 25), none⟩])
  (.seq (.cond (.tmp 27) .skip (.exit 1))
  (.seq (.block 2 (.qregion [⟨⟨(some 28), .faddr 3 (.tmp 5), none⟩, false, 0, 1, 0⟩,
    ⟨⟨(some 29), .load false 1 (.tmp 28), none⟩, false, 0, 1, 1⟩,
    ⟨⟨(some 30), .mov (.tmp 0), none⟩, false, 0, 0, 0⟩,
    ⟨⟨(some 31), .mov (.tmp 1), none⟩, false, 0, 0, 0⟩,
    ⟨⟨(some 32), .bin .sub (.tmp 31) (.val (.int .i64 1)), none⟩, false, 0, 0, 8⟩,
    ⟨⟨(some 33), .call (.val (.clos 42 [] [])) [.tmp 30, .tmp 32], none⟩, true, 0, 0, 28⟩,
    ⟨⟨(some 34), .buildF 4 [.tmp 33], none⟩, false, 1, 1, 60⟩,
    ⟨⟨(some 35), .append 4 56 (.tmp 29) (.tmp 34), none⟩, true, 0, 0, 127⟩,
    ⟨⟨(some 36), .faddr 3 (.tmp 5), none⟩, false, 2, 2, 255⟩,
    ⟨⟨none, .store 1 (.tmp 36) (.tmp 35), none⟩, true, 0, 0, 511⟩]))
  (.region [⟨(some 37), .bin .add (.tmp 26) (.val (.int .i64 1)), none⟩,
    ⟨(some 26), .mov (.tmp 37), none⟩])))))))
  (.seq (.region [⟨(some 38), .load true 4 (.tmp 5), none⟩,
    ⟨none, .store 4 (.tmp 4) (.tmp 38), none⟩])
  .ret)))))))
def r42 : List SRes := [.cell true 4 4]
theorem c42 : Code1 Tryz.prog 42 s42 r42 39 :=
  ⟨⟨Tryz.f42, _, Tryz.func42, rfl, rfl, by kernel_rfl, by kernel_rfl⟩, by kernel_rfl, by kernel_rfl⟩
def s43 : SCode :=
  (.seq (.region [⟨(some 4), .mov (.val (.nils)), none⟩])
  (.seq (.region [⟨(some 5), .mov (.val (.nils)), none⟩])
  (.seq (.seq (.region [⟨(some 9), .mov (.tmp 1), none⟩,
    ⟨(some 10), .mov (.val (.int .i64 0)), none⟩])
  (.block 0 (.loop (.seq (.region [⟨(some 11), .bin .lss (.tmp 10) (.tmp 9), none⟩])
  (.seq (.cond (.tmp 11) .skip (.exit 0))
  (.seq (.block 1 (.seq (.region [⟨(some 12), .mov (.tmp 10), none⟩,
    ⟨(some 6), .mov (.tmp 12), none⟩])
  (.region [⟨(some 13), .mov (.tmp 5), none⟩,
    ⟨(some 14), .mov (.tmp 6), none⟩,
    ⟨(some 15), .buildF 1 [.tmp 14], none⟩,
    ⟨(some 16), .append 1 8 (.tmp 13) (.tmp 15), none⟩,
    ⟨(some 5), .mov (.tmp 16), none⟩])))
  (.region [⟨(some 17), .bin .add (.tmp 10) (.val (.int .i64 1)), none⟩,
    ⟨(some 10), .mov (.tmp 17), none⟩])))))))
  (.seq (.seq (.region [⟨(some 18), .mov (.tmp 1), none⟩,
    ⟨(some 19), .bin .sub (.tmp 18) (.val (.int .i64 1)), none⟩,
    ⟨(some 7), .mov (.tmp 19), none⟩])
  (.block 2 (.loop (.seq (.seq (.region [⟨(some 20), .mov (.tmp 7), none⟩,
    ⟨(some 21), .bin .gtr (.tmp 20) (.val (.int .i64 0)), none⟩])
  (.cond (.tmp 21) .skip (.exit 2)))
  (.seq (.block 3 (.seq (.region [⟨(some 24), .mov (.tmp 0), none⟩,
    ⟨(some 25), .mov (.tmp 7), none⟩,
    ⟨(some 26), .bin .add (.tmp 25) (.val (.int .i64 1)), none⟩,
    ⟨(some 27), .call (.val (.clos 16 [] [])) [.tmp 24, .tmp 26], none⟩,
    ⟨(some 8), .mov (.tmp 27), none⟩])
  (.qregion [⟨⟨(some 28), .mov (.tmp 5), none⟩, false, 0, 0, 0⟩,
    ⟨⟨(some 29), .mov (.tmp 7), none⟩, false, 0, 0, 0⟩,
    ⟨⟨(some 30), .mov (.tmp 5), none⟩, false, 0, 1, 0⟩,
    ⟨⟨(some 31), .mov (.tmp 8), none⟩, false, 0, 1, 0⟩,
    ⟨⟨(some 32), .mov (.tmp 5), none⟩, false, 0, 0, 0⟩,
    ⟨⟨(some 33), .mov (.tmp 8), none⟩, false, 0, 0, 0⟩,
    ⟨⟨(some 34), .iaddr 1 (.tmp 32) (.tmp 33), none⟩, false, 0, 0, 48⟩,
    ⟨⟨(some 35), .load false 1 (.tmp 34), none⟩, false, 0, 0, 112⟩,
    ⟨⟨(some 36), .mov (.tmp 5), none⟩, false, 0, 0, 0⟩,
    ⟨⟨(some 37), .mov (.tmp 7), none⟩, false, 0, 0, 0⟩,
    ⟨⟨(some 38), .iaddr 1 (.tmp 36) (.tmp 37), none⟩, false, 0, 0, 768⟩,
    ⟨⟨(some 39), .load false 1 (.tmp 38), none⟩, false, 0, 0, 1792⟩,
    ⟨⟨(some 40), .iaddr 1 (.tmp 28) (.tmp 29), none⟩, false, 0, 0, 4083⟩,
    ⟨⟨none, .store 1 (.tmp 40) (.tmp 35), none⟩, true, 0, 0, 8179⟩,
    ⟨⟨(some 41), .iaddr 1 (.tmp 30) (.tmp 31), none⟩, false, 1, 1, 16383⟩,
    ⟨⟨none, .store 1 (.tmp 41) (.tmp 39), none⟩, true, 0, 0, 32767⟩])))
  (.region [⟨(some 22), .mov (.tmp 7), none⟩,
    ⟨(some 23), .bin .sub (.tmp 22) (.val (.int .i64 1)), none⟩,
    ⟨(some 7), .mov (.tmp 23), none⟩]))))))
  (.seq (.region [⟨(some 42), .mov (.tmp 5), none⟩,
    ⟨(some 4), .mov (.tmp 42), none⟩])
  .ret)))))
def r43 : List SRes := [.tmp 4]
theorem c43 : Code1 Tryz.prog 43 s43 r43 43 :=
  ⟨⟨Tryz.f43, _, Tryz.func43, rfl, rfl, by kernel_rfl, by kernel_rfl⟩, by kernel_rfl, by kernel_rfl⟩
def s44 : SCode :=
  (.seq (.region [⟨(some 4), .mov (.val (.int .i64 0)), none⟩])
  (.seq (.seq (.region [⟨(some 5), .mov (.tmp 1), none⟩,
    ⟨(some 6), .bin .lss (.tmp 5) (.val (.int .i64 1)), none⟩])
  (.cond (.tmp 6) (.seq (.region [⟨(some 4), .mov (.val (.int .i64 0)), none⟩])
  .ret) .skip))
  (.seq (.region [⟨(some 7), .mov (.tmp 0), none⟩,
    ⟨(some 8), .mov (.tmp 1), none⟩,
    ⟨(some 9), .bin .rem (.tmp 7) (.tmp 8), none⟩,
    ⟨(some 0), .mov (.tmp 9), none⟩])
  (.seq (.seq (.region [⟨(some 10), .mov (.tmp 0), none⟩,
    ⟨(some 11), .bin .lss (.tmp 10) (.val (.int .i64 0)), none⟩])
  (.cond (.tmp 11) (.region [⟨(some 12), .mov (.tmp 0), none⟩,
    ⟨(some 13), .mov (.tmp 1), none⟩,
    ⟨(some 14), .bin .add (.tmp 12) (.tmp 13), none⟩,
    ⟨(some 0), .mov (.tmp 14), none⟩]) .skip))
  (.seq (.region [⟨(some 15), .mov (.tmp 0), none⟩,
    ⟨(some 4), .mov (.tmp 15), none⟩])
  .ret)))))
def r44 : List SRes := [.tmp 4]
theorem c44 : Code1 Tryz.prog 44 s44 r44 16 :=
  ⟨⟨Tryz.f44, _, Tryz.func44, rfl, rfl, by kernel_rfl, by kernel_rfl⟩, by kernel_rfl, by kernel_rfl⟩
def s45 : SCode :=
  (.seq (.region [⟨(some 2), .alloc (.agg [.int .i64 0, .int .i64 0, .str ⟨#[]⟩, .nils]), none⟩])
  (.seq (.seq (.region [⟨(some 3), .mov (.tmp 0), none⟩,
    ⟨(some 4), .call (.val (.clos 14 [] [])) [.tmp 3, .val (.int .i64 2)], none⟩])
  (.cond (.tmp 4) (.seq (.region [⟨(some 5), .mov (.tmp 0), none⟩,
    ⟨(some 6), .buildF 1 [.val (.int .i64 0), .val (.int .i64 1), .val (.int .i64 2), .val (.int .i64 5), .val (.int .i64 999)], none⟩,
    ⟨(some 7), .call (.val (.clos 5 [] [])) [.tmp 5, .tmp 6], none⟩,
    ⟨(some 8), .build [.int .i64 0, .int .i64 0, .str ⟨#[]⟩, .nils] [(0, 1, .val (.int .i64 1)), (1, 1, .tmp 7)], none⟩,
    ⟨none, .store 4 (.tmp 2) (.tmp 8), none⟩])
  .ret) .skip))
  (.seq (.region [⟨(some 9), .mov (.tmp 0), none⟩,
    ⟨(some 10), .buildF 1 [.val (.str ⟨#[120]⟩), .val (.str ⟨#[121]⟩), .val (.str ⟨#[120]⟩), .val (.str ⟨#[122]⟩)], none⟩,
    ⟨(some 11), .call (.val (.clos 41 [] [])) [.tmp 9, .tmp 10], none⟩,
    ⟨(some 12), .build [.int .i64 0, .int .i64 0, .str ⟨#[]⟩, .nils] [(0, 1, .val (.int .i64 2)), (2, 1, .tmp 11)], none⟩,
    ⟨none, .store 4 (.tmp 2) (.tmp 12), none⟩])
  .ret)))
def r45 : List SRes := [.cell true 4 2]
theorem c45 : Code1 Tryz.prog 45 s45 r45 13 :=
  ⟨⟨Tryz.f45, _, Tryz.func45, rfl, rfl, by kernel_rfl, by kernel_rfl⟩, by kernel_rfl, by kernel_rfl⟩
def s46 : SCode :=
  (.seq (.region [⟨(some 2), .mov (.val (.nils)), none⟩])
  (.seq (.seq (.region [⟨(some 3), .mov (.tmp 0), none⟩,
    ⟨(some 4), .snil false (.tmp 3), none⟩])
  (.cond (.tmp 4) (.seq (.region [⟨(some 2), .mov (.val (.nils)), none⟩])
  .ret) .skip))
  (.seq (.region [⟨(some 5), .mkemp, none⟩,
    ⟨(some 6), .mov (.tmp 0), none⟩,
    ⟨(some 7), .append 1 16 (.tmp 5) (.tmp 6), none⟩,
    ⟨(some 2), .mov (.tmp 7), none⟩])
  .ret)))
def r46 : List SRes := [.tmp 2]
theorem c46 : Code1 Tryz.prog 46 s46 r46 8 :=
  ⟨⟨Tryz.f46, _, Tryz.func46, rfl, rfl, by kernel_rfl, by kernel_rfl⟩, by kernel_rfl, by kernel_rfl⟩
def s47 : SCode :=
  (.seq (.region [⟨(some 4), .mov (.tmp 0), none⟩,
    ⟨(some 5), .len false (.tmp 4), none⟩,
    ⟨(some 6), .bin .sub (.tmp 5) (.val (.int .i64 1)), none⟩,
    ⟨(some 2), .mov (.val (.int .i64 0)), none⟩,
    ⟨(some 3), .mov (.tmp 6), none⟩])
  (.block 0 (.loop (.seq (.seq (.region [⟨(some 7), .mov (.tmp 2), none⟩,
    ⟨(some 8), .mov (.tmp 3), none⟩,
    ⟨(some 9), .bin .lss (.tmp 7) (.tmp 8), none⟩])
  (.cond (.tmp 9) .skip (.exit 0)))
  (.seq (.block 1 (.qregion [⟨⟨(some 14), .mov (.tmp 0), none⟩, false, 0, 0, 0⟩,
    ⟨⟨(some 15), .mov (.tmp 2), none⟩, false, 0, 0, 0⟩,
    ⟨⟨(some 16), .mov (.tmp 0), none⟩, false, 0, 1, 0⟩,
    ⟨⟨(some 17), .mov (.tmp 3), none⟩, false, 0, 1, 0⟩,
    ⟨⟨(some 18), .mov (.tmp 0), none⟩, false, 0, 0, 0⟩,
    ⟨⟨(some 19), .mov (.tmp 3), none⟩, false, 0, 0, 0⟩,
    ⟨⟨(some 20), .iaddr 1 (.tmp 18) (.tmp 19), none⟩, false, 0, 0, 48⟩,
    ⟨⟨(some 21), .load false 1 (.tmp 20), none⟩, false, 0, 0, 112⟩,
    ⟨⟨(some 22), .mov (.tmp 0), none⟩, false, 0, 0, 0⟩,
    ⟨⟨(some 23), .mov (.tmp 2), none⟩, false, 0, 0, 0⟩,
    ⟨⟨(some 24), .iaddr 1 (.tmp 22) (.tmp 23), none⟩, false, 0, 0, 768⟩,
    ⟨⟨(some 25), .load false 1 (.tmp 24), none⟩, false, 0, 0, 1792⟩,
    ⟨⟨(some 26), .iaddr 1 (.tmp 14) (.tmp 15), none⟩, false, 0, 0, 4083⟩,
    ⟨⟨none, .store 1 (.tmp 26) (.tmp 21), none⟩, true, 0, 0, 8179⟩,
    ⟨⟨(some 27), .iaddr 1 (.tmp 16) (.tmp 17), none⟩, false, 1, 1, 16383⟩,
    ⟨⟨none, .store 1 (.tmp 27) (.tmp 25), none⟩, true, 0, 0, 32767⟩]))
  (.region [⟨(some 10), .mov (.tmp 2), none⟩,
    ⟨(some 11), .bin .add (.tmp 10) (.val (.int .i64 1)), none⟩,
    ⟨(some 12), .mov (.tmp 3), none⟩,
    ⟨(some 13), .bin .sub (.tmp 12) (.val (.int .i64 1)), none⟩,
    ⟨(some 2), .mov (.tmp 11), none⟩,
    ⟨(some 3), .mov (.tmp 13), none⟩]))))))
def r47 : List SRes := []
theorem c47 : Code1 Tryz.prog 47 s47 r47 28 :=
  ⟨⟨Tryz.f47, _, Tryz.func47, rfl, rfl, by kernel_rfl, by kernel_rfl⟩, by kernel_rfl, by kernel_rfl⟩
def s48 : SCode :=
  (.seq (.region [⟨(some 6), .mov (.val (.int .i64 0)), none⟩])
  (.seq (.seq (.region [⟨(some 7), .mov (.tmp 0), none⟩,
    ⟨(some 8), .call (.val (.clos 14 [] [])) [.tmp 7, .val (.int .i64 12)], none⟩])
  (.cond (.tmp 8) (.seq (.region [⟨(some 9), .mov (.tmp 0), none⟩,
    ⟨(some 10), .mov (.tmp 1), none⟩,
    ⟨(some 11), .bin .sub (.tmp 10) (.val (.int .i64 1)), none⟩,
    ⟨(some 12), .mov (.tmp 2), none⟩,
    ⟨(some 13), .bin .add (.tmp 12) (.val (.int .i64 1)), none⟩,
    ⟨(some 14), .mov (.tmp 1), none⟩,
    ⟨(some 15), .mov (.tmp 2), none⟩,
    ⟨(some 16), .buildF 1 [.tmp 11, .tmp 13, .tmp 14, .tmp 15, .val (.int .i64 (-1099511627776)), .val (.int .i64 1099511627776)], none⟩,
    ⟨(some 17), .call (.val (.clos 5 [] [])) [.tmp 9, .tmp 16], none⟩,
    ⟨(some 6), .mov (.tmp 17), none⟩])
  .ret) .skip))
  (.seq (.region [⟨(some 18), .mov (.tmp 0), none⟩,
    ⟨(some 19), .mov (.tmp 1), none⟩,
    ⟨(some 20), .mov (.tmp 2), none⟩,
    ⟨(some 21), .call (.val (.clos 39 [] [])) [.tmp 18, .tmp 19, .tmp 20], none⟩,
    ⟨(some 6), .mov (.tmp 21), none⟩])
  .ret)))
def r48 : List SRes := [.tmp 6]
theorem c48 : Code1 Tryz.prog 48 s48 r48 22 :=
  ⟨⟨Tryz.f48, _, Tryz.func48, rfl, rfl, by kernel_rfl, by kernel_rfl⟩, by kernel_rfl, by kernel_rfl⟩
def s49 : SCode :=
  (.seq (.region [⟨(some 2), .mov (.val (.int .i64 0)), none⟩])
  (.seq (.region [⟨(some 6), .mov (.tmp 0), none⟩,
    ⟨(some 7), .len false (.tmp 6), none⟩,
    ⟨(some 3), .mov (.tmp 7), none⟩])
  (.seq (.seq (.region [⟨(some 8), .mov (.tmp 0), none⟩,
    ⟨(some 9), .len false (.tmp 8), none⟩,
    ⟨(some 10), .mov (.val (.int .i64 0)), none⟩])
  (.block 0 (.loop (.seq (.region [⟨(some 11), .bin .lss (.tmp 10) (.tmp 9), none⟩])
  (.seq (.cond (.tmp 11) .skip (.exit 0))
  (.seq (.block 1 (.seq (.region [⟨(some 12), .iaddr 13 (.tmp 8) (.tmp 10), none⟩,
    ⟨(some 13), .load true 13 (.tmp 12), none⟩,
    ⟨(some 5), .alloc (.agg [.int .i64 0, .str ⟨#[]⟩, .str ⟨#[]⟩, .str ⟨#[]⟩, .str ⟨#[]⟩, .int .i64 0, .int .i64 0, .str ⟨#[]⟩, .nils, .nils, .nils, .str ⟨#[]⟩, .nils]), none⟩,
    ⟨none, .store 13 (.tmp 5) (.tmp 13), none⟩])
  (.qregion [⟨⟨(some 14), .mov (.tmp 3), none⟩, false, 0, 0, 0⟩,
    ⟨⟨(some 15), .faddr 9 (.tmp 5), none⟩, false, 0, 0, 0⟩,
    ⟨⟨(some 16), .load false 1 (.tmp 15), none⟩, false, 0, 0, 2⟩,
    ⟨⟨(some 17), .call (.val (.clos 49 [] [])) [.tmp 16], none⟩, false, 0, 0, 6⟩,
    ⟨⟨(some 18), .faddr 10 (.tmp 5), none⟩, false, 0, 0, 0⟩,
    ⟨⟨(some 19), .load false 1 (.tmp 18), none⟩, false, 0, 0, 16⟩,
    ⟨⟨(some 20), .call (.val (.clos 49 [] [])) [.tmp 19], none⟩, false, 0, 0, 62⟩,
    ⟨⟨(some 21), .bin .add (.tmp 17) (.tmp 20), none⟩, false, 0, 0, 126⟩,
    ⟨⟨(some 22), .bin .add (.tmp 14) (.tmp 21), none⟩, false, 0, 0, 255⟩,
    ⟨⟨(some 3), .mov (.tmp 22), none⟩, false, 0, 0, 511⟩])))
  (.region [⟨(some 23), .bin .add (.tmp 10) (.val (.int .i64 1)), none⟩,
    ⟨(some 10), .mov (.tmp 23), none⟩])))))))
  (.seq (.region [⟨(some 24), .mov (.tmp 3), none⟩,
    ⟨(some 2), .mov (.tmp 24), none⟩])
  .ret))))
def r49 : List SRes := [.tmp 2]
theorem c49 : Code1 Tryz.prog 49 s49 r49 25 :=
  ⟨⟨Tryz.f49, _, Tryz.func49, rfl, rfl, by kernel_rfl, by kernel_rfl⟩, by kernel_rfl, by kernel_rfl⟩
def s50 : SCode :=
  (.seq (.region [⟨(some 6), .mov (.val (.nils)), none⟩,
    ⟨(some 7), .mov (.val (.int .i64 0)), none⟩])
  (.seq (.region [⟨(some 8), .mov (.val (.nils)), none⟩])
  (.seq (.seq (.region [⟨(some 12), .mov (.tmp 0), none⟩,
    ⟨(some 13), .len false (.tmp 12), none⟩,
    ⟨(some 14), .mov (.val (.int .i64 0)), none⟩])
  (.block 0 (.loop (.seq (.region [⟨(some 15), .bin .lss (.tmp 14) (.tmp 13), none⟩])
  (.seq (.cond (.tmp 15) .skip (.exit 0))
  (.seq (.block 1 (.seq (.region [⟨(some 16), .iaddr 13 (.tmp 12) (.tmp 14), none⟩,
    ⟨(some 17), .load true 13 (.tmp 16), none⟩,
    ⟨(some 10), .alloc (.agg [.int .i64 0, .str ⟨#[]⟩, .str ⟨#[]⟩, .str ⟨#[]⟩, .str ⟨#[]⟩, .int .i64 0, .int .i64 0, .str ⟨#[]⟩, .nils, .nils, .nils, .str ⟨#[]⟩, .nils]), none⟩,
    ⟨none, .store 13 (.tmp 10) (.tmp 17), none⟩])
  (.seq (.region [⟨(some 18), .mov (.tmp 1), none⟩,
    ⟨(some 11), .mov (.tmp 18), none⟩])
  (.seq (.qregion [⟨⟨(some 19), .faddr 12 (.tmp 10), none⟩, false, 0, 0, 0⟩,
    ⟨⟨(some 20), .load false 1 (.tmp 19), none⟩, false, 0, 0, 1⟩,
    ⟨⟨(some 21), .call (.val (.clos 46 [] [])) [.tmp 20], none⟩, false, 0, 0, 3⟩,
    ⟨⟨(some 22), .faddr 5 (.tmp 10), none⟩, false, 0, 0, 0⟩,
    ⟨⟨(some 23), .load true 4 (.tmp 22), none⟩, false, 0, 0, 8⟩,
    ⟨⟨(some 24), .call (.val (.clos 68 [] [])) [.tmp 23], none⟩, false, 0, 0, 31⟩,
    ⟨⟨(some 25), .faddr 12 (.tmp 10), none⟩, false, 0, 0, 31⟩,
    ⟨⟨none, .store 1 (.tmp 25) (.tmp 21), none⟩, true, 0, 0, 127⟩,
    ⟨⟨(some 26), .faddr 5 (.tmp 10), none⟩, false, 1, 1, 255⟩,
    ⟨⟨none, .store 4 (.tmp 26) (.tmp 24), none⟩, true, 0, 0, 511⟩])
  (.seq (.region [⟨(some 28), .faddr 9 (.tmp 10), none⟩,
    ⟨(some 29), .load false 1 (.tmp 28), none⟩,
    ⟨(some 30), .mov (.tmp 1), none⟩,
    ⟨(some 31), .bin .add (.tmp 30) (.val (.int .i64 1)), none⟩,
    ⟨(some 32), .mov (.tmp 2), none⟩,
    ⟨(some 33), .call (.val (.clos 50 [] [])) [.tmp 29, .tmp 31, .tmp 32], none⟩,
    ⟨(some 27), .mov (.tmp 33), none⟩,
    ⟨(some 34), .extract (.tmp 27) 0, none⟩,
    ⟨(some 35), .extract (.tmp 27) 1, none⟩,
    ⟨(some 36), .faddr 9 (.tmp 10), none⟩,
    ⟨none, .store 1 (.tmp 36) (.tmp 34), none⟩,
    ⟨(some 1), .mov (.tmp 35), none⟩])
  (.seq (.region [⟨(some 38), .faddr 10 (.tmp 10), none⟩,
    ⟨(some 39), .load false 1 (.tmp 38), none⟩,
    ⟨(some 40), .mov (.tmp 1), none⟩,
    ⟨(some 41), .mov (.tmp 2), none⟩,
    ⟨(some 42), .call (.val (.clos 50 [] [])) [.tmp 39, .tmp 40, .tmp 41], none⟩,
    ⟨(some 37), .mov (.tmp 42), none⟩,
    ⟨(some 43), .extract (.tmp 37) 0, none⟩,
    ⟨(some 44), .extract (.tmp 37) 1, none⟩,
    ⟨(some 45), .faddr 10 (.tmp 10), none⟩,
    ⟨none, .store 1 (.tmp 45) (.tmp 43), none⟩,
    ⟨(some 1), .mov (.tmp 44), none⟩])
  (.region [⟨(some 46), .mov (.tmp 8), none⟩,
    ⟨(some 47), .mov (.tmp 2), none⟩,
    ⟨(some 48), .mov (.tmp 11), none⟩,
    ⟨(some 49), .load true 13 (.tmp 10), none⟩,
    ⟨(some 50), .call (.tmp 47) [.tmp 48, .tmp 49], none⟩,
    ⟨(some 51), .append 13 216 (.tmp 46) (.tmp 50), none⟩,
    ⟨(some 8), .mov (.tmp 51), none⟩])))))))
  (.region [⟨(some 52), .bin .add (.tmp 14) (.val (.int .i64 1)), none⟩,
    ⟨(some 14), .mov (.tmp 52), none⟩])))))))
  (.seq (.region [⟨(some 53), .mov (.tmp 8), none⟩,
    ⟨(some 54), .mov (.tmp 1), none⟩,
    ⟨(some 6), .mov (.tmp 53), none⟩,
    ⟨(some 7), .mov (.tmp 54), none⟩])
  .ret))))
def r50 : List SRes := [.tmp 6, .tmp 7]
theorem c50 : Code1 Tryz.prog 50 s50 r50 55 :=
  ⟨⟨Tryz.f50, _, Tryz.func50, rfl, rfl, by kernel_rfl, by kernel_rfl⟩, by kernel_rfl, by kernel_rfl⟩
def s51 : SCode :=
  (.seq (.region [⟨(some 6), .mov (.val (.int .i64 0)), none⟩])
  (.seq (.seq (.region [⟨(some 9), .mov (.tmp 0), none⟩,
    ⟨(some 10), .len false (.tmp 9), none⟩,
    ⟨(some 11), .mov (.val (.int .i64 0)), none⟩])
  (.block 0 (.loop (.seq (.region [⟨(some 12), .bin .lss (.tmp 11) (.tmp 10), none⟩])
  (.seq (.cond (.tmp 12) .skip (.exit 0))
  (.seq (.block 1 (.seq (.region [⟨(some 13), .iaddr 13 (.tmp 9) (.tmp 11), none⟩,
    ⟨(some 14), .load true 13 (.tmp 13), none⟩,
    ⟨(some 8), .alloc (.agg [.int .i64 0, .str ⟨#[]⟩, .str ⟨#[]⟩, .str ⟨#[]⟩, .str ⟨#[]⟩, .int .i64 0, .int .i64 0, .str ⟨#[]⟩, .nils, .nils, .nils, .str ⟨#[]⟩, .nils]), none⟩,
    ⟨none, .store 13 (.tmp 8) (.tmp 14), none⟩])
  (.seq (.region [⟨(some 15), .mov (.tmp 2), none⟩,
    ⟨(some 16), .mov (.tmp 1), none⟩,
    ⟨(some 17), .load true 13 (.tmp 8), none⟩,
    ⟨(some 18), .call (.tmp 15) [.tmp 16, .tmp 17], none⟩])
  (.seq (.region [⟨(some 19), .faddr 9 (.tmp 8), none⟩,
    ⟨(some 20), .load false 1 (.tmp 19), none⟩,
    ⟨(some 21), .mov (.tmp 1), none⟩,
    ⟨(some 22), .bin .add (.tmp 21) (.val (.int .i64 1)), none⟩,
    ⟨(some 23), .mov (.tmp 2), none⟩,
    ⟨(some 24), .call (.val (.clos 51 [] [])) [.tmp 20, .tmp 22, .tmp 23], none⟩,
    ⟨(some 1), .mov (.tmp 24), none⟩])
  (.region [⟨(some 25), .faddr 10 (.tmp 8), none⟩,
    ⟨(some 26), .load false 1 (.tmp 25), none⟩,
    ⟨(some 27), .mov (.tmp 1), none⟩,
    ⟨(some 28), .mov (.tmp 2), none⟩,
    ⟨(some 29), .call (.val (.clos 51 [] [])) [.tmp 26, .tmp 27, .tmp 28], none⟩,
    ⟨(some 1), .mov (.tmp 29), none⟩])))))
  (.region [⟨(some 30), .bin .add (.tmp 11) (.val (.int .i64 1)), none⟩,
    ⟨(some 11), .mov (.tmp 30), none⟩])))))))
  (.seq (.region [⟨(some 31), .mov (.tmp 1), none⟩,
    ⟨(some 6), .mov (.tmp 31), none⟩])
  .ret)))
def r51 : List SRes := [.tmp 6]
theorem c51 : Code1 Tryz.prog 51 s51 r51 32 :=
  ⟨⟨Tryz.f51, _, Tryz.func51, rfl, rfl, by kernel_rfl, by kernel_rfl⟩, by kernel_rfl, by kernel_rfl⟩
def s52 : SCode :=
  (.seq (.region [⟨(some 4), .box (.tmp 1), none⟩])
  (.region [⟨(some 5), .load false 1 (.tmp 2), none⟩,
    ⟨(some 6), .mov (.tmp 0), none⟩,
    ⟨(some 7), .load true 13 (.tmp 4), none⟩,
    ⟨(some 8), .call (.tmp 5) [.tmp 6, .val (.int .i64 (-1)), .tmp 7], none⟩]))
def r52 : List SRes := []
theorem c52 : Code1 Tryz.prog 52 s52 r52 9 :=
  ⟨⟨Tryz.f52, _, Tryz.func52, rfl, rfl, by kernel_rfl, by kernel_rfl⟩, by kernel_rfl, by kernel_rfl⟩
def s53 : SCode :=
  (.seq (.region [⟨(some 5), .box (.tmp 1), none⟩])
  (.region [⟨(some 6), .load false 1 (.tmp 2), none⟩,
    ⟨(some 7), .mov (.tmp 0), none⟩,
    ⟨(some 8), .load false 1 (.tmp 3), none⟩,
    ⟨(some 9), .load true 13 (.tmp 5), none⟩,
    ⟨(some 10), .call (.tmp 6) [.tmp 7, .tmp 8, .tmp 9], none⟩]))
def r53 : List SRes := []
theorem c53 : Code1 Tryz.prog 53 s53 r53 11 :=
  ⟨⟨Tryz.f53, _, Tryz.func53, rfl, rfl, by kernel_rfl, by kernel_rfl⟩, by kernel_rfl, by kernel_rfl⟩
def s54 : SCode :=
  (.seq (.region [⟨(some 2), .mov (.val (.bool false)), none⟩])
  (.seq (.seq (.region [⟨(some 4), .mov (.tmp 0), none⟩,
    ⟨(some 5), .len true (.tmp 4), none⟩,
    ⟨(some 6), .call (.val (.clos 31 [] [])) [.tmp 5, .val (.int .i64 1), .val (.int .i64 40)], none⟩,
    ⟨(some 7), .un .not (.tmp 6), none⟩,
    ⟨(some 8), .mov (.tmp 7), none⟩,
    ⟨(some 9), .mov (.tmp 0), (some (8, false))⟩,
    ⟨(some 10), .sidx (.tmp 9) (.val (.int .i64 0)), (some (8, false))⟩,
    ⟨(some 11), .call (.val (.clos 69 [] [])) [.val (.str ⟨#[97, 98, 99, 100, 101, 102, 103, 104, 105, 106, 107, 108, 109, 110, 111, 112, 113, 114, 115, 116, 117, 118, 119, 120, 121, 122]⟩), .tmp 10], (some (8, false))⟩,
    ⟨(some 12), .bin .lss (.tmp 11) (.val (.int .i64 0)), (some (8, false))⟩,
    ⟨(some 13), .pick (.tmp 8) (.val (.bool true)) (.tmp 12), none⟩,
    ⟨(some 14), .mov (.tmp 13), none⟩,
    ⟨(some 15), .buildF 1 [.val (.str ⟨#[112, 114, 111, 99]⟩), .val (.str ⟨#[109, 97, 105, 110]⟩), .val (.str ⟨#[105, 102]⟩), .val (.str ⟨#[101, 108, 115, 101]⟩)], (some (14, false))⟩,
    ⟨(some 16), .mov (.tmp 0), (some (14, false))⟩,
    ⟨(some 17), .call (.val (.clos 29 [] [])) [.tmp 15, .tmp 16], (some (14, false))⟩,
    ⟨(some 18), .pick (.tmp 14) (.val (.bool true)) (.tmp 17), none⟩])
  (.cond (.tmp 18) (.seq (.region [⟨(some 2), .mov (.val (.bool false)), none⟩])
  .ret) .skip))
  (.seq (.seq (.region [⟨(some 19), .mov (.tmp 0), none⟩,
    ⟨(some 20), .len true (.tmp 19), none⟩,
    ⟨(some 21), .mov (.val (.int .i64 0)), none⟩])
  (.block 0 (.loop (.seq (.region [⟨(some 22), .bin .lss (.tmp 21) (.tmp 20), none⟩])
  (.seq (.cond (.tmp 22) .skip (.exit 0))
  (.seq (.block 1 (.seq (.region [⟨(some 23), .mov (.tmp 21), none⟩,
    ⟨(some 3), .mov (.tmp 23), none⟩])
  (.seq (.region [⟨(some 24), .mov (.tmp 0), none⟩,
    ⟨(some 25), .mov (.tmp 3), none⟩,
    ⟨(some 26), .sidx (.tmp 24) (.tmp 25), none⟩,
    ⟨(some 27), .call (.val (.clos 69 [] [])) [.val (.str ⟨#[97, 98, 99, 100, 101, 102, 103, 104, 105, 106, 107, 108, 109, 110, 111, 112, 113, 114, 115, 116, 117, 118, 119, 120, 121, 122, 48, 49, 50, 51, 52, 53, 54, 55, 56, 57, 95]⟩), .tmp 26], none⟩,
    ⟨(some 28), .bin .lss (.tmp 27) (.val (.int .i64 0)), none⟩])
  (.cond (.tmp 28) (.seq (.region [⟨(some 2), .mov (.val (.bool false)), none⟩])
  .ret) .skip))))
  (.region [⟨(some 29), .bin .add (.tmp 21) (.val (.int .i64 1)), none⟩,
    ⟨(some 21), .mov (.tmp 29), none⟩])))))))
  (.seq (.region [⟨(some 2), .mov (.val (.bool true)), none⟩])
  .ret))))
def r54 : List SRes := [.tmp 2]
theorem c54 : Code1 Tryz.prog 54 s54 r54 30 :=
  ⟨⟨Tryz.f54, _, Tryz.func54, rfl, rfl, by kernel_rfl, by kernel_rfl⟩, by kernel_rfl, by kernel_rfl⟩
def s55 : SCode :=
  (.seq (.region [⟨(some 6), .mov (.val (.int .i64 0)), none⟩])
  (.seq (.seq (.region [⟨(some 12), .mov (.tmp 0), none⟩,
    ⟨(some 13), .len false (.tmp 12), none⟩,
    ⟨(some 14), .mov (.val (.int .i64 0)), none⟩])
  (.block 0 (.loop (.seq (.region [⟨(some 15), .bin .lss (.tmp 14) (.tmp 13), none⟩])
  (.seq (.cond (.tmp 15) .skip (.exit 0))
  (.seq (.block 1 (.seq (.region [⟨(some 16), .iaddr 13 (.tmp 12) (.tmp 14), none⟩,
    ⟨(some 17), .load true 13 (.tmp 16), none⟩,
    ⟨(some 8), .alloc (.agg [.int .i64 0, .str ⟨#[]⟩, .str ⟨#[]⟩, .str ⟨#[]⟩, .str ⟨#[]⟩, .int .i64 0, .int .i64 0, .str ⟨#[]⟩, .nils, .nils, .nils, .str ⟨#[]⟩, .nils]), none⟩,
    ⟨none, .store 13 (.tmp 8) (.tmp 17), none⟩])
  (.seq (.region [⟨(some 18), .mov (.tmp 2), none⟩,
    ⟨(some 19), .nilc (.tmp 18), none⟩,
    ⟨(some 20), .load false 1 (.tmp 19), none⟩,
    ⟨(some 21), .bin .add (.tmp 20) (.val (.int .i64 1)), none⟩,
    ⟨(some 22), .nilc (.tmp 18), none⟩,
    ⟨none, .store 1 (.tmp 22) (.tmp 21), none⟩])
  (.seq (.seq (.region [⟨(some 23), .load true 13 (.tmp 8), none⟩,
    ⟨(some 24), .mov (.tmp 1), none⟩,
    ⟨(some 25), .call (.val (.clos 70 [] [])) [.tmp 23, .tmp 24], none⟩,
    ⟨(some 9), .mov (.tmp 25), none⟩])
  (.seq (.region [⟨(some 26), .mov (.tmp 9), none⟩,
    ⟨(some 27), .bin .neq (.tmp 26) (.val (.int .i64 0)), none⟩])
  (.cond (.tmp 27) (.seq (.region [⟨(some 28), .mov (.tmp 9), none⟩,
    ⟨(some 6), .mov (.tmp 28), none⟩])
  .ret) .skip)))
  (.seq (.seq (.region [⟨(some 29), .faddr 9 (.tmp 8), none⟩,
    ⟨(some 30), .load false 1 (.tmp 29), none⟩,
    ⟨(some 31), .mov (.tmp 1), none⟩,
    ⟨(some 32), .bin .add (.tmp 31) (.val (.int .i64 1)), none⟩,
    ⟨(some 33), .mov (.tmp 2), none⟩,
    ⟨(some 34), .call (.val (.clos 55 [] [])) [.tmp 30, .tmp 32, .tmp 33], none⟩,
    ⟨(some 35), .buildF 1 [.tmp 34, .val (.int .i64 0)], none⟩,
    ⟨(some 36), .call (.val (.clos 71 [] [])) [.tmp 35], none⟩,
    ⟨(some 10), .mov (.tmp 36), none⟩])
  (.seq (.region [⟨(some 37), .mov (.tmp 10), none⟩,
    ⟨(some 38), .bin .neq (.tmp 37) (.val (.int .i64 0)), none⟩])
  (.cond (.tmp 38) (.seq (.region [⟨(some 39), .mov (.tmp 10), none⟩,
    ⟨(some 6), .mov (.tmp 39), none⟩])
  .ret) .skip)))
  (.seq (.region [⟨(some 40), .faddr 10 (.tmp 8), none⟩,
    ⟨(some 41), .load false 1 (.tmp 40), none⟩,
    ⟨(some 42), .mov (.tmp 1), none⟩,
    ⟨(some 43), .bin .add (.tmp 42) (.val (.int .i64 1)), none⟩,
    ⟨(some 44), .mov (.tmp 2), none⟩,
    ⟨(some 45), .call (.val (.clos 55 [] [])) [.tmp 41, .tmp 43, .tmp 44], none⟩,
    ⟨(some 11), .mov (.tmp 45), none⟩])
  (.seq (.region [⟨(some 46), .mov (.tmp 11), none⟩,
    ⟨(some 47), .bin .neq (.tmp 46) (.val (.int .i64 0)), none⟩])
  (.cond (.tmp 47) (.seq (.region [⟨(some 48), .mov (.tmp 11), none⟩,
    ⟨(some 6), .mov (.tmp 48), none⟩])
  .ret) .skip))))))))
  (.region [⟨(some 49), .bin .add (.tmp 14) (.val (.int .i64 1)), none⟩,
    ⟨(some 14), .mov (.tmp 49), none⟩])))))))
  (.seq (.region [⟨(some 6), .mov (.val (.int .i64 0)), none⟩])
  .ret)))
def r55 : List SRes := [.tmp 6]
theorem c55 : Code1 Tryz.prog 55 s55 r55 50 :=
  ⟨⟨Tryz.f55, _, Tryz.func55, rfl, rfl, by kernel_rfl, by kernel_rfl⟩, by kernel_rfl, by kernel_rfl⟩
def s56 : SCode :=
  (.seq (.region [⟨(some 11), .mov (.tmp 0), none⟩,
    ⟨(some 12), .len false (.tmp 11), none⟩,
    ⟨(some 13), .mov (.val (.int .i64 0)), none⟩])
  (.block 0 (.loop (.seq (.region [⟨(some 14), .bin .lss (.tmp 13) (.tmp 12), none⟩])
  (.seq (.cond (.tmp 14) .skip (.exit 0))
  (.seq (.block 1 (.seq (.region [⟨(some 15), .mov (.tmp 13), none⟩,
    ⟨(some 16), .iaddr 13 (.tmp 11) (.tmp 13), none⟩,
    ⟨(some 17), .load true 13 (.tmp 16), none⟩,
    ⟨(some 9), .alloc (.agg [.int .i64 0, .str ⟨#[]⟩, .str ⟨#[]⟩, .str ⟨#[]⟩, .str ⟨#[]⟩, .int .i64 0, .int .i64 0, .str ⟨#[]⟩, .nils, .nils, .nils, .str ⟨#[]⟩, .nils]), none⟩,
    ⟨(some 8), .mov (.tmp 15), none⟩,
    ⟨none, .store 13 (.tmp 9) (.tmp 17), none⟩])
  (.seq (.region [⟨(some 18), .mov (.tmp 2), none⟩,
    ⟨(some 19), .mov (.tmp 18), none⟩,
    ⟨(some 20), .mov (.tmp 8), (some (19, true))⟩,
    ⟨(some 21), .mov (.tmp 0), (some (19, true))⟩,
    ⟨(some 22), .len false (.tmp 21), (some (19, true))⟩,
    ⟨(some 23), .bin .sub (.tmp 22) (.val (.int .i64 1)), (some (19, true))⟩,
    ⟨(some 24), .bin .eql (.tmp 20) (.tmp 23), (some (19, true))⟩,
    ⟨(some 25), .pick (.tmp 19) (.tmp 24) (.val (.bool false)), none⟩,
    ⟨(some 10), .mov (.tmp 25), none⟩])
  (.seq (.region [⟨(some 26), .load false 1 (.tmp 3), none⟩,
    ⟨(some 27), .load true 13 (.tmp 9), none⟩,
    ⟨(some 28), .mov (.tmp 1), none⟩,
    ⟨(some 29), .mov (.tmp 10), none⟩,
    ⟨(some 30), .build [.int .i64 0, .str ⟨#[]⟩, .str ⟨#[]⟩, .str ⟨#[]⟩, .str ⟨#[]⟩, .int .i64 0, .int .i64 0, .str ⟨#[]⟩, .nils, .nils, .nils, .str ⟨#[]⟩, .nils, .int .i64 0, .bool false] [(0, 13, .tmp 27), (13, 1, .tmp 28), (14, 1, .tmp 29)], none⟩,
    ⟨(some 31), .buildF 15 [.tmp 30], none⟩,
    ⟨(some 32), .append 15 232 (.tmp 26) (.tmp 31), none⟩,
    ⟨none, .store 1 (.tmp 3) (.tmp 32), none⟩])
  (.seq (.region [⟨(some 33), .load false 1 (.tmp 4), none⟩,
    ⟨(some 34), .faddr 9 (.tmp 9), none⟩,
    ⟨(some 35), .load false 1 (.tmp 34), none⟩,
    ⟨(some 36), .mov (.tmp 1), none⟩,
    ⟨(some 37), .mov (.tmp 10), none⟩,
    ⟨(some 38), .call (.tmp 33) [.tmp 35, .tmp 36, .tmp 37], none⟩])
  (.region [⟨(some 39), .load false 1 (.tmp 4), none⟩,
    ⟨(some 40), .faddr 10 (.tmp 9), none⟩,
    ⟨(some 41), .load false 1 (.tmp 40), none⟩,
    ⟨(some 42), .mov (.tmp 1), none⟩,
    ⟨(some 43), .mov (.tmp 10), none⟩,
    ⟨(some 44), .call (.tmp 39) [.tmp 41, .tmp 42, .tmp 43], none⟩]))))))
  (.region [⟨(some 45), .bin .add (.tmp 13) (.val (.int .i64 1)), none⟩,
    ⟨(some 13), .mov (.tmp 45), none⟩])))))))
def r56 : List SRes := []
theorem c56 : Code1 Tryz.prog 56 s56 r56 46 :=
  ⟨⟨Tryz.f56, _, Tryz.func56, rfl, rfl, by kernel_rfl, by kernel_rfl⟩, by kernel_rfl, by kernel_rfl⟩
def s57 : SCode :=
  (.seq (.region [⟨(some 4), .mov (.val (.int .i64 0)), none⟩])
  (.seq (.seq (.region [⟨(some 6), .mov (.tmp 0), none⟩,
    ⟨(some 7), .len false (.tmp 6), none⟩,
    ⟨(some 8), .mov (.val (.int .i64 0)), none⟩])
  (.block 0 (.loop (.seq (.region [⟨(some 9), .bin .lss (.tmp 8) (.tmp 7), none⟩])
  (.seq (.cond (.tmp 9) .skip (.exit 0))
  (.seq (.block 1 (.seq (.region [⟨(some 10), .mov (.tmp 8), none⟩,
    ⟨(some 5), .mov (.tmp 10), none⟩])
  (.seq (.region [⟨(some 11), .mov (.tmp 1), none⟩,
    ⟨(some 12), .mov (.tmp 0), none⟩,
    ⟨(some 13), .mov (.tmp 5), none⟩,
    ⟨(some 14), .iaddr 1 (.tmp 12) (.tmp 13), none⟩,
    ⟨(some 15), .load false 1 (.tmp 14), none⟩,
    ⟨(some 16), .call (.tmp 11) [.tmp 15], none⟩])
  (.cond (.tmp 16) (.seq (.region [⟨(some 17), .mov (.tmp 5), none⟩,
    ⟨(some 4), .mov (.tmp 17), none⟩])
  .ret) .skip))))
  (.region [⟨(some 18), .bin .add (.tmp 8) (.val (.int .i64 1)), none⟩,
    ⟨(some 8), .mov (.tmp 18), none⟩])))))))
  (.seq (.region [⟨(some 4), .mov (.val (.int .i64 (-1))), none⟩])
  .ret)))
def r57 : List SRes := [.tmp 4]
theorem c57 : Code1 Tryz.prog 57 s57 r57 19 :=
  ⟨⟨Tryz.f57, _, Tryz.func57, rfl, rfl, by kernel_rfl, by kernel_rfl⟩, by kernel_rfl, by kernel_rfl⟩
def s58 : SCode :=
  (.seq (.region [⟨(some 4), .mov (.val (.int .i64 0)), none⟩])
  (.seq (.seq (.region [⟨(some 6), .mov (.tmp 0), none⟩,
    ⟨(some 7), .len false (.tmp 6), none⟩,
    ⟨(some 8), .mov (.val (.int .i64 0)), none⟩])
  (.block 0 (.loop (.seq (.region [⟨(some 9), .bin .lss (.tmp 8) (.tmp 7), none⟩])
  (.seq (.cond (.tmp 9) .skip (.exit 0))
  (.seq (.block 1 (.seq (.region [⟨(some 10), .mov (.tmp 8), none⟩,
    ⟨(some 5), .mov (.tmp 10), none⟩])
  (.seq (.region [⟨(some 11), .mov (.tmp 1), none⟩,
    ⟨(some 12), .mov (.tmp 0), none⟩,
    ⟨(some 13), .mov (.tmp 5), none⟩,
    ⟨(some 14), .iaddr 1 (.tmp 12) (.tmp 13), none⟩,
    ⟨(some 15), .load false 1 (.tmp 14), none⟩,
    ⟨(some 16), .bin .eql (.tmp 11) (.tmp 15), none⟩])
  (.cond (.tmp 16) (.seq (.region [⟨(some 17), .mov (.tmp 5), none⟩,
    ⟨(some 4), .mov (.tmp 17), none⟩])
  .ret) .skip))))
  (.region [⟨(some 18), .bin .add (.tmp 8) (.val (.int .i64 1)), none⟩,
    ⟨(some 8), .mov (.tmp 18), none⟩])))))))
  (.seq (.region [⟨(some 4), .mov (.val (.int .i64 (-1))), none⟩])
  .ret)))
def r58 : List SRes := [.tmp 4]
theorem c58 : Code1 Tryz.prog 58 s58 r58 19 :=
  ⟨⟨Tryz.f58, _, Tryz.func58, rfl, rfl, by kernel_rfl, by kernel_rfl⟩, by kernel_rfl, by kernel_rfl⟩
def s59 : SCode :=
  (.seq (.region [⟨(some 4), .mov (.val (.int .i64 0)), none⟩])
  (.seq (.seq (.region [⟨(some 6), .mov (.tmp 0), none⟩,
    ⟨(some 7), .len false (.tmp 6), none⟩,
    ⟨(some 8), .mov (.val (.int .i64 0)), none⟩])
  (.block 0 (.loop (.seq (.region [⟨(some 9), .bin .lss (.tmp 8) (.tmp 7), none⟩])
  (.seq (.cond (.tmp 9) .skip (.exit 0))
  (.seq (.block 1 (.seq (.region [⟨(some 10), .mov (.tmp 8), none⟩,
    ⟨(some 5), .mov (.tmp 10), none⟩])
  (.seq (.region [⟨(some 11), .mov (.tmp 1), none⟩,
    ⟨(some 12), .mov (.tmp 0), none⟩,
    ⟨(some 13), .mov (.tmp 5), none⟩,
    ⟨(some 14), .iaddr 3 (.tmp 12) (.tmp 13), none⟩,
    ⟨(some 15), .load true 3 (.tmp 14), none⟩,
    ⟨(some 16), .call (.tmp 11) [.tmp 15], none⟩])
  (.cond (.tmp 16) (.seq (.region [⟨(some 17), .mov (.tmp 5), none⟩,
    ⟨(some 4), .mov (.tmp 17), none⟩])
  .ret) .skip))))
  (.region [⟨(some 18), .bin .add (.tmp 8) (.val (.int .i64 1)), none⟩,
    ⟨(some 8), .mov (.tmp 18), none⟩])))))))
  (.seq (.region [⟨(some 4), .mov (.val (.int .i64 (-1))), none⟩])
  .ret)))
def r59 : List SRes := [.tmp 4]
theorem c59 : Code1 Tryz.prog 59 s59 r59 19 :=
  ⟨⟨Tryz.f59, _, Tryz.func59, rfl, rfl, by kernel_rfl, by kernel_rfl⟩, by kernel_rfl, by kernel_rfl⟩
def s60 : SCode :=
  (.seq (.region [⟨(some 2), .box (.tmp 0), none⟩,
    ⟨(some 3), .mov (.val (.bool false)), none⟩])
  (.seq (.region [⟨(some 4), .faddr 0 (.tmp 2), none⟩,
    ⟨(some 5), .load false 1 (.tmp 4), none⟩,
    ⟨(some 6), .load false 1 (.tmp 1), none⟩,
    ⟨(some 7), .bin .eql (.tmp 5) (.tmp 6), none⟩,
    ⟨(some 3), .mov (.tmp 7), none⟩])
  .ret))
def r60 : List SRes := [.tmp 3]
theorem c60 : Code1 Tryz.prog 60 s60 r60 8 :=
  ⟨⟨Tryz.f60, _, Tryz.func60, rfl, rfl, by kernel_rfl, by kernel_rfl⟩, by kernel_rfl, by kernel_rfl⟩
def s61 : SCode :=
  (.seq (.region [⟨(some 4), .mov (.val (.int .i64 0)), none⟩])
  (.seq (.region [⟨(some 8), .mov (.tmp 0), none⟩,
    ⟨(some 9), .mov (.tmp 1), none⟩,
    ⟨(some 10), .iaddr 3 (.tmp 8) (.tmp 9), none⟩,
    ⟨(some 11), .load true 3 (.tmp 10), none⟩,
    ⟨(some 5), .alloc (.agg [.str ⟨#[]⟩, .nils, .nils]), none⟩,
    ⟨none, .store 3 (.tmp 5) (.tmp 11), none⟩])
  (.seq (.block 0 (.seq (.region [⟨(some 13), .faddr 0 (.tmp 5), none⟩,
    ⟨(some 14), .load false 1 (.tmp 13), none⟩,
    ⟨(some 15), .call (.val (.clos 72 [] [])) [.tmp 14], none⟩,
    ⟨(some 16), .un .not (.tmp 15), none⟩,
    ⟨(some 12), .mov (.tmp 16), none⟩])
  (.cond (.tmp 12) (.seq (.region [⟨(some 4), .mov (.val (.int .i64 5)), none⟩])
  .ret) (.seq (.region [⟨(some 18), .mov (.tmp 0), none⟩,
    ⟨(some 19), .mov (.tmp 1), none⟩,
    ⟨(some 20), .slice 3 (.tmp 18) none (some (.tmp 19)), none⟩,
    ⟨(some 21), .mkfn 74 [] [.tmp 5], none⟩,
    ⟨(some 22), .call (.val (.clos 73 [] [])) [.tmp 20, .tmp 21], none⟩,
    ⟨(some 17), .mov (.tmp 22), none⟩])
  (.cond (.tmp 17) (.seq (.region [⟨(some 4), .mov (.val (.int .i64 6)), none⟩])
  .ret) (.seq (.region [⟨(some 24), .faddr 1 (.tmp 5), none⟩,
    ⟨(some 25), .load false 1 (.tmp 24), none⟩,
    ⟨(some 26), .len false (.tmp 25), none⟩,
    ⟨(some 27), .bin .eql (.tmp 26) (.val (.int .i64 0)), none⟩,
    ⟨(some 23), .mov (.tmp 27), none⟩])
  (.cond (.tmp 23) (.seq (.region [⟨(some 4), .mov (.val (.int .i64 8)), none⟩])
  .ret) (.seq (.region [⟨(some 29), .faddr 1 (.tmp 5), none⟩,
    ⟨(some 30), .load false 1 (.tmp 29), none⟩,
    ⟨(some 31), .len false (.tmp 30), none⟩,
    ⟨(some 32), .bin .gtr (.tmp 31) (.val (.int .i64 12)), none⟩,
    ⟨(some 28), .mov (.tmp 32), none⟩])
  (.cond (.tmp 28) (.seq (.region [⟨(some 4), .mov (.val (.int .i64 2)), none⟩])
  .ret) .skip)))))))))
  (.seq (.seq (.region [⟨(some 33), .faddr 1 (.tmp 5), none⟩,
    ⟨(some 34), .load false 1 (.tmp 33), none⟩,
    ⟨(some 35), .len false (.tmp 34), none⟩,
    ⟨(some 36), .mov (.val (.int .i64 0)), none⟩])
  (.block 1 (.loop (.seq (.region [⟨(some 37), .bin .lss (.tmp 36) (.tmp 35), none⟩])
  (.seq (.cond (.tmp 37) .skip (.exit 1))
  (.seq (.block 2 (.seq (.region [⟨(some 38), .mov (.tmp 36), none⟩,
    ⟨(some 39), .iaddr 1 (.tmp 34) (.tmp 36), none⟩,
    ⟨(some 40), .load false 1 (.tmp 39), none⟩,
    ⟨(some 6), .mov (.tmp 38), none⟩,
    ⟨(some 7), .mov (.tmp 40), none⟩])
  (.seq (.seq (.region [⟨(some 41), .mov (.tmp 7), none⟩,
    ⟨(some 42), .call (.val (.clos 72 [] [])) [.tmp 41], none⟩,
    ⟨(some 43), .un .not (.tmp 42), none⟩])
  (.cond (.tmp 43) (.seq (.region [⟨(some 4), .mov (.val (.int .i64 5)), none⟩])
  .ret) .skip))
  (.seq (.region [⟨(some 44), .faddr 1 (.tmp 5), none⟩,
    ⟨(some 45), .load false 1 (.tmp 44), none⟩,
    ⟨(some 46), .mov (.tmp 6), none⟩,
    ⟨(some 47), .slice 1 (.tmp 45) none (some (.tmp 46)), none⟩,
    ⟨(some 48), .mov (.tmp 7), none⟩,
    ⟨(some 49), .call (.val (.clos 29 [] [])) [.tmp 47, .tmp 48], none⟩])
  (.cond (.tmp 49) (.seq (.region [⟨(some 4), .mov (.val (.int .i64 6)), none⟩])
  .ret) .skip)))))
  (.region [⟨(some 50), .bin .add (.tmp 36) (.val (.int .i64 1)), none⟩,
    ⟨(some 36), .mov (.tmp 50), none⟩])))))))
  (.seq (.region [⟨(some 51), .faddr 2 (.tmp 5), none⟩,
    ⟨(some 52), .load false 1 (.tmp 51), none⟩,
    ⟨(some 53), .call (.val (.clos 62 [] [])) [.tmp 52, .val (.int .i64 1)], none⟩,
    ⟨(some 4), .mov (.tmp 53), none⟩])
  .ret)))))
def r61 : List SRes := [.tmp 4]
theorem c61 : Code1 Tryz.prog 61 s61 r61 54 :=
  ⟨⟨Tryz.f61, _, Tryz.func61, rfl, rfl, by kernel_rfl, by kernel_rfl⟩, by kernel_rfl, by kernel_rfl⟩
def s62 : SCode :=
  (.seq (.region [⟨(some 4), .mov (.val (.int .i64 0)), none⟩])
  (.seq (.seq (.region [⟨(some 10), .mov (.tmp 0), none⟩,
    ⟨(some 11), .len false (.tmp 10), none⟩,
    ⟨(some 12), .mov (.val (.int .i64 0)), none⟩])
  (.block 0 (.loop (.seq (.region [⟨(some 13), .bin .lss (.tmp 12) (.tmp 11), none⟩])
  (.seq (.cond (.tmp 13) .skip (.exit 0))
  (.seq (.block 1 (.seq (.region [⟨(some 14), .iaddr 13 (.tmp 10) (.tmp 12), none⟩,
    ⟨(some 15), .load true 13 (.tmp 14), none⟩,
    ⟨(some 6), .alloc (.agg [.int .i64 0, .str ⟨#[]⟩, .str ⟨#[]⟩, .str ⟨#[]⟩, .str ⟨#[]⟩, .int .i64 0, .int .i64 0, .str ⟨#[]⟩, .nils, .nils, .nils, .str ⟨#[]⟩, .nils]), none⟩,
    ⟨none, .store 13 (.tmp 6) (.tmp 15), none⟩])
  (.seq (.seq (.region [⟨(some 16), .load true 13 (.tmp 6), none⟩,
    ⟨(some 17), .mov (.tmp 1), none⟩,
    ⟨(some 18), .call (.val (.clos 75 [] [])) [.tmp 16, .tmp 17], none⟩,
    ⟨(some 7), .mov (.tmp 18), none⟩])
  (.seq (.region [⟨(some 19), .mov (.tmp 7), none⟩,
    ⟨(some 20), .bin .neq (.tmp 19) (.val (.int .i64 0)), none⟩])
  (.cond (.tmp 20) (.seq (.region [⟨(some 21), .mov (.tmp 7), none⟩,
    ⟨(some 4), .mov (.tmp 21), none⟩])
  .ret) .skip)))
  (.seq (.seq (.region [⟨(some 22), .faddr 9 (.tmp 6), none⟩,
    ⟨(some 23), .load false 1 (.tmp 22), none⟩,
    ⟨(some 24), .mov (.tmp 1), none⟩,
    ⟨(some 25), .bin .add (.tmp 24) (.val (.int .i64 1)), none⟩,
    ⟨(some 26), .call (.val (.clos 62 [] [])) [.tmp 23, .tmp 25], none⟩,
    ⟨(some 8), .mov (.tmp 26), none⟩])
  (.seq (.region [⟨(some 27), .mov (.tmp 8), none⟩,
    ⟨(some 28), .bin .neq (.tmp 27) (.val (.int .i64 0)), none⟩])
  (.cond (.tmp 28) (.seq (.region [⟨(some 29), .mov (.tmp 8), none⟩,
    ⟨(some 4), .mov (.tmp 29), none⟩])
  .ret) .skip)))
  (.seq (.region [⟨(some 30), .faddr 10 (.tmp 6), none⟩,
    ⟨(some 31), .load false 1 (.tmp 30), none⟩,
    ⟨(some 32), .mov (.tmp 1), none⟩,
    ⟨(some 33), .bin .add (.tmp 32) (.val (.int .i64 1)), none⟩,
    ⟨(some 34), .call (.val (.clos 62 [] [])) [.tmp 31, .tmp 33], none⟩,
    ⟨(some 9), .mov (.tmp 34), none⟩])
  (.seq (.region [⟨(some 35), .mov (.tmp 9), none⟩,
    ⟨(some 36), .bin .neq (.tmp 35) (.val (.int .i64 0)), none⟩])
  (.cond (.tmp 36) (.seq (.region [⟨(some 37), .mov (.tmp 9), none⟩,
    ⟨(some 4), .mov (.tmp 37), none⟩])
  .ret) .skip)))))))
  (.region [⟨(some 38), .bin .add (.tmp 12) (.val (.int .i64 1)), none⟩,
    ⟨(some 12), .mov (.tmp 38), none⟩])))))))
  (.seq (.region [⟨(some 4), .mov (.val (.int .i64 0)), none⟩])
  .ret)))
def r62 : List SRes := [.tmp 4]
theorem c62 : Code1 Tryz.prog 62 s62 r62 39 :=
  ⟨⟨Tryz.f62, _, Tryz.func62, rfl, rfl, by kernel_rfl, by kernel_rfl⟩, by kernel_rfl, by kernel_rfl⟩
def s63 : SCode :=
  (.seq (.region [⟨(some 1), .box (.tmp 0), none⟩,
    ⟨(some 2), .mov (.val (.nils)), none⟩])
  (.seq (.seq (.region [⟨(some 3), .faddr 0 (.tmp 1), none⟩,
    ⟨(some 4), .load false 1 (.tmp 3), none⟩])
  (.block 0 (.seq (.region [⟨(some 6), .bin .eql (.tmp 4) (.val (.int .i64 5)), none⟩,
    ⟨(some 5), .mov (.tmp 6), none⟩])
  (.cond (.tmp 5) (.seq (.region [⟨(some 7), .faddr 12 (.tmp 1), none⟩,
    ⟨(some 8), .load false 1 (.tmp 7), none⟩,
    ⟨(some 2), .mov (.tmp 8), none⟩])
  .ret) (.seq (.seq (.region [⟨(some 10), .bin .eql (.tmp 4) (.val (.int .i64 1)), none⟩,
    ⟨(some 9), .mov (.tmp 10), none⟩])
  (.cond (.tmp 9) .skip (.region [⟨(some 11), .bin .eql (.tmp 4) (.val (.int .i64 2)), none⟩,
    ⟨(some 9), .mov (.tmp 11), none⟩])))
  (.cond (.tmp 9) (.seq (.region [⟨(some 12), .faddr 1 (.tmp 1), none⟩,
    ⟨(some 13), .load false 1 (.tmp 12), none⟩,
    ⟨(some 14), .faddr 2 (.tmp 1), none⟩,
    ⟨(some 15), .load false 1 (.tmp 14), none⟩,
    ⟨(some 16), .buildF 1 [.tmp 13, .tmp 15], none⟩,
    ⟨(some 2), .mov (.tmp 16), none⟩])
  .ret) .skip))))))
  (.seq (.region [⟨(some 17), .faddr 1 (.tmp 1), none⟩,
    ⟨(some 18), .load false 1 (.tmp 17), none⟩,
    ⟨(some 19), .buildF 1 [.tmp 18], none⟩,
    ⟨(some 2), .mov (.tmp 19), none⟩])
  .ret)))
def r63 : List SRes := [.tmp 2]
theorem c63 : Code1 Tryz.prog 63 s63 r63 20 :=
  ⟨⟨Tryz.f63, _, Tryz.func63, rfl, rfl, by kernel_rfl, by kernel_rfl⟩, by kernel_rfl, by kernel_rfl⟩
def s64 : SCode :=
  (.seq (.region [⟨(some 4), .mov (.val (.bool false)), none⟩])
  (.seq (.region [⟨(some 5), .faddr 0 (.tmp 1), none⟩,
    ⟨(some 6), .load false 1 (.tmp 5), none⟩,
    ⟨(some 7), .load false 1 (.tmp 2), none⟩,
    ⟨(some 8), .iaddr 3 (.tmp 6) (.tmp 7), none⟩,
    ⟨(some 9), .faddr 1 (.tmp 8), none⟩,
    ⟨(some 10), .load false 1 (.tmp 9), none⟩,
    ⟨(some 11), .mov (.tmp 0), none⟩,
    ⟨(some 12), .call (.val (.clos 29 [] [])) [.tmp 10, .tmp 11], none⟩,
    ⟨(some 13), .un .not (.tmp 12), none⟩,
    ⟨(some 4), .mov (.tmp 13), none⟩])
  .ret))
def r64 : List SRes := [.tmp 4]
theorem c64 : Code1 Tryz.prog 64 s64 r64 14 :=
  ⟨⟨Tryz.f64, _, Tryz.func64, rfl, rfl, by kernel_rfl, by kernel_rfl⟩, by kernel_rfl, by kernel_rfl⟩
def s65 : SCode :=
  (.seq (.region [⟨(some 2), .box (.tmp 0), none⟩,
    ⟨(some 3), .box (.tmp 1), none⟩,
    ⟨(some 4), .mov (.val (.int .i64 0)), none⟩])
  (.seq (.region [⟨(some 5), .faddr 0 (.tmp 2), none⟩,
    ⟨(some 6), .load false 1 (.tmp 5), none⟩,
    ⟨(some 7), .mkfn 76 [] [.tmp 3], none⟩,
    ⟨(some 8), .call (.val (.clos 59 [] [])) [.tmp 6, .tmp 7], none⟩,
    ⟨(some 4), .mov (.tmp 8), none⟩])
  .ret))
def r65 : List SRes := [.tmp 4]
theorem c65 : Code1 Tryz.prog 65 s65 r65 9 :=
  ⟨⟨Tryz.f65, _, Tryz.func65, rfl, rfl, by kernel_rfl, by kernel_rfl⟩, by kernel_rfl, by kernel_rfl⟩
def s66 : SCode :=
  (.seq (.region [⟨(some 6), .mov (.val (.bool false)), none⟩])
  (.seq (.seq (.region [⟨(some 10), .mov (.tmp 0), none⟩,
    ⟨(some 11), .len false (.tmp 10), none⟩,
    ⟨(some 12), .mov (.tmp 1), none⟩,
    ⟨(some 13), .len false (.tmp 12), none⟩,
    ⟨(some 14), .bin .neq (.tmp 11) (.tmp 13), none⟩])
  (.cond (.tmp 14) (.seq (.region [⟨(some 6), .mov (.val (.bool false)), none⟩])
  .ret) .skip))
  (.seq (.seq (.region [⟨(some 15), .mov (.tmp 0), none⟩,
    ⟨(some 16), .len false (.tmp 15), none⟩,
    ⟨(some 17), .mov (.val (.int .i64 0)), none⟩])
  (.block 0 (.loop (.seq (.region [⟨(some 18), .bin .lss (.tmp 17) (.tmp 16), none⟩])
  (.seq (.cond (.tmp 18) .skip (.exit 0))
  (.seq (.block 1 (.seq (.region [⟨(some 19), .mov (.tmp 17), none⟩,
    ⟨(some 20), .iaddr 4 (.tmp 15) (.tmp 17), none⟩,
    ⟨(some 21), .load true 4 (.tmp 20), none⟩,
    ⟨(some 8), .alloc (.agg [.int .i64 0, .int .i64 0, .str ⟨#[]⟩, .nils]), none⟩,
    ⟨(some 7), .mov (.tmp 19), none⟩,
    ⟨none, .store 4 (.tmp 8) (.tmp 21), none⟩])
  (.seq (.region [⟨(some 22), .mov (.tmp 1), none⟩,
    ⟨(some 23), .mov (.tmp 7), none⟩,
    ⟨(some 24), .iaddr 4 (.tmp 22) (.tmp 23), none⟩,
    ⟨(some 25), .load true 4 (.tmp 24), none⟩,
    ⟨(some 9), .alloc (.agg [.int .i64 0, .int .i64 0, .str ⟨#[]⟩, .nils]), none⟩,
    ⟨none, .store 4 (.tmp 9) (.tmp 25), none⟩])
  (.seq (.region [⟨(some 26), .mov (.tmp 2), none⟩,
    ⟨(some 27), .load true 4 (.tmp 8), none⟩,
    ⟨(some 28), .load true 4 (.tmp 9), none⟩,
    ⟨(some 29), .call (.tmp 26) [.tmp 27, .tmp 28], none⟩,
    ⟨(some 30), .un .not (.tmp 29), none⟩])
  (.cond (.tmp 30) (.seq (.region [⟨(some 6), .mov (.val (.bool false)), none⟩])
  .ret) .skip)))))
  (.region [⟨(some 31), .bin .add (.tmp 17) (.val (.int .i64 1)), none⟩,
    ⟨(some 17), .mov (.tmp 31), none⟩])))))))
  (.seq (.region [⟨(some 6), .mov (.val (.bool true)), none⟩])
  .ret))))
def r66 : List SRes := [.tmp 6]
theorem c66 : Code1 Tryz.prog 66 s66 r66 32 :=
  ⟨⟨Tryz.f66, _, Tryz.func66, rfl, rfl, by kernel_rfl, by kernel_rfl⟩, by kernel_rfl, by kernel_rfl⟩
def s67 : SCode :=
  (.seq (.region [⟨(some 6), .mov (.val (.bool false)), none⟩])
  (.seq (.seq (.region [⟨(some 10), .mov (.tmp 0), none⟩,
    ⟨(some 11), .len false (.tmp 10), none⟩,
    ⟨(some 12), .mov (.tmp 1), none⟩,
    ⟨(some 13), .len false (.tmp 12), none⟩,
    ⟨(some 14), .bin .neq (.tmp 11) (.tmp 13), none⟩])
  (.cond (.tmp 14) (.seq (.region [⟨(some 6), .mov (.val (.bool false)), none⟩])
  .ret) .skip))
  (.seq (.seq (.region [⟨(some 15), .mov (.tmp 0), none⟩,
    ⟨(some 16), .len false (.tmp 15), none⟩,
    ⟨(some 17), .mov (.val (.int .i64 0)), none⟩])
  (.block 0 (.loop (.seq (.region [⟨(some 18), .bin .lss (.tmp 17) (.tmp 16), none⟩])
  (.seq (.cond (.tmp 18) .skip (.exit 0))
  (.seq (.block 1 (.seq (.region [⟨(some 19), .mov (.tmp 17), none⟩,
    ⟨(some 20), .iaddr 13 (.tmp 15) (.tmp 17), none⟩,
    ⟨(some 21), .load true 13 (.tmp 20), none⟩,
    ⟨(some 8), .alloc (.agg [.int .i64 0, .str ⟨#[]⟩, .str ⟨#[]⟩, .str ⟨#[]⟩, .str ⟨#[]⟩, .int .i64 0, .int .i64 0, .str ⟨#[]⟩, .nils, .nils, .nils, .str ⟨#[]⟩, .nils]), none⟩,
    ⟨(some 7), .mov (.tmp 19), none⟩,
    ⟨none, .store 13 (.tmp 8) (.tmp 21), none⟩])
  (.seq (.region [⟨(some 22), .mov (.tmp 1), none⟩,
    ⟨(some 23), .mov (.tmp 7), none⟩,
    ⟨(some 24), .iaddr 13 (.tmp 22) (.tmp 23), none⟩,
    ⟨(some 25), .load true 13 (.tmp 24), none⟩,
    ⟨(some 9), .alloc (.agg [.int .i64 0, .str ⟨#[]⟩, .str ⟨#[]⟩, .str ⟨#[]⟩, .str ⟨#[]⟩, .int .i64 0, .int .i64 0, .str ⟨#[]⟩, .nils, .nils, .nils, .str ⟨#[]⟩, .nils]), none⟩,
    ⟨none, .store 13 (.tmp 9) (.tmp 25), none⟩])
  (.seq (.region [⟨(some 26), .mov (.tmp 2), none⟩,
    ⟨(some 27), .load true 13 (.tmp 8), none⟩,
    ⟨(some 28), .load true 13 (.tmp 9), none⟩,
    ⟨(some 29), .call (.tmp 26) [.tmp 27, .tmp 28], none⟩,
    ⟨(some 30), .un .not (.tmp 29), none⟩])
  (.cond (.tmp 30) (.seq (.region [⟨(some 6), .mov (.val (.bool false)), none⟩])
  .ret) .skip)))))
  (.region [⟨(some 31), .bin .add (.tmp 17) (.val (.int .i64 1)), none⟩,
    ⟨(some 17), .mov (.tmp 31), none⟩])))))))
  (.seq (.region [⟨(some 6), .mov (.val (.bool true)), none⟩])
  .ret))))
def r67 : List SRes := [.tmp 6]
theorem c67 : Code1 Tryz.prog 67 s67 r67 32 :=
  ⟨⟨Tryz.f67, _, Tryz.func67, rfl, rfl, by kernel_rfl, by kernel_rfl⟩, by kernel_rfl, by kernel_rfl⟩
def s68 : SCode :=
  (.seq (.region [⟨(some 1), .box (.tmp 0), none⟩,
    ⟨(some 2), .alloc (.agg [.int .i64 0, .int .i64 0, .str ⟨#[]⟩, .nils]), none⟩])
  (.seq (.region [⟨(some 3), .mov (.val (.nils)), none⟩])
  (.seq (.seq (.region [⟨(some 6), .faddr 3 (.tmp 1), none⟩,
    ⟨(some 7), .load false 1 (.tmp 6), none⟩,
    ⟨(some 8), .len false (.tmp 7), none⟩,
    ⟨(some 9), .mov (.val (.int .i64 0)), none⟩])
  (.block 0 (.loop (.seq (.region [⟨(some 10), .bin .lss (.tmp 9) (.tmp 8), none⟩])
  (.seq (.cond (.tmp 10) .skip (.exit 0))
  (.seq (.block 1 (.seq (.region [⟨(some 11), .iaddr 4 (.tmp 7) (.tmp 9), none⟩,
    ⟨(some 12), .load true 4 (.tmp 11), none⟩,
    ⟨(some 5), .alloc (.agg [.int .i64 0, .int .i64 0, .str ⟨#[]⟩, .nils]), none⟩,
    ⟨none, .store 4 (.tmp 5) (.tmp 12), none⟩])
  (.region [⟨(some 13), .mov (.tmp 3), none⟩,
    ⟨(some 14), .load true 4 (.tmp 5), none⟩,
    ⟨(some 15), .call (.val (.clos 68 [] [])) [.tmp 14], none⟩,
    ⟨(some 16), .buildF 4 [.tmp 15], none⟩,
    ⟨(some 17), .append 4 56 (.tmp 13) (.tmp 16), none⟩,
    ⟨(some 3), .mov (.tmp 17), none⟩])))
  (.region [⟨(some 18), .bin .add (.tmp 9) (.val (.int .i64 1)), none⟩,
    ⟨(some 9), .mov (.tmp 18), none⟩])))))))
  (.seq (.region [⟨(some 19), .mov (.tmp 3), none⟩,
    ⟨(some 20), .faddr 3 (.tmp 1), none⟩,
    ⟨none, .store 1 (.tmp 20) (.tmp 19), none⟩])
  (.seq (.region [⟨(some 21), .load true 4 (.tmp 1), none⟩,
    ⟨none, .store 4 (.tmp 2) (.tmp 21), none⟩])
  .ret)))))
def r68 : List SRes := [.cell true 4 2]
theorem c68 : Code1 Tryz.prog 68 s68 r68 22 :=
  ⟨⟨Tryz.f68, _, Tryz.func68, rfl, rfl, by kernel_rfl, by kernel_rfl⟩, by kernel_rfl, by kernel_rfl⟩
def s69 : SCode :=
  (.seq (.region [⟨(some 4), .mov (.val (.int .i64 0)), none⟩])
  (.seq (.region [⟨(some 5), .mov (.tmp 0), none⟩,
    ⟨(some 6), .mov (.tmp 1), none⟩,
    ⟨(some 7), .call (.val (.clos 77 [] [])) [.tmp 5, .tmp 6], none⟩,
    ⟨(some 4), .mov (.tmp 7), none⟩])
  .ret))
def r69 : List SRes := [.tmp 4]
theorem c69 : Code1 Tryz.prog 69 s69 r69 8 :=
  ⟨⟨Tryz.f69, _, Tryz.func69, rfl, rfl, by kernel_rfl, by kernel_rfl⟩, by kernel_rfl, by kernel_rfl⟩
def s70 : SCode :=
  (.seq (.region [⟨(some 2), .box (.tmp 0), none⟩,
    ⟨(some 4), .mov (.val (.int .i64 0)), none⟩])
  (.seq (.seq (.region [⟨(some 12), .mov (.tmp 1), none⟩,
    ⟨(some 13), .bin .gtr (.tmp 12) (.val (.int .i64 20)), none⟩])
  (.cond (.tmp 13) (.seq (.region [⟨(some 4), .mov (.val (.int .i64 2)), none⟩])
  .ret) .skip))
  (.seq (.seq (.region [⟨(some 14), .faddr 0 (.tmp 2), none⟩,
    ⟨(some 15), .load false 1 (.tmp 14), none⟩,
    ⟨(some 16), .call (.val (.clos 31 [] [])) [.tmp 15, .val (.int .i64 1), .val (.int .i64 5)], none⟩,
    ⟨(some 17), .un .not (.tmp 16), none⟩])
  (.cond (.tmp 17) (.seq (.region [⟨(some 4), .mov (.val (.int .i64 4)), none⟩])
  .ret) .skip))
  (.seq (.region [⟨(some 18), .faddr 0 (.tmp 2), none⟩,
    ⟨(some 19), .load false 1 (.tmp 18), none⟩,
    ⟨(some 5), .alloc (.int .i64 0), none⟩,
    ⟨none, .store 1 (.tmp 5) (.tmp 19), none⟩])
  (.seq (.region [⟨(some 20), .mkfn 78 [] [.tmp 5], none⟩,
    ⟨(some 6), .mov (.tmp 20), none⟩])
  (.seq (.region [⟨(some 7), .alloc (.bool false), none⟩,
    ⟨none, .store 1 (.tmp 7) (.val (.bool true)), none⟩])
  (.seq (.region [⟨(some 8), .alloc (.nils), none⟩])
  (.seq (.region [⟨(some 21), .mkfn 80 [] [.tmp 8, .tmp 7], none⟩,
    ⟨(some 9), .mov (.tmp 21), none⟩])
  (.seq (.qregion [⟨⟨(some 22), .mov (.tmp 9), none⟩, false, 0, 1, 0⟩,
    ⟨⟨(some 23), .mov (.tmp 6), none⟩, false, 0, 0, 0⟩,
    ⟨⟨(some 24), .buildF 1 [.val (.int .i64 1), .val (.int .i64 2), .val (.int .i64 3), .val (.int .i64 4)], none⟩, false, 0, 0, 0⟩,
    ⟨⟨(some 25), .call (.tmp 23) [.tmp 24], none⟩, true, 0, 0, 6⟩,
    ⟨⟨(some 26), .faddr 1 (.tmp 2), none⟩, false, 0, 1, 0⟩,
    ⟨⟨(some 27), .load false 1 (.tmp 26), none⟩, false, 0, 1, 16⟩,
    ⟨⟨(some 28), .call (.tmp 22) [.tmp 25, .tmp 27], none⟩, true, 0, 0, 63⟩])
  (.seq (.qregion [⟨⟨(some 29), .mov (.tmp 9), none⟩, false, 0, 1, 0⟩,
    ⟨⟨(some 30), .mov (.tmp 6), none⟩, false, 0, 0, 0⟩,
    ⟨⟨(some 31), .buildF 1 [.val (.int .i64 1), .val (.int .i64 2)], none⟩, false, 0, 0, 0⟩,
    ⟨⟨(some 32), .call (.tmp 30) [.tmp 31], none⟩, true, 0, 0, 6⟩,
    ⟨⟨(some 33), .faddr 2 (.tmp 2), none⟩, false, 0, 1, 0⟩,
    ⟨⟨(some 34), .load false 1 (.tmp 33), none⟩, false, 0, 1, 16⟩,
    ⟨⟨(some 35), .call (.tmp 29) [.tmp 32, .tmp 34], none⟩, true, 0, 0, 63⟩])
  (.seq (.qregion [⟨⟨(some 36), .mov (.tmp 9), none⟩, false, 0, 1, 0⟩,
    ⟨⟨(some 37), .mov (.tmp 6), none⟩, false, 0, 0, 0⟩,
    ⟨⟨(some 38), .buildF 1 [.val (.int .i64 1), .val (.int .i64 3)], none⟩, false, 0, 0, 0⟩,
    ⟨⟨(some 39), .call (.tmp 37) [.tmp 38], none⟩, true, 0, 0, 6⟩,
    ⟨⟨(some 40), .faddr 3 (.tmp 2), none⟩, false, 0, 1, 0⟩,
    ⟨⟨(some 41), .load false 1 (.tmp 40), none⟩, false, 0, 1, 16⟩,
    ⟨⟨(some 42), .call (.tmp 36) [.tmp 39, .tmp 41], none⟩, true, 0, 0, 63⟩])
  (.seq (.qregion [⟨⟨(some 43), .mov (.tmp 9), none⟩, false, 0, 1, 0⟩,
    ⟨⟨(some 44), .mov (.tmp 6), none⟩, false, 0, 0, 0⟩,
    ⟨⟨(some 45), .buildF 1 [.val (.int .i64 2)], none⟩, false, 0, 0, 0⟩,
    ⟨⟨(some 46), .call (.tmp 44) [.tmp 45], none⟩, true, 0, 0, 6⟩,
    ⟨⟨(some 47), .faddr 4 (.tmp 2), none⟩, false, 0, 1, 0⟩,
    ⟨⟨(some 48), .load false 1 (.tmp 47), none⟩, false, 0, 1, 16⟩,
    ⟨⟨(some 49), .call (.tmp 43) [.tmp 46, .tmp 48], none⟩, true, 0, 0, 63⟩])
  (.seq (.qregion [⟨⟨(some 50), .mov (.tmp 9), none⟩, false, 0, 1, 0⟩,
    ⟨⟨(some 51), .mov (.tmp 6), none⟩, false, 0, 0, 0⟩,
    ⟨⟨(some 52), .buildF 1 [.val (.int .i64 5)], none⟩, false, 0, 0, 0⟩,
    ⟨⟨(some 53), .call (.tmp 51) [.tmp 52], none⟩, true, 0, 0, 6⟩,
    ⟨⟨(some 54), .faddr 11 (.tmp 2), none⟩, false, 0, 1, 0⟩,
    ⟨⟨(some 55), .load false 1 (.tmp 54), none⟩, false, 0, 1, 16⟩,
    ⟨⟨(some 56), .call (.tmp 50) [.tmp 53, .tmp 55], none⟩, true, 0, 0, 63⟩])
  (.seq (.region [⟨(some 57), .mov (.tmp 6), none⟩,
    ⟨(some 58), .buildF 1 [.val (.int .i64 1), .val (.int .i64 3), .val (.int .i64 4)], none⟩,
    ⟨(some 59), .call (.tmp 57) [.tmp 58], none⟩,
    ⟨(some 10), .mov (.tmp 59), none⟩])
  (.seq (.region [⟨(some 60), .load false 1 (.tmp 7), none⟩,
    ⟨(some 61), .mov (.tmp 60), none⟩,
    ⟨(some 62), .mov (.tmp 10), (some (61, true))⟩,
    ⟨(some 63), .mov (.tmp 62), (some (61, true))⟩,
    ⟨(some 64), .faddr 5 (.tmp 2), (some (63, false))⟩,
    ⟨(some 65), .load true 4 (.tmp 64), (some (63, false))⟩,
    ⟨(some 66), .call (.val (.clos 81 [] [])) [.tmp 65], (some (63, false))⟩,
    ⟨(some 67), .pick (.tmp 63) (.val (.bool true)) (.tmp 66), (some (61, true))⟩,
    ⟨(some 68), .pick (.tmp 61) (.tmp 67) (.val (.bool false)), none⟩,
    ⟨(some 69), .mov (.tmp 68), none⟩,
    ⟨(some 70), .load false 1 (.tmp 5), (some (69, true))⟩,
    ⟨(some 71), .bin .eql (.tmp 70) (.val (.int .i64 4)), (some (69, true))⟩,
    ⟨(some 72), .mov (.tmp 71), (some (69, true))⟩,
    ⟨(some 73), .faddr 9 (.tmp 2), (some (72, false))⟩,
    ⟨(some 74), .load false 1 (.tmp 73), (some (72, false))⟩,
    ⟨(some 75), .len false (.tmp 74), (some (72, false))⟩,
    ⟨(some 76), .bin .eql (.tmp 75) (.val (.int .i64 0)), (some (72, false))⟩,
    ⟨(some 77), .mov (.tmp 76), (some (72, false))⟩,
    ⟨(some 78), .faddr 10 (.tmp 2), (some (77, true))⟩,
    ⟨(some 79), .load false 1 (.tmp 78), (some (77, true))⟩,
    ⟨(some 80), .len false (.tmp 79), (some (77, true))⟩,
    ⟨(some 81), .bin .eql (.tmp 80) (.val (.int .i64 0)), (some (77, true))⟩,
    ⟨(some 82), .pick (.tmp 77) (.tmp 81) (.val (.bool false)), (some (72, false))⟩,
    ⟨(some 83), .pick (.tmp 72) (.val (.bool true)) (.tmp 82), (some (69, true))⟩,
    ⟨(some 84), .pick (.tmp 69) (.tmp 83) (.val (.bool false)), none⟩,
    ⟨(some 85), .mov (.tmp 84), none⟩,
    ⟨(some 86), .load false 1 (.tmp 5), (some (85, true))⟩,
    ⟨(some 87), .bin .eql (.tmp 86) (.val (.int .i64 5)), (some (85, true))⟩,
    ⟨(some 88), .mov (.tmp 87), (some (85, true))⟩,
    ⟨(some 89), .faddr 12 (.tmp 2), (some (88, false))⟩,
    ⟨(some 90), .load false 1 (.tmp 89), (some (88, false))⟩,
    ⟨(some 91), .len false (.tmp 90), (some (88, false))⟩,
    ⟨(some 92), .bin .eql (.tmp 91) (.val (.int .i64 0)), (some (88, false))⟩,
    ⟨(some 93), .pick (.tmp 88) (.val (.bool true)) (.tmp 92), (some (85, true))⟩,
    ⟨(some 94), .pick (.tmp 85) (.tmp 93) (.val (.bool false)), none⟩,
    ⟨none, .store 1 (.tmp 7) (.tmp 94), none⟩])
  (.seq (.seq (.region [⟨(some 95), .load false 1 (.tmp 7), none⟩,
    ⟨(some 96), .un .not (.tmp 95), none⟩])
  (.cond (.tmp 96) (.seq (.region [⟨(some 4), .mov (.val (.int .i64 3)), none⟩])
  .ret) .skip))
  (.seq (.seq (.region [⟨(some 97), .load false 1 (.tmp 8), none⟩,
    ⟨(some 98), .call (.val (.clos 82 [] [])) [.tmp 97], none⟩,
    ⟨(some 11), .mov (.tmp 98), none⟩])
  (.seq (.region [⟨(some 99), .mov (.tmp 11), none⟩,
    ⟨(some 100), .bin .neq (.tmp 99) (.val (.int .i64 0)), none⟩])
  (.cond (.tmp 100) (.seq (.region [⟨(some 101), .mov (.tmp 11), none⟩,
    ⟨(some 4), .mov (.tmp 101), none⟩])
  .ret) .skip)))
  (.seq (.seq (.region [⟨(some 102), .mov (.tmp 10), none⟩])
  (.cond (.tmp 102) (.seq (.region [⟨(some 103), .faddr 5 (.tmp 2), none⟩,
    ⟨(some 104), .load true 4 (.tmp 103), none⟩,
    ⟨(some 105), .call (.val (.clos 83 [] [])) [.tmp 104], none⟩,
    ⟨(some 4), .mov (.tmp 105), none⟩])
  .ret) .skip))
  (.seq (.seq (.region [⟨(some 106), .load false 1 (.tmp 5), none⟩,
    ⟨(some 107), .bin .eql (.tmp 106) (.val (.int .i64 5)), none⟩])
  (.cond (.tmp 107) (.seq (.block 0 (.seq (.region [⟨(some 109), .faddr 12 (.tmp 2), none⟩,
    ⟨(some 110), .load false 1 (.tmp 109), none⟩,
    ⟨(some 111), .len false (.tmp 110), none⟩,
    ⟨(some 112), .bin .eql (.tmp 111) (.val (.int .i64 0)), none⟩,
    ⟨(some 108), .mov (.tmp 112), none⟩])
  (.cond (.tmp 108) (.seq (.region [⟨(some 4), .mov (.val (.int .i64 8)), none⟩])
  .ret) (.seq (.region [⟨(some 114), .faddr 12 (.tmp 2), none⟩,
    ⟨(some 115), .load false 1 (.tmp 114), none⟩,
    ⟨(some 116), .len false (.tmp 115), none⟩,
    ⟨(some 117), .bin .gtr (.tmp 116) (.val (.int .i64 12)), none⟩,
    ⟨(some 113), .mov (.tmp 117), none⟩])
  (.cond (.tmp 113) (.seq (.region [⟨(some 4), .mov (.val (.int .i64 2)), none⟩])
  .ret) .skip)))))
  (.seq (.region [⟨(some 118), .faddr 12 (.tmp 2), none⟩,
    ⟨(some 119), .load false 1 (.tmp 118), none⟩,
    ⟨(some 120), .call (.val (.clos 82 [] [])) [.tmp 119], none⟩,
    ⟨(some 4), .mov (.tmp 120), none⟩])
  .ret)) .skip))
  (.seq (.region [⟨(some 4), .mov (.val (.int .i64 0)), none⟩])
  .ret))))))))))))))))))))
def r70 : List SRes := [.tmp 4]
theorem c70 : Code1 Tryz.prog 70 s70 r70 121 :=
  ⟨⟨Tryz.f70, _, Tryz.func70, rfl, rfl, by kernel_rfl, by kernel_rfl⟩, by kernel_rfl, by kernel_rfl⟩
def s71 : SCode :=
  (.seq (.region [⟨(some 2), .mov (.val (.int .i64 0)), none⟩])
  (.seq (.seq (.region [⟨(some 5), .mov (.tmp 0), none⟩,
    ⟨(some 6), .len false (.tmp 5), none⟩,
    ⟨(some 7), .mov (.val (.int .i64 0)), none⟩])
  (.block 0 (.loop (.seq (.region [⟨(some 8), .bin .lss (.tmp 7) (.tmp 6), none⟩])
  (.seq (.cond (.tmp 8) .skip (.exit 0))
  (.seq (.block 1 (.seq (.region [⟨(some 9), .iaddr 1 (.tmp 5) (.tmp 7), none⟩,
    ⟨(some 10), .load false 1 (.tmp 9), none⟩,
    ⟨(some 4), .mov (.tmp 10), none⟩])
  (.seq (.region [⟨(some 11), .mov (.tmp 4), none⟩,
    ⟨(some 12), .bin .neq (.tmp 11) (.val (.int .i64 0)), none⟩])
  (.cond (.tmp 12) (.seq (.region [⟨(some 13), .mov (.tmp 4), none⟩,
    ⟨(some 2), .mov (.tmp 13), none⟩])
  .ret) .skip))))
  (.region [⟨(some 14), .bin .add (.tmp 7) (.val (.int .i64 1)), none⟩,
    ⟨(some 7), .mov (.tmp 14), none⟩])))))))
  (.seq (.region [⟨(some 2), .mov (.val (.int .i64 0)), none⟩])
  .ret)))
def r71 : List SRes := [.tmp 2]
theorem c71 : Code1 Tryz.prog 71 s71 r71 15 :=
  ⟨⟨Tryz.f71, _, Tryz.func71, rfl, rfl, by kernel_rfl, by kernel_rfl⟩, by kernel_rfl, by kernel_rfl⟩
def s72 : SCode :=
  (.seq (.region [⟨(some 2), .mov (.val (.bool false)), none⟩])
  (.seq (.region [⟨(some 3), .mov (.tmp 0), none⟩,
    ⟨(some 4), .bin .neq (.tmp 3) (.val (.str ⟨#[]⟩)), none⟩,
    ⟨(some 5), .mov (.tmp 4), none⟩,
    ⟨(some 6), .mov (.tmp 0), (some (5, true))⟩,
    ⟨(some 7), .len true (.tmp 6), (some (5, true))⟩,
    ⟨(some 8), .bin .leq (.tmp 7) (.val (.int .i64 40)), (some (5, true))⟩,
    ⟨(some 9), .pick (.tmp 5) (.tmp 8) (.val (.bool false)), none⟩,
    ⟨(some 10), .mov (.tmp 9), none⟩,
    ⟨(some 11), .mov (.tmp 0), (some (10, true))⟩,
    ⟨(some 12), .call (.val (.clos 84 [] [])) [.tmp 11], (some (10, true))⟩,
    ⟨(some 13), .un .not (.tmp 12), (some (10, true))⟩,
    ⟨(some 14), .pick (.tmp 10) (.tmp 13) (.val (.bool false)), none⟩,
    ⟨(some 15), .mov (.tmp 14), none⟩,
    ⟨(some 16), .mov (.tmp 0), (some (15, true))⟩,
    ⟨(some 17), .sidx (.tmp 16) (.val (.int .i64 0)), (some (15, true))⟩,
    ⟨(some 18), .call (.val (.clos 69 [] [])) [.val (.str ⟨#[97, 98, 99, 100, 101, 102, 103, 104, 105, 106, 107, 108, 109, 110, 111, 112, 113, 114, 115, 116, 117, 118, 119, 120, 121, 122]⟩), .tmp 17], (some (15, true))⟩,
    ⟨(some 19), .bin .geq (.tmp 18) (.val (.int .i64 0)), (some (15, true))⟩,
    ⟨(some 20), .pick (.tmp 15) (.tmp 19) (.val (.bool false)), none⟩,
    ⟨(some 21), .mov (.tmp 20), none⟩,
    ⟨(some 22), .mov (.tmp 0), (some (21, true))⟩,
    ⟨(some 23), .call (.val (.clos 85 [] [])) [.tmp 22, .val (.str ⟨#[97, 98, 99, 100, 101, 102, 103, 104, 105, 106, 107, 108, 109, 110, 111, 112, 113, 114, 115, 116, 117, 118, 119, 120, 121, 122, 48, 49, 50, 51, 52, 53, 54, 55, 56, 57, 95]⟩)], (some (21, true))⟩,
    ⟨(some 24), .bin .eql (.tmp 23) (.val (.str ⟨#[]⟩)), (some (21, true))⟩,
    ⟨(some 25), .pick (.tmp 21) (.tmp 24) (.val (.bool false)), none⟩,
    ⟨(some 2), .mov (.tmp 25), none⟩])
  .ret))
def r72 : List SRes := [.tmp 2]
theorem c72 : Code1 Tryz.prog 72 s72 r72 26 :=
  ⟨⟨Tryz.f72, _, Tryz.func72, rfl, rfl, by kernel_rfl, by kernel_rfl⟩, by kernel_rfl, by kernel_rfl⟩
def s73 : SCode :=
  (.seq (.region [⟨(some 4), .mov (.val (.bool false)), none⟩])
  (.seq (.region [⟨(some 5), .mov (.tmp 0), none⟩,
    ⟨(some 6), .mov (.tmp 1), none⟩,
    ⟨(some 7), .call (.val (.clos 59 [] [])) [.tmp 5, .tmp 6], none⟩,
    ⟨(some 8), .bin .geq (.tmp 7) (.val (.int .i64 0)), none⟩,
    ⟨(some 4), .mov (.tmp 8), none⟩])
  .ret))
def r73 : List SRes := [.tmp 4]
theorem c73 : Code1 Tryz.prog 73 s73 r73 9 :=
  ⟨⟨Tryz.f73, _, Tryz.func73, rfl, rfl, by kernel_rfl, by kernel_rfl⟩, by kernel_rfl, by kernel_rfl⟩
def s74 : SCode :=
  (.seq (.region [⟨(some 2), .box (.tmp 0), none⟩,
    ⟨(some 3), .mov (.val (.bool false)), none⟩])
  (.seq (.region [⟨(some 4), .faddr 0 (.tmp 2), none⟩,
    ⟨(some 5), .load false 1 (.tmp 4), none⟩,
    ⟨(some 6), .faddr 0 (.tmp 1), none⟩,
    ⟨(some 7), .load false 1 (.tmp 6), none⟩,
    ⟨(some 8), .bin .eql (.tmp 5) (.tmp 7), none⟩,
    ⟨(some 3), .mov (.tmp 8), none⟩])
  .ret))
def r74 : List SRes := [.tmp 3]
theorem c74 : Code1 Tryz.prog 74 s74 r74 9 :=
  ⟨⟨Tryz.f74, _, Tryz.func74, rfl, rfl, by kernel_rfl, by kernel_rfl⟩, by kernel_rfl, by kernel_rfl⟩
def s75 : SCode :=
  (.seq (.region [⟨(some 2), .box (.tmp 0), none⟩,
    ⟨(some 4), .mov (.val (.int .i64 0)), none⟩])
  (.seq (.seq (.region [⟨(some 8), .mov (.tmp 1), none⟩,
    ⟨(some 9), .bin .gtr (.tmp 8) (.val (.int .i64 20)), none⟩])
  (.cond (.tmp 9) (.seq (.region [⟨(some 4), .mov (.val (.int .i64 2)), none⟩])
  .ret) .skip))
  (.seq (.seq (.region [⟨(some 10), .faddr 0 (.tmp 2), none⟩,
    ⟨(some 11), .load false 1 (.tmp 10), none⟩,
    ⟨(some 12), .call (.val (.clos 86 [] [])) [.tmp 11, .val (.int .i64 1), .val (.int .i64 5)], none⟩])
  (.cond (.tmp 12) (.seq (.region [⟨(some 4), .mov (.val (.int .i64 4)), none⟩])
  .ret) .skip))
  (.seq (.seq (.region [⟨(some 13), .load true 13 (.tmp 2), none⟩,
    ⟨(some 14), .call (.val (.clos 87 [] [])) [.tmp 13], none⟩,
    ⟨(some 5), .mov (.tmp 14), none⟩])
  (.seq (.region [⟨(some 15), .mov (.tmp 5), none⟩,
    ⟨(some 16), .bin .neq (.tmp 15) (.val (.int .i64 0)), none⟩])
  (.cond (.tmp 16) (.seq (.region [⟨(some 17), .mov (.tmp 5), none⟩,
    ⟨(some 4), .mov (.tmp 17), none⟩])
  .ret) .skip)))
  (.seq (.seq (.region [⟨(some 18), .load true 13 (.tmp 2), none⟩,
    ⟨(some 19), .call (.val (.clos 88 [] [])) [.tmp 18], none⟩,
    ⟨(some 6), .mov (.tmp 19), none⟩])
  (.seq (.region [⟨(some 20), .mov (.tmp 6), none⟩,
    ⟨(some 21), .bin .neq (.tmp 20) (.val (.int .i64 0)), none⟩])
  (.cond (.tmp 21) (.seq (.region [⟨(some 22), .mov (.tmp 6), none⟩,
    ⟨(some 4), .mov (.tmp 22), none⟩])
  .ret) .skip)))
  (.seq (.seq (.region [⟨(some 23), .faddr 0 (.tmp 2), none⟩,
    ⟨(some 24), .load false 1 (.tmp 23), none⟩,
    ⟨(some 25), .call (.val (.clos 89 [] [])) [.tmp 24], none⟩,
    ⟨(some 26), .field false 4 1 (.tmp 25), none⟩])
  (.cond (.tmp 26) (.seq (.region [⟨(some 27), .faddr 5 (.tmp 2), none⟩,
    ⟨(some 28), .load true 4 (.tmp 27), none⟩,
    ⟨(some 29), .call (.val (.clos 90 [] [])) [.tmp 28], none⟩,
    ⟨(some 7), .mov (.tmp 29), none⟩])
  (.seq (.region [⟨(some 30), .mov (.tmp 7), none⟩,
    ⟨(some 31), .bin .neq (.tmp 30) (.val (.int .i64 0)), none⟩])
  (.cond (.tmp 31) (.seq (.region [⟨(some 32), .mov (.tmp 7), none⟩,
    ⟨(some 4), .mov (.tmp 32), none⟩])
  .ret) .skip))) .skip))
  (.seq (.region [⟨(some 33), .load true 13 (.tmp 2), none⟩,
    ⟨(some 34), .call (.val (.clos 91 [] [])) [.tmp 33], none⟩,
    ⟨(some 4), .mov (.tmp 34), none⟩])
  .ret)))))))
def r75 : List SRes := [.tmp 4]
theorem c75 : Code1 Tryz.prog 75 s75 r75 35 :=
  ⟨⟨Tryz.f75, _, Tryz.func75, rfl, rfl, by kernel_rfl, by kernel_rfl⟩, by kernel_rfl, by kernel_rfl⟩
def s76 : SCode :=
  (.seq (.region [⟨(some 2), .box (.tmp 0), none⟩,
    ⟨(some 3), .mov (.val (.bool false)), none⟩])
  (.seq (.region [⟨(some 4), .faddr 0 (.tmp 2), none⟩,
    ⟨(some 5), .load false 1 (.tmp 4), none⟩,
    ⟨(some 6), .load false 1 (.tmp 1), none⟩,
    ⟨(some 7), .bin .eql (.tmp 5) (.tmp 6), none⟩,
    ⟨(some 3), .mov (.tmp 7), none⟩])
  .ret))
def r76 : List SRes := [.tmp 3]
theorem c76 : Code1 Tryz.prog 76 s76 r76 8 :=
  ⟨⟨Tryz.f76, _, Tryz.func76, rfl, rfl, by kernel_rfl, by kernel_rfl⟩, by kernel_rfl, by kernel_rfl⟩
def s77 : SCode :=
  (.seq (.region [⟨(some 4), .mov (.val (.int .i64 0)), none⟩])
  (.seq (.region [⟨(some 5), .mov (.tmp 0), none⟩,
    ⟨(some 6), .mov (.tmp 1), none⟩,
    ⟨(some 7), .call (.val (.clos 92 [] [])) [.tmp 5, .tmp 6], none⟩,
    ⟨(some 4), .mov (.tmp 7), none⟩])
  .ret))
def r77 : List SRes := [.tmp 4]
theorem c77 : Code1 Tryz.prog 77 s77 r77 8 :=
  ⟨⟨Tryz.f77, _, Tryz.func77, rfl, rfl, by kernel_rfl, by kernel_rfl⟩, by kernel_rfl, by kernel_rfl⟩
def s78 : SCode :=
  (.seq (.region [⟨(some 3), .mov (.val (.bool false)), none⟩])
  (.seq (.region [⟨(some 4), .mov (.tmp 0), none⟩,
    ⟨(some 5), .load false 1 (.tmp 1), none⟩,
    ⟨(some 6), .call (.val (.clos 79 [] [])) [.tmp 4, .tmp 5], none⟩,
    ⟨(some 3), .mov (.tmp 6), none⟩])
  .ret))
def r78 : List SRes := [.tmp 3]
theorem c78 : Code1 Tryz.prog 78 s78 r78 7 :=
  ⟨⟨Tryz.f78, _, Tryz.func78, rfl, rfl, by kernel_rfl, by kernel_rfl⟩, by kernel_rfl, by kernel_rfl⟩
def s79 : SCode :=
  (.seq (.region [⟨(some 4), .mov (.val (.bool false)), none⟩])
  (.seq (.region [⟨(some 5), .mov (.tmp 0), none⟩,
    ⟨(some 6), .mov (.tmp 1), none⟩,
    ⟨(some 7), .call (.val (.clos 93 [] [])) [.tmp 5, .tmp 6], none⟩,
    ⟨(some 8), .bin .geq (.tmp 7) (.val (.int .i64 0)), none⟩,
    ⟨(some 4), .mov (.tmp 8), none⟩])
  .ret))
def r79 : List SRes := [.tmp 4]
theorem c79 : Code1 Tryz.prog 79 s79 r79 9 :=
  ⟨⟨Tryz.f79, _, Tryz.func79, rfl, rfl, by kernel_rfl, by kernel_rfl⟩, by kernel_rfl, by kernel_rfl⟩
def s80 : SCode :=
  (.seq (.region [⟨(some 6), .mov (.tmp 0), none⟩])
  (.cond (.tmp 6) (.region [⟨(some 7), .load false 1 (.tmp 2), none⟩,
    ⟨(some 8), .mov (.tmp 1), none⟩,
    ⟨(some 9), .buildF 1 [.tmp 8], none⟩,
    ⟨(some 10), .append 1 16 (.tmp 7) (.tmp 9), none⟩,
    ⟨none, .store 1 (.tmp 2) (.tmp 10), none⟩]) (.region [⟨(some 11), .load false 1 (.tmp 3), none⟩,
    ⟨(some 12), .mov (.tmp 11), none⟩,
    ⟨(some 13), .mov (.tmp 1), (some (12, true))⟩,
    ⟨(some 14), .bin .eql (.tmp 13) (.val (.str ⟨#[]⟩)), (some (12, true))⟩,
    ⟨(some 15), .pick (.tmp 12) (.tmp 14) (.val (.bool false)), none⟩,
    ⟨none, .store 1 (.tmp 3) (.tmp 15), none⟩])))
def r80 : List SRes := []
theorem c80 : Code1 Tryz.prog 80 s80 r80 16 :=
  ⟨⟨Tryz.f80, _, Tryz.func80, rfl, rfl, by kernel_rfl, by kernel_rfl⟩, by kernel_rfl, by kernel_rfl⟩
def s81 : SCode :=
  (.seq (.region [⟨(some 1), .box (.tmp 0), none⟩,
    ⟨(some 2), .mov (.val (.bool false)), none⟩])
  (.seq (.region [⟨(some 3), .faddr 0 (.tmp 1), none⟩,
    ⟨(some 4), .load false 1 (.tmp 3), none⟩,
    ⟨(some 5), .bin .eql (.tmp 4) (.val (.int .i64 0)), none⟩,
    ⟨(some 6), .mov (.tmp 5), none⟩,
    ⟨(some 7), .faddr 1 (.tmp 1), (some (6, true))⟩,
    ⟨(some 8), .load false 1 (.tmp 7), (some (6, true))⟩,
    ⟨(some 9), .bin .eql (.tmp 8) (.val (.int .i64 0)), (some (6, true))⟩,
    ⟨(some 10), .pick (.tmp 6) (.tmp 9) (.val (.bool false)), none⟩,
    ⟨(some 11), .mov (.tmp 10), none⟩,
    ⟨(some 12), .faddr 2 (.tmp 1), (some (11, true))⟩,
    ⟨(some 13), .load false 1 (.tmp 12), (some (11, true))⟩,
    ⟨(some 14), .bin .eql (.tmp 13) (.val (.str ⟨#[]⟩)), (some (11, true))⟩,
    ⟨(some 15), .pick (.tmp 11) (.tmp 14) (.val (.bool false)), none⟩,
    ⟨(some 16), .mov (.tmp 15), none⟩,
    ⟨(some 17), .faddr 3 (.tmp 1), (some (16, true))⟩,
    ⟨(some 18), .load false 1 (.tmp 17), (some (16, true))⟩,
    ⟨(some 19), .len false (.tmp 18), (some (16, true))⟩,
    ⟨(some 20), .bin .eql (.tmp 19) (.val (.int .i64 0)), (some (16, true))⟩,
    ⟨(some 21), .pick (.tmp 16) (.tmp 20) (.val (.bool false)), none⟩,
    ⟨(some 2), .mov (.tmp 21), none⟩])
  .ret))
def r81 : List SRes := [.tmp 2]
theorem c81 : Code1 Tryz.prog 81 s81 r81 22 :=
  ⟨⟨Tryz.f81, _, Tryz.func81, rfl, rfl, by kernel_rfl, by kernel_rfl⟩, by kernel_rfl, by kernel_rfl⟩
def s82 : SCode :=
  (.seq (.region [⟨(some 2), .mov (.val (.int .i64 0)), none⟩])
  (.seq (.seq (.region [⟨(some 3), .mov (.tmp 0), none⟩,
    ⟨(some 4), .call (.val (.clos 26 [] [])) [.tmp 3, .val (.clos 94 [] [])], none⟩])
  (.cond (.tmp 4) (.seq (.region [⟨(some 2), .mov (.val (.int .i64 5)), none⟩])
  .ret) .skip))
  (.seq (.region [⟨(some 2), .mov (.val (.int .i64 0)), none⟩])
  .ret)))
def r82 : List SRes := [.tmp 2]
theorem c82 : Code1 Tryz.prog 82 s82 r82 5 :=
  ⟨⟨Tryz.f82, _, Tryz.func82, rfl, rfl, by kernel_rfl, by kernel_rfl⟩, by kernel_rfl, by kernel_rfl⟩
def s83 : SCode :=
  (.seq (.region [⟨(some 1), .box (.tmp 0), none⟩,
    ⟨(some 2), .mov (.val (.int .i64 0)), none⟩])
  (.seq (.region [⟨(some 3), .load true 4 (.tmp 1), none⟩,
    ⟨(some 4), .call (.val (.clos 95 [] [])) [.tmp 3, .val (.int .i64 1)], none⟩,
    ⟨(some 2), .mov (.tmp 4), none⟩])
  .ret))
def r83 : List SRes := [.tmp 2]
theorem c83 : Code1 Tryz.prog 83 s83 r83 5 :=
  ⟨⟨Tryz.f83, _, Tryz.func83, rfl, rfl, by kernel_rfl, by kernel_rfl⟩, by kernel_rfl, by kernel_rfl⟩
def s84 : SCode :=
  (.seq (.region [⟨(some 2), .mov (.val (.bool false)), none⟩])
  (.seq (.region [⟨(some 3), .mov (.tmp 0), none⟩,
    ⟨(some 4), .bin .eql (.tmp 3) (.val (.str ⟨#[112, 114, 111, 99]⟩)), none⟩,
    ⟨(some 5), .mov (.tmp 4), none⟩,
    ⟨(some 6), .mov (.tmp 0), (some (5, false))⟩,
    ⟨(some 7), .bin .eql (.tmp 6) (.val (.str ⟨#[109, 97, 105, 110]⟩)), (some (5, false))⟩,
    ⟨(some 8), .pick (.tmp 5) (.val (.bool true)) (.tmp 7), none⟩,
    ⟨(some 9), .mov (.tmp 8), none⟩,
    ⟨(some 10), .mov (.tmp 0), (some (9, false))⟩,
    ⟨(some 11), .bin .eql (.tmp 10) (.val (.str ⟨#[105, 102]⟩)), (some (9, false))⟩,
    ⟨(some 12), .pick (.tmp 9) (.val (.bool true)) (.tmp 11), none⟩,
    ⟨(some 13), .mov (.tmp 12), none⟩,
    ⟨(some 14), .mov (.tmp 0), (some (13, false))⟩,
    ⟨(some 15), .bin .eql (.tmp 14) (.val (.str ⟨#[101, 108, 115, 101]⟩)), (some (13, false))⟩,
    ⟨(some 16), .pick (.tmp 13) (.val (.bool true)) (.tmp 15), none⟩,
    ⟨(some 2), .mov (.tmp 16), none⟩])
  .ret))
def r84 : List SRes := [.tmp 2]
theorem c84 : Code1 Tryz.prog 84 s84 r84 17 :=
  ⟨⟨Tryz.f84, _, Tryz.func84, rfl, rfl, by kernel_rfl, by kernel_rfl⟩, by kernel_rfl, by kernel_rfl⟩
def s85 : SCode :=
  (.seq (.region [⟨(some 4), .mov (.val (.str ⟨#[]⟩)), none⟩])
  (.seq (.seq (.region [⟨(some 7), .mov (.tmp 0), none⟩,
    ⟨(some 8), .bin .eql (.tmp 7) (.val (.str ⟨#[]⟩)), none⟩,
    ⟨(some 9), .mov (.tmp 8), none⟩,
    ⟨(some 10), .mov (.tmp 1), (some (9, false))⟩,
    ⟨(some 11), .bin .eql (.tmp 10) (.val (.str ⟨#[]⟩)), (some (9, false))⟩,
    ⟨(some 12), .pick (.tmp 9) (.val (.bool true)) (.tmp 11), none⟩])
  (.cond (.tmp 12) (.seq (.region [⟨(some 13), .mov (.tmp 0), none⟩,
    ⟨(some 4), .mov (.tmp 13), none⟩])
  .ret) .skip))
  (.seq (.seq (.region [⟨(some 14), .mov (.tmp 1), none⟩,
    ⟨(some 15), .len true (.tmp 14), none⟩,
    ⟨(some 16), .bin .eql (.tmp 15) (.val (.int .i64 1)), none⟩,
    ⟨(some 17), .mov (.tmp 16), none⟩,
    ⟨(some 18), .mov (.tmp 1), (some (17, true))⟩,
    ⟨(some 19), .sidx (.tmp 18) (.val (.int .i64 0)), (some (17, true))⟩,
    ⟨(some 20), .bin .lss (.tmp 19) (.val (.int .u8 128)), (some (17, true))⟩,
    ⟨(some 21), .pick (.tmp 17) (.tmp 20) (.val (.bool false)), none⟩])
  (.cond (.tmp 21) (.seq (.qregion [⟨⟨(some 22), .mov (.tmp 0), none⟩, false, 0, 0, 0⟩,
    ⟨⟨(some 23), .mov (.tmp 1), none⟩, false, 0, 0, 0⟩,
    ⟨⟨(some 24), .sidx (.tmp 23) (.val (.int .i64 0)), none⟩, false, 0, 0, 2⟩,
    ⟨⟨(some 25), .call (.val (.clos 97 [] [])) [.tmp 22, .tmp 24], none⟩, false, 0, 0, 7⟩,
    ⟨⟨(some 26), .mov (.tmp 1), none⟩, false, 0, 0, 0⟩,
    ⟨⟨(some 27), .sidx (.tmp 26) (.val (.int .i64 0)), none⟩, false, 0, 0, 16⟩,
    ⟨⟨(some 28), .call (.val (.clos 96 [] [])) [.tmp 25, .tmp 27], none⟩, false, 0, 0, 63⟩,
    ⟨⟨(some 4), .mov (.tmp 28), none⟩, false, 0, 0, 127⟩])
  .ret) .skip))
  (.seq (.seq (.region [⟨(some 30), .mov (.tmp 1), none⟩,
    ⟨(some 31), .call (.val (.clos 98 [] [])) [.tmp 30], none⟩,
    ⟨(some 29), .mov (.tmp 31), none⟩,
    ⟨(some 32), .extract (.tmp 29) 0, none⟩,
    ⟨(some 33), .extract (.tmp 29) 1, none⟩,
    ⟨(some 5), .alloc (.agg [.bool false, .bool false, .bool false, .bool false, .bool false, .bool false, .bool false, .bool false, .bool false, .bool false, .bool false, .bool false, .bool false, .bool false, .bool false, .bool false, .bool false, .bool false, .bool false, .bool false, .bool false, .bool false, .bool false, .bool false, .bool false, .bool false, .bool false, .bool false, .bool false, .bool false, .bool false, .bool false, .bool false, .bool false, .bool false, .bool false, .bool false, .bool false, .bool false, .bool false, .bool false, .bool false, .bool false, .bool false, .bool false, .bool false, .bool false, .bool false, .bool false, .bool false, .bool false, .bool false, .bool false, .bool false, .bool false, .bool false, .bool false, .bool false, .bool false, .bool false, .bool false, .bool false, .bool false, .bool false, .bool false, .bool false, .bool false, .bool false, .bool false, .bool false, .bool false, .bool false, .bool false, .bool false, .bool false, .bool false, .bool false, .bool false, .bool false, .bool false, .bool false, .bool false, .bool false, .bool false, .bool false, .bool false, .bool false, .bool false, .bool false, .bool false, .bool false, .bool false, .bool false, .bool false, .bool false, .bool false, .bool false, .bool false, .bool false, .bool false, .bool false, .bool false, .bool false, .bool false, .bool false, .bool false, .bool false, .bool false, .bool false, .bool false, .bool false, .bool false, .bool false, .bool false, .bool false, .bool false, .bool false, .bool false, .bool false, .bool false, .bool false, .bool false, .bool false, .bool false, .bool false, .bool false, .bool false, .bool false, .bool false, .bool false, .bool false, .bool false, .bool false, .bool false, .bool false, .bool false, .bool false, .bool false, .bool false, .bool false, .bool false, .bool false, .bool false, .bool false, .bool false, .bool false, .bool false, .bool false, .bool false, .bool false, .bool false, .bool false, .bool false, .bool false, .bool false, .bool false, .bool false, .bool false, .bool false, .bool false, .bool false, .bool false, .bool false, .bool false, .bool false, .bool false, .bool false, .bool false, .bool false, .bool false, .bool false, .bool false, .bool false, .bool false, .bool false, .bool false, .bool false, .bool false, .bool false, .bool false, .bool false, .bool false, .bool false, .bool false, .bool false, .bool false, .bool false, .bool false, .bool false, .bool false, .bool false, .bool false, .bool false, .bool false, .bool false, .bool false, .bool false, .bool false, .bool false, .bool false, .bool false, .bool false, .bool false, .bool false, .bool false, .bool false, .bool false, .bool false, .bool false, .bool false, .bool false, .bool false, .bool false, .bool false, .bool false, .bool false, .bool false, .bool false, .bool false, .bool false, .bool false, .bool false, .bool false, .bool false, .bool false, .bool false, .bool false, .bool false, .bool false, .bool false, .bool false, .bool false, .bool false, .bool false, .bool false, .bool false, .bool false, .bool false, .bool false, .bool false, .bool false, .bool false, .bool false, .bool false, .bool false, .bool false, .bool false, .bool false, .bool false, .bool false, .bool false, .bool false, .bool false, .bool false, .bool false, .bool false]), none⟩,
    ⟨none, .store 256 (.tmp 5) (.tmp 32), none⟩,
    ⟨(some 6), .mov (.tmp 33), none⟩])
  (.seq (.region [⟨(some 34), .mov (.tmp 6), none⟩])
  (.cond (.tmp 34) (.seq (.region [⟨(some 35), .mov (.tmp 0), none⟩,
    ⟨(some 36), .call (.val (.clos 100 [] [])) [.tmp 35, .tmp 5], none⟩,
    ⟨(some 37), .call (.val (.clos 99 [] [])) [.tmp 36, .tmp 5], none⟩,
    ⟨(some 4), .mov (.tmp 37), none⟩])
  .ret) .skip)))
  (.seq (.region [⟨(some 38), .mov (.tmp 0), none⟩,
    ⟨(some 39), .mov (.tmp 1), none⟩,
    ⟨(some 40), .call (.val (.clos 102 [] [])) [.tmp 38, .tmp 39], none⟩,
    ⟨(some 41), .mov (.tmp 1), none⟩,
    ⟨(some 42), .call (.val (.clos 101 [] [])) [.tmp 40, .tmp 41], none⟩,
    ⟨(some 4), .mov (.tmp 42), none⟩])
  .ret)))))
def r85 : List SRes := [.tmp 4]
theorem c85 : Code1 Tryz.prog 85 s85 r85 43 :=
  ⟨⟨Tryz.f85, _, Tryz.func85, rfl, rfl, by kernel_rfl, by kernel_rfl⟩, by kernel_rfl, by kernel_rfl⟩
def s86 : SCode :=
  (.seq (.region [⟨(some 6), .mov (.val (.bool false)), none⟩])
  (.seq (.region [⟨(some 7), .mov (.tmp 0), none⟩,
    ⟨(some 8), .mov (.tmp 1), none⟩,
    ⟨(some 9), .bin .lss (.tmp 7) (.tmp 8), none⟩,
    ⟨(some 10), .mov (.tmp 9), none⟩,
    ⟨(some 11), .mov (.tmp 0), (some (10, false))⟩,
    ⟨(some 12), .mov (.tmp 2), (some (10, false))⟩,
    ⟨(some 13), .bin .gtr (.tmp 11) (.tmp 12), (some (10, false))⟩,
    ⟨(some 14), .pick (.tmp 10) (.val (.bool true)) (.tmp 13), none⟩,
    ⟨(some 6), .mov (.tmp 14), none⟩])
  .ret))
def r86 : List SRes := [.tmp 6]
theorem c86 : Code1 Tryz.prog 86 s86 r86 15 :=
  ⟨⟨Tryz.f86, _, Tryz.func86, rfl, rfl, by kernel_rfl, by kernel_rfl⟩, by kernel_rfl, by kernel_rfl⟩
def s87 : SCode :=
  (.seq (.region [⟨(some 1), .box (.tmp 0), none⟩,
    ⟨(some 2), .mov (.val (.int .i64 0)), none⟩])
  (.seq (.region [⟨(some 4), .faddr 0 (.tmp 1), none⟩,
    ⟨(some 5), .load false 1 (.tmp 4), none⟩,
    ⟨(some 6), .call (.val (.clos 89 [] [])) [.tmp 5], none⟩,
    ⟨(some 3), .alloc (.agg [.bool false, .bool false, .bool false, .bool false, .bool false, .bool false, .bool false]), none⟩,
    ⟨none, .store 7 (.tmp 3) (.tmp 6), none⟩])
  (.seq (.seq (.region [⟨(some 7), .faddr 0 (.tmp 3), none⟩,
    ⟨(some 8), .load false 1 (.tmp 7), none⟩,
    ⟨(some 9), .un .not (.tmp 8), none⟩,
    ⟨(some 10), .mov (.tmp 9), none⟩,
    ⟨(some 11), .faddr 1 (.tmp 1), (some (10, true))⟩,
    ⟨(some 12), .load false 1 (.tmp 11), (some (10, true))⟩,
    ⟨(some 13), .bin .neq (.tmp 12) (.val (.str ⟨#[]⟩)), (some (10, true))⟩,
    ⟨(some 14), .pick (.tmp 10) (.tmp 13) (.val (.bool false)), none⟩,
    ⟨(some 15), .mov (.tmp 14), none⟩,
    ⟨(some 16), .faddr 1 (.tmp 3), (some (15, false))⟩,
    ⟨(some 17), .load false 1 (.tmp 16), (some (15, false))⟩,
    ⟨(some 18), .un .not (.tmp 17), (some (15, false))⟩,
    ⟨(some 19), .mov (.tmp 18), (some (15, false))⟩,
    ⟨(some 20), .faddr 2 (.tmp 1), (some (19, true))⟩,
    ⟨(some 21), .load false 1 (.tmp 20), (some (19, true))⟩,
    ⟨(some 22), .bin .neq (.tmp 21) (.val (.str ⟨#[]⟩)), (some (19, true))⟩,
    ⟨(some 23), .pick (.tmp 19) (.tmp 22) (.val (.bool false)), (some (15, false))⟩,
    ⟨(some 24), .pick (.tmp 15) (.val (.bool true)) (.tmp 23), none⟩,
    ⟨(some 25), .mov (.tmp 24), none⟩,
    ⟨(some 26), .faddr 2 (.tmp 3), (some (25, false))⟩,
    ⟨(some 27), .load false 1 (.tmp 26), (some (25, false))⟩,
    ⟨(some 28), .un .not (.tmp 27), (some (25, false))⟩,
    ⟨(some 29), .mov (.tmp 28), (some (25, false))⟩,
    ⟨(some 30), .faddr 3 (.tmp 1), (some (29, true))⟩,
    ⟨(some 31), .load false 1 (.tmp 30), (some (29, true))⟩,
    ⟨(some 32), .bin .neq (.tmp 31) (.val (.str ⟨#[]⟩)), (some (29, true))⟩,
    ⟨(some 33), .pick (.tmp 29) (.tmp 32) (.val (.bool false)), (some (25, false))⟩,
    ⟨(some 34), .pick (.tmp 25) (.val (.bool true)) (.tmp 33), none⟩,
    ⟨(some 35), .mov (.tmp 34), none⟩,
    ⟨(some 36), .faddr 3 (.tmp 3), (some (35, false))⟩,
    ⟨(some 37), .load false 1 (.tmp 36), (some (35, false))⟩,
    ⟨(some 38), .un .not (.tmp 37), (some (35, false))⟩,
    ⟨(some 39), .mov (.tmp 38), (some (35, false))⟩,
    ⟨(some 40), .faddr 4 (.tmp 1), (some (39, true))⟩,
    ⟨(some 41), .load false 1 (.tmp 40), (some (39, true))⟩,
    ⟨(some 42), .bin .neq (.tmp 41) (.val (.str ⟨#[]⟩)), (some (39, true))⟩,
    ⟨(some 43), .pick (.tmp 39) (.tmp 42) (.val (.bool false)), (some (35, false))⟩,
    ⟨(some 44), .pick (.tmp 35) (.val (.bool true)) (.tmp 43), none⟩])
  (.cond (.tmp 44) (.seq (.region [⟨(some 2), .mov (.val (.int .i64 3)), none⟩])
  .ret) .skip))
  (.seq (.seq (.region [⟨(some 45), .faddr 4 (.tmp 3), none⟩,
    ⟨(some 46), .load false 1 (.tmp 45), none⟩,
    ⟨(some 47), .un .not (.tmp 46), none⟩,
    ⟨(some 48), .mov (.tmp 47), none⟩,
    ⟨(some 49), .faddr 5 (.tmp 1), (some (48, true))⟩,
    ⟨(some 50), .load true 4 (.tmp 49), (some (48, true))⟩,
    ⟨(some 51), .build [.int .i64 0, .int .i64 0, .str ⟨#[]⟩, .nils] [], (some (48, true))⟩,
    ⟨(some 52), .call (.val (.clos 103 [] [])) [.tmp 50, .tmp 51], (some (48, true))⟩,
    ⟨(some 53), .un .not (.tmp 52), (some (48, true))⟩,
    ⟨(some 54), .pick (.tmp 48) (.tmp 53) (.val (.bool false)), none⟩,
    ⟨(some 55), .mov (.tmp 54), none⟩,
    ⟨(some 56), .faddr 5 (.tmp 3), (some (55, false))⟩,
    ⟨(some 57), .load false 1 (.tmp 56), (some (55, false))⟩,
    ⟨(some 58), .un .not (.tmp 57), (some (55, false))⟩,
    ⟨(some 59), .mov (.tmp 58), (some (55, false))⟩,
    ⟨(some 60), .faddr 9 (.tmp 1), (some (59, true))⟩,
    ⟨(some 61), .load false 1 (.tmp 60), (some (59, true))⟩,
    ⟨(some 62), .len false (.tmp 61), (some (59, true))⟩,
    ⟨(some 63), .faddr 10 (.tmp 1), (some (59, true))⟩,
    ⟨(some 64), .load false 1 (.tmp 63), (some (59, true))⟩,
    ⟨(some 65), .len false (.tmp 64), (some (59, true))⟩,
    ⟨(some 66), .bin .add (.tmp 62) (.tmp 65), (some (59, true))⟩,
    ⟨(some 67), .bin .gtr (.tmp 66) (.val (.int .i64 0)), (some (59, true))⟩,
    ⟨(some 68), .pick (.tmp 59) (.tmp 67) (.val (.bool false)), (some (55, false))⟩,
    ⟨(some 69), .pick (.tmp 55) (.val (.bool true)) (.tmp 68), none⟩,
    ⟨(some 70), .mov (.tmp 69), none⟩,
    ⟨(some 71), .faddr 6 (.tmp 3), (some (70, false))⟩,
    ⟨(some 72), .load false 1 (.tmp 71), (some (70, false))⟩,
    ⟨(some 73), .un .not (.tmp 72), (some (70, false))⟩,
    ⟨(some 74), .mov (.tmp 73), (some (70, false))⟩,
    ⟨(some 75), .faddr 11 (.tmp 1), (some (74, true))⟩,
    ⟨(some 76), .load false 1 (.tmp 75), (some (74, true))⟩,
    ⟨(some 77), .bin .neq (.tmp 76) (.val (.str ⟨#[]⟩)), (some (74, true))⟩,
    ⟨(some 78), .mov (.tmp 77), (some (74, true))⟩,
    ⟨(some 79), .faddr 12 (.tmp 1), (some (78, false))⟩,
    ⟨(some 80), .load false 1 (.tmp 79), (some (78, false))⟩,
    ⟨(some 81), .len false (.tmp 80), (some (78, false))⟩,
    ⟨(some 82), .bin .gtr (.tmp 81) (.val (.int .i64 0)), (some (78, false))⟩,
    ⟨(some 83), .pick (.tmp 78) (.val (.bool true)) (.tmp 82), (some (74, true))⟩,
    ⟨(some 84), .pick (.tmp 74) (.tmp 83) (.val (.bool false)), (some (70, false))⟩,
    ⟨(some 85), .pick (.tmp 70) (.val (.bool true)) (.tmp 84), none⟩])
  (.cond (.tmp 85) (.seq (.region [⟨(some 2), .mov (.val (.int .i64 3)), none⟩])
  .ret) .skip))
  (.seq (.region [⟨(some 2), .mov (.val (.int .i64 0)), none⟩])
  .ret)))))
def r87 : List SRes := [.tmp 2]
theorem c87 : Code1 Tryz.prog 87 s87 r87 86 :=
  ⟨⟨Tryz.f87, _, Tryz.func87, rfl, rfl, by kernel_rfl, by kernel_rfl⟩, by kernel_rfl, by kernel_rfl⟩
def s88 : SCode :=
  (.seq (.region [⟨(some 1), .box (.tmp 0), none⟩,
    ⟨(some 2), .mov (.val (.int .i64 0)), none⟩])
  (.seq (.region [⟨(some 5), .faddr 0 (.tmp 1), none⟩,
    ⟨(some 6), .load false 1 (.tmp 5), none⟩,
    ⟨(some 7), .call (.val (.clos 89 [] [])) [.tmp 6], none⟩,
    ⟨(some 3), .alloc (.agg [.bool false, .bool false, .bool false, .bool false, .bool false, .bool false, .bool false]), none⟩,
    ⟨none, .store 7 (.tmp 3) (.tmp 7), none⟩])
  (.seq (.region [⟨(some 4), .mov (.val (.clos 104 [] [])), none⟩])
  (.seq (.seq (.region [⟨(some 8), .mov (.tmp 4), none⟩,
    ⟨(some 9), .faddr 0 (.tmp 3), none⟩,
    ⟨(some 10), .load false 1 (.tmp 9), none⟩,
    ⟨(some 11), .faddr 1 (.tmp 1), none⟩,
    ⟨(some 12), .load false 1 (.tmp 11), none⟩,
    ⟨(some 13), .call (.tmp 8) [.tmp 10, .tmp 12], none⟩,
    ⟨(some 14), .mov (.tmp 13), none⟩,
    ⟨(some 15), .mov (.tmp 4), (some (14, false))⟩,
    ⟨(some 16), .faddr 1 (.tmp 3), (some (14, false))⟩,
    ⟨(some 17), .load false 1 (.tmp 16), (some (14, false))⟩,
    ⟨(some 18), .faddr 2 (.tmp 1), (some (14, false))⟩,
    ⟨(some 19), .load false 1 (.tmp 18), (some (14, false))⟩,
    ⟨(some 20), .call (.tmp 15) [.tmp 17, .tmp 19], (some (14, false))⟩,
    ⟨(some 21), .pick (.tmp 14) (.val (.bool true)) (.tmp 20), none⟩,
    ⟨(some 22), .mov (.tmp 21), none⟩,
    ⟨(some 23), .mov (.tmp 4), (some (22, false))⟩,
    ⟨(some 24), .faddr 2 (.tmp 3), (some (22, false))⟩,
    ⟨(some 25), .load false 1 (.tmp 24), (some (22, false))⟩,
    ⟨(some 26), .faddr 3 (.tmp 1), (some (22, false))⟩,
    ⟨(some 27), .load false 1 (.tmp 26), (some (22, false))⟩,
    ⟨(some 28), .call (.tmp 23) [.tmp 25, .tmp 27], (some (22, false))⟩,
    ⟨(some 29), .pick (.tmp 22) (.val (.bool true)) (.tmp 28), none⟩,
    ⟨(some 30), .mov (.tmp 29), none⟩,
    ⟨(some 31), .mov (.tmp 4), (some (30, false))⟩,
    ⟨(some 32), .faddr 3 (.tmp 3), (some (30, false))⟩,
    ⟨(some 33), .load false 1 (.tmp 32), (some (30, false))⟩,
    ⟨(some 34), .faddr 4 (.tmp 1), (some (30, false))⟩,
    ⟨(some 35), .load false 1 (.tmp 34), (some (30, false))⟩,
    ⟨(some 36), .call (.tmp 31) [.tmp 33, .tmp 35], (some (30, false))⟩,
    ⟨(some 37), .pick (.tmp 30) (.val (.bool true)) (.tmp 36), none⟩,
    ⟨(some 38), .mov (.tmp 37), none⟩,
    ⟨(some 39), .mov (.tmp 4), (some (38, false))⟩,
    ⟨(some 40), .faddr 6 (.tmp 3), (some (38, false))⟩,
    ⟨(some 41), .load false 1 (.tmp 40), (some (38, false))⟩,
    ⟨(some 42), .faddr 11 (.tmp 1), (some (38, false))⟩,
    ⟨(some 43), .load false 1 (.tmp 42), (some (38, false))⟩,
    ⟨(some 44), .call (.tmp 39) [.tmp 41, .tmp 43], (some (38, false))⟩,
    ⟨(some 45), .pick (.tmp 38) (.val (.bool true)) (.tmp 44), none⟩])
  (.cond (.tmp 45) (.seq (.region [⟨(some 2), .mov (.val (.int .i64 5)), none⟩])
  .ret) .skip))
  (.seq (.region [⟨(some 2), .mov (.val (.int .i64 0)), none⟩])
  .ret)))))
def r88 : List SRes := [.tmp 2]
theorem c88 : Code1 Tryz.prog 88 s88 r88 46 :=
  ⟨⟨Tryz.f88, _, Tryz.func88, rfl, rfl, by kernel_rfl, by kernel_rfl⟩, by kernel_rfl, by kernel_rfl⟩
def s89 : SCode :=
  (.seq (.region [⟨(some 2), .alloc (.agg [.bool false, .bool false, .bool false, .bool false, .bool false, .bool false, .bool false]), none⟩])
  (.seq (.seq (.region [⟨(some 3), .mov (.tmp 0), none⟩])
  (.block 0 (.seq (.region [⟨(some 5), .bin .eql (.tmp 3) (.val (.int .i64 1)), none⟩,
    ⟨(some 4), .mov (.tmp 5), none⟩])
  (.cond (.tmp 4) (.seq (.region [⟨(some 6), .build [.bool false, .bool false, .bool false, .bool false, .bool false, .bool false, .bool false] [(0, 1, .val (.bool true)), (1, 1, .val (.bool true)), (2, 1, .val (.bool true)), (4, 1, .val (.bool true))], none⟩,
    ⟨none, .store 7 (.tmp 2) (.tmp 6), none⟩])
  .ret) (.seq (.region [⟨(some 8), .bin .eql (.tmp 3) (.val (.int .i64 2)), none⟩,
    ⟨(some 7), .mov (.tmp 8), none⟩])
  (.cond (.tmp 7) (.seq (.region [⟨(some 9), .build [.bool false, .bool false, .bool false, .bool false, .bool false, .bool false, .bool false] [(0, 1, .val (.bool true)), (1, 1, .val (.bool true)), (3, 1, .val (.bool true))], none⟩,
    ⟨none, .store 7 (.tmp 2) (.tmp 9), none⟩])
  .ret) (.seq (.region [⟨(some 11), .bin .eql (.tmp 3) (.val (.int .i64 3)), none⟩,
    ⟨(some 10), .mov (.tmp 11), none⟩])
  (.cond (.tmp 10) (.seq (.region [⟨(some 12), .build [.bool false, .bool false, .bool false, .bool false, .bool false, .bool false, .bool false] [(0, 1, .val (.bool true)), (2, 1, .val (.bool true)), (4, 1, .val (.bool true))], none⟩,
    ⟨none, .store 7 (.tmp 2) (.tmp 12), none⟩])
  .ret) (.seq (.region [⟨(some 14), .bin .eql (.tmp 3) (.val (.int .i64 4)), none⟩,
    ⟨(some 13), .mov (.tmp 14), none⟩])
  (.cond (.tmp 13) (.seq (.region [⟨(some 15), .build [.bool false, .bool false, .bool false, .bool false, .bool false, .bool false, .bool false] [(0, 1, .val (.bool true)), (4, 1, .val (.bool true)), (5, 1, .val (.bool true))], none⟩,
    ⟨none, .store 7 (.tmp 2) (.tmp 15), none⟩])
  .ret) .skip))))))))))
  (.seq (.region [⟨(some 16), .build [.bool false, .bool false, .bool false, .bool false, .bool false, .bool false, .bool false] [(6, 1, .val (.bool true))], none⟩,
    ⟨none, .store 7 (.tmp 2) (.tmp 16), none⟩])
  .ret)))
def r89 : List SRes := [.cell true 7 2]
theorem c89 : Code1 Tryz.prog 89 s89 r89 17 :=
  ⟨⟨Tryz.f89, _, Tryz.func89, rfl, rfl, by kernel_rfl, by kernel_rfl⟩, by kernel_rfl, by kernel_rfl⟩
def s90 : SCode :=
  (.seq (.region [⟨(some 1), .box (.tmp 0), none⟩,
    ⟨(some 2), .mov (.val (.int .i64 0)), none⟩])
  (.seq (.region [⟨(some 3), .load true 4 (.tmp 1), none⟩,
    ⟨(some 4), .call (.val (.clos 105 [] [])) [.tmp 3, .val (.int .i64 1)], none⟩,
    ⟨(some 2), .mov (.tmp 4), none⟩])
  .ret))
def r90 : List SRes := [.tmp 2]
theorem c90 : Code1 Tryz.prog 90 s90 r90 5 :=
  ⟨⟨Tryz.f90, _, Tryz.func90, rfl, rfl, by kernel_rfl, by kernel_rfl⟩, by kernel_rfl, by kernel_rfl⟩
def s91 : SCode :=
  (.seq (.region [⟨(some 1), .box (.tmp 0), none⟩,
    ⟨(some 2), .mov (.val (.int .i64 0)), none⟩])
  (.seq (.block 0 (.seq (.region [⟨(some 4), .faddr 0 (.tmp 1), none⟩,
    ⟨(some 5), .load false 1 (.tmp 4), none⟩,
    ⟨(some 6), .bin .neq (.tmp 5) (.val (.int .i64 5)), none⟩,
    ⟨(some 3), .mov (.tmp 6), none⟩])
  (.cond (.tmp 3) (.seq (.region [⟨(some 2), .mov (.val (.int .i64 0)), none⟩])
  .ret) (.seq (.region [⟨(some 8), .faddr 12 (.tmp 1), none⟩,
    ⟨(some 9), .load false 1 (.tmp 8), none⟩,
    ⟨(some 10), .len false (.tmp 9), none⟩,
    ⟨(some 11), .bin .eql (.tmp 10) (.val (.int .i64 0)), none⟩,
    ⟨(some 7), .mov (.tmp 11), none⟩])
  (.cond (.tmp 7) (.seq (.region [⟨(some 2), .mov (.val (.int .i64 8)), none⟩])
  .ret) (.seq (.region [⟨(some 13), .faddr 12 (.tmp 1), none⟩,
    ⟨(some 14), .load false 1 (.tmp 13), none⟩,
    ⟨(some 15), .len false (.tmp 14), none⟩,
    ⟨(some 16), .bin .gtr (.tmp 15) (.val (.int .i64 12)), none⟩,
    ⟨(some 12), .mov (.tmp 16), none⟩])
  (.cond (.tmp 12) (.seq (.region [⟨(some 2), .mov (.val (.int .i64 2)), none⟩])
  .ret) (.seq (.region [⟨(some 18), .faddr 12 (.tmp 1), none⟩,
    ⟨(some 19), .load false 1 (.tmp 18), none⟩,
    ⟨(some 20), .call (.val (.clos 26 [] [])) [.tmp 19, .val (.clos 106 [] [])], none⟩,
    ⟨(some 17), .mov (.tmp 20), none⟩])
  (.cond (.tmp 17) (.seq (.region [⟨(some 2), .mov (.val (.int .i64 5)), none⟩])
  .ret) .skip)))))))))
  (.seq (.region [⟨(some 2), .mov (.val (.int .i64 0)), none⟩])
  .ret)))
def r91 : List SRes := [.tmp 2]
theorem c91 : Code1 Tryz.prog 91 s91 r91 21 :=
  ⟨⟨Tryz.f91, _, Tryz.func91, rfl, rfl, by kernel_rfl, by kernel_rfl⟩, by kernel_rfl, by kernel_rfl⟩
def s93 : SCode :=
  (.seq (.region [⟨(some 4), .mov (.val (.int .i64 0)), none⟩])
  (.seq (.seq (.region [⟨(some 6), .mov (.tmp 0), none⟩,
    ⟨(some 7), .len false (.tmp 6), none⟩,
    ⟨(some 8), .mov (.val (.int .i64 0)), none⟩])
  (.block 0 (.loop (.seq (.region [⟨(some 9), .bin .lss (.tmp 8) (.tmp 7), none⟩])
  (.seq (.cond (.tmp 9) .skip (.exit 0))
  (.seq (.block 1 (.seq (.region [⟨(some 10), .mov (.tmp 8), none⟩,
    ⟨(some 5), .mov (.tmp 10), none⟩])
  (.seq (.region [⟨(some 11), .mov (.tmp 1), none⟩,
    ⟨(some 12), .mov (.tmp 0), none⟩,
    ⟨(some 13), .mov (.tmp 5), none⟩,
    ⟨(some 14), .iaddr 1 (.tmp 12) (.tmp 13), none⟩,
    ⟨(some 15), .load false 1 (.tmp 14), none⟩,
    ⟨(some 16), .bin .eql (.tmp 11) (.tmp 15), none⟩])
  (.cond (.tmp 16) (.seq (.region [⟨(some 17), .mov (.tmp 5), none⟩,
    ⟨(some 4), .mov (.tmp 17), none⟩])
  .ret) .skip))))
  (.region [⟨(some 18), .bin .add (.tmp 8) (.val (.int .i64 1)), none⟩,
    ⟨(some 8), .mov (.tmp 18), none⟩])))))))
  (.seq (.region [⟨(some 4), .mov (.val (.int .i64 (-1))), none⟩])
  .ret)))
def r93 : List SRes := [.tmp 4]
theorem c93 : Code1 Tryz.prog 93 s93 r93 19 :=
  ⟨⟨Tryz.f93, _, Tryz.func93, rfl, rfl, by kernel_rfl, by kernel_rfl⟩, by kernel_rfl, by kernel_rfl⟩
def s94 : SCode :=
  (.seq (.region [⟨(some 2), .mov (.val (.bool false)), none⟩])
  (.seq (.region [⟨(some 3), .mov (.tmp 0), none⟩,
    ⟨(some 4), .call (.val (.clos 54 [] [])) [.tmp 3], none⟩,
    ⟨(some 5), .un .not (.tmp 4), none⟩,
    ⟨(some 2), .mov (.tmp 5), none⟩])
  .ret))
def r94 : List SRes := [.tmp 2]
theorem c94 : Code1 Tryz.prog 94 s94 r94 6 :=
  ⟨⟨Tryz.f94, _, Tryz.func94, rfl, rfl, by kernel_rfl, by kernel_rfl⟩, by kernel_rfl, by kernel_rfl⟩
def s95 : SCode :=
  (.seq (.region [⟨(some 2), .box (.tmp 0), none⟩,
    ⟨(some 4), .mov (.val (.int .i64 0)), none⟩])
  (.seq (.region [⟨(some 9), .faddr 0 (.tmp 2), none⟩,
    ⟨(some 10), .load false 1 (.tmp 9), none⟩,
    ⟨(some 11), .call (.val (.clos 107 [] [])) [.tmp 10], none⟩,
    ⟨(some 5), .mov (.tmp 11), none⟩])
  (.seq (.block 0 (.seq (.region [⟨(some 13), .mov (.tmp 1), none⟩,
    ⟨(some 14), .bin .gtr (.tmp 13) (.val (.int .i64 20)), none⟩,
    ⟨(some 12), .mov (.tmp 14), none⟩])
  (.cond (.tmp 12) (.seq (.region [⟨(some 4), .mov (.val (.int .i64 2)), none⟩])
  .ret) (.seq (.region [⟨(some 16), .mov (.tmp 5), none⟩,
    ⟨(some 17), .bin .lss (.tmp 16) (.val (.int .i64 0)), none⟩,
    ⟨(some 15), .mov (.tmp 17), none⟩])
  (.cond (.tmp 15) (.seq (.region [⟨(some 4), .mov (.val (.int .i64 4)), none⟩])
  .ret) (.seq (.region [⟨(some 19), .faddr 3 (.tmp 2), none⟩,
    ⟨(some 20), .load false 1 (.tmp 19), none⟩,
    ⟨(some 21), .len false (.tmp 20), none⟩,
    ⟨(some 22), .mov (.tmp 5), none⟩,
    ⟨(some 23), .bin .neq (.tmp 21) (.tmp 22), none⟩,
    ⟨(some 24), .mov (.tmp 23), none⟩,
    ⟨(some 25), .faddr 0 (.tmp 2), (some (24, false))⟩,
    ⟨(some 26), .load false 1 (.tmp 25), (some (24, false))⟩,
    ⟨(some 27), .bin .neq (.tmp 26) (.val (.int .i64 1)), (some (24, false))⟩,
    ⟨(some 28), .mov (.tmp 27), (some (24, false))⟩,
    ⟨(some 29), .faddr 1 (.tmp 2), (some (28, true))⟩,
    ⟨(some 30), .load false 1 (.tmp 29), (some (28, true))⟩,
    ⟨(some 31), .bin .neq (.tmp 30) (.val (.int .i64 0)), (some (28, true))⟩,
    ⟨(some 32), .pick (.tmp 28) (.tmp 31) (.val (.bool false)), (some (24, false))⟩,
    ⟨(some 33), .pick (.tmp 24) (.val (.bool true)) (.tmp 32), none⟩,
    ⟨(some 34), .mov (.tmp 33), none⟩,
    ⟨(some 35), .faddr 0 (.tmp 2), (some (34, false))⟩,
    ⟨(some 36), .load false 1 (.tmp 35), (some (34, false))⟩,
    ⟨(some 37), .bin .neq (.tmp 36) (.val (.int .i64 2)), (some (34, false))⟩,
    ⟨(some 38), .mov (.tmp 37), (some (34, false))⟩,
    ⟨(some 39), .faddr 2 (.tmp 2), (some (38, true))⟩,
    ⟨(some 40), .load false 1 (.tmp 39), (some (38, true))⟩,
    ⟨(some 41), .bin .neq (.tmp 40) (.val (.str ⟨#[]⟩)), (some (38, true))⟩,
    ⟨(some 42), .pick (.tmp 38) (.tmp 41) (.val (.bool false)), (some (34, false))⟩,
    ⟨(some 43), .pick (.tmp 34) (.val (.bool true)) (.tmp 42), none⟩,
    ⟨(some 18), .mov (.tmp 43), none⟩])
  (.cond (.tmp 18) (.seq (.region [⟨(some 4), .mov (.val (.int .i64 3)), none⟩])
  .ret) (.seq (.region [⟨(some 45), .faddr 1 (.tmp 2), none⟩,
    ⟨(some 46), .load false 1 (.tmp 45), none⟩,
    ⟨(some 47), .call (.val (.clos 31 [] [])) [.tmp 46, .val (.int .i64 0), .val (.int .i64 999)], none⟩,
    ⟨(some 48), .un .not (.tmp 47), none⟩,
    ⟨(some 44), .mov (.tmp 48), none⟩])
  (.cond (.tmp 44) (.seq (.region [⟨(some 4), .mov (.val (.int .i64 1)), none⟩])
  .ret) (.seq (.region [⟨(some 50), .faddr 0 (.tmp 2), none⟩,
    ⟨(some 51), .load false 1 (.tmp 50), none⟩,
    ⟨(some 52), .bin .eql (.tmp 51) (.val (.int .i64 2)), none⟩,
    ⟨(some 53), .mov (.tmp 52), none⟩,
    ⟨(some 54), .faddr 2 (.tmp 2), (some (53, true))⟩,
    ⟨(some 55), .load false 1 (.tmp 54), (some (53, true))⟩,
    ⟨(some 56), .call (.val (.clos 54 [] [])) [.tmp 55], (some (53, true))⟩,
    ⟨(some 57), .un .not (.tmp 56), (some (53, true))⟩,
    ⟨(some 58), .pick (.tmp 53) (.tmp 57) (.val (.bool false)), none⟩,
    ⟨(some 49), .mov (.tmp 58), none⟩])
  (.cond (.tmp 49) (.seq (.region [⟨(some 4), .mov (.val (.int .i64 5)), none⟩])
  .ret) .skip)))))))))))
  (.seq (.seq (.region [⟨(some 59), .faddr 3 (.tmp 2), none⟩,
    ⟨(some 60), .load false 1 (.tmp 59), none⟩,
    ⟨(some 61), .len false (.tmp 60), none⟩,
    ⟨(some 62), .mov (.val (.int .i64 0)), none⟩])
  (.block 1 (.loop (.seq (.region [⟨(some 63), .bin .lss (.tmp 62) (.tmp 61), none⟩])
  (.seq (.cond (.tmp 63) .skip (.exit 1))
  (.seq (.block 2 (.seq (.region [⟨(some 64), .iaddr 4 (.tmp 60) (.tmp 62), none⟩,
    ⟨(some 65), .load true 4 (.tmp 64), none⟩,
    ⟨(some 7), .alloc (.agg [.int .i64 0, .int .i64 0, .str ⟨#[]⟩, .nils]), none⟩,
    ⟨none, .store 4 (.tmp 7) (.tmp 65), none⟩])
  (.seq (.region [⟨(some 66), .load true 4 (.tmp 7), none⟩,
    ⟨(some 67), .mov (.tmp 1), none⟩,
    ⟨(some 68), .bin .add (.tmp 67) (.val (.int .i64 1)), none⟩,
    ⟨(some 69), .call (.val (.clos 95 [] [])) [.tmp 66, .tmp 68], none⟩,
    ⟨(some 8), .mov (.tmp 69), none⟩])
  (.seq (.region [⟨(some 70), .mov (.tmp 8), none⟩,
    ⟨(some 71), .bin .neq (.tmp 70) (.val (.int .i64 0)), none⟩])
  (.cond (.tmp 71) (.seq (.region [⟨(some 72), .mov (.tmp 8), none⟩,
    ⟨(some 4), .mov (.tmp 72), none⟩])
  .ret) .skip)))))
  (.region [⟨(some 73), .bin .add (.tmp 62) (.val (.int .i64 1)), none⟩,
    ⟨(some 62), .mov (.tmp 73), none⟩])))))))
  (.seq (.region [⟨(some 4), .mov (.val (.int .i64 0)), none⟩])
  .ret)))))
def r95 : List SRes := [.tmp 4]
theorem c95 : Code1 Tryz.prog 95 s95 r95 74 :=
  ⟨⟨Tryz.f95, _, Tryz.func95, rfl, rfl, by kernel_rfl, by kernel_rfl⟩, by kernel_rfl, by kernel_rfl⟩
def s103 : SCode :=
  (.seq (.region [⟨(some 2), .box (.tmp 0), none⟩,
    ⟨(some 3), .box (.tmp 1), none⟩,
    ⟨(some 4), .mov (.val (.bool false)), none⟩])
  (.seq (.seq (.region [⟨(some 7), .faddr 0 (.tmp 2), none⟩,
    ⟨(some 8), .load false 1 (.tmp 7), none⟩,
    ⟨(some 9), .faddr 0 (.tmp 3), none⟩,
    ⟨(some 10), .load false 1 (.tmp 9), none⟩,
    ⟨(some 11), .bin .neq (.tmp 8) (.tmp 10), none⟩,
    ⟨(some 12), .mov (.tmp 11), none⟩,
    ⟨(some 13), .faddr 1 (.tmp 2), (some (12, false))⟩,
    ⟨(some 14), .load false 1 (.tmp 13), (some (12, false))⟩,
    ⟨(some 15), .faddr 1 (.tmp 3), (some (12, false))⟩,
    ⟨(some 16), .load false 1 (.tmp 15), (some (12, false))⟩,
    ⟨(some 17), .bin .neq (.tmp 14) (.tmp 16), (some (12, false))⟩,
    ⟨(some 18), .pick (.tmp 12) (.val (.bool true)) (.tmp 17), none⟩,
    ⟨(some 19), .mov (.tmp 18), none⟩,
    ⟨(some 20), .faddr 2 (.tmp 2), (some (19, false))⟩,
    ⟨(some 21), .load false 1 (.tmp 20), (some (19, false))⟩,
    ⟨(some 22), .faddr 2 (.tmp 3), (some (19, false))⟩,
    ⟨(some 23), .load false 1 (.tmp 22), (some (19, false))⟩,
    ⟨(some 24), .bin .neq (.tmp 21) (.tmp 23), (some (19, false))⟩,
    ⟨(some 25), .pick (.tmp 19) (.val (.bool true)) (.tmp 24), none⟩,
    ⟨(some 26), .mov (.tmp 25), none⟩,
    ⟨(some 27), .faddr 3 (.tmp 2), (some (26, false))⟩,
    ⟨(some 28), .load false 1 (.tmp 27), (some (26, false))⟩,
    ⟨(some 29), .len false (.tmp 28), (some (26, false))⟩,
    ⟨(some 30), .faddr 3 (.tmp 3), (some (26, false))⟩,
    ⟨(some 31), .load false 1 (.tmp 30), (some (26, false))⟩,
    ⟨(some 32), .len false (.tmp 31), (some (26, false))⟩,
    ⟨(some 33), .bin .neq (.tmp 29) (.tmp 32), (some (26, false))⟩,
    ⟨(some 34), .pick (.tmp 26) (.val (.bool true)) (.tmp 33), none⟩])
  (.cond (.tmp 34) (.seq (.region [⟨(some 4), .mov (.val (.bool false)), none⟩])
  .ret) .skip))
  (.seq (.seq (.region [⟨(some 35), .faddr 3 (.tmp 2), none⟩,
    ⟨(some 36), .load false 1 (.tmp 35), none⟩,
    ⟨(some 37), .len false (.tmp 36), none⟩,
    ⟨(some 38), .mov (.val (.int .i64 0)), none⟩])
  (.block 0 (.loop (.seq (.region [⟨(some 39), .bin .lss (.tmp 38) (.tmp 37), none⟩])
  (.seq (.cond (.tmp 39) .skip (.exit 0))
  (.seq (.block 1 (.seq (.region [⟨(some 40), .mov (.tmp 38), none⟩,
    ⟨(some 41), .iaddr 4 (.tmp 36) (.tmp 38), none⟩,
    ⟨(some 42), .load true 4 (.tmp 41), none⟩,
    ⟨(some 6), .alloc (.agg [.int .i64 0, .int .i64 0, .str ⟨#[]⟩, .nils]), none⟩,
    ⟨(some 5), .mov (.tmp 40), none⟩,
    ⟨none, .store 4 (.tmp 6) (.tmp 42), none⟩])
  (.seq (.qregion [⟨⟨(some 43), .load true 4 (.tmp 6), none⟩, false, 0, 0, 0⟩,
    ⟨⟨(some 44), .faddr 3 (.tmp 3), none⟩, false, 0, 0, 0⟩,
    ⟨⟨(some 45), .load false 1 (.tmp 44), none⟩, false, 0, 0, 2⟩,
    ⟨⟨(some 46), .mov (.tmp 5), none⟩, false, 0, 0, 0⟩,
    ⟨⟨(some 47), .iaddr 4 (.tmp 45) (.tmp 46), none⟩, false, 0, 0, 14⟩,
    ⟨⟨(some 48), .load true 4 (.tmp 47), none⟩, false, 0, 0, 30⟩,
    ⟨⟨(some 49), .call (.val (.clos 103 [] [])) [.tmp 43, .tmp 48], none⟩, false, 0, 0, 63⟩,
    ⟨⟨(some 50), .un .not (.tmp 49), none⟩, false, 0, 0, 127⟩])
  (.cond (.tmp 50) (.seq (.region [⟨(some 4), .mov (.val (.bool false)), none⟩])
  .ret) .skip))))
  (.region [⟨(some 51), .bin .add (.tmp 38) (.val (.int .i64 1)), none⟩,
    ⟨(some 38), .mov (.tmp 51), none⟩])))))))
  (.seq (.region [⟨(some 4), .mov (.val (.bool true)), none⟩])
  .ret))))
def r103 : List SRes := [.tmp 4]
theorem c103 : Code1 Tryz.prog 103 s103 r103 52 :=
  ⟨⟨Tryz.f103, _, Tryz.func103, rfl, rfl, by kernel_rfl, by kernel_rfl⟩, by kernel_rfl, by kernel_rfl⟩
def s104 : SCode :=
  (.seq (.region [⟨(some 4), .mov (.val (.bool false)), none⟩])
  (.seq (.region [⟨(some 5), .mov (.tmp 0), none⟩,
    ⟨(some 6), .mov (.tmp 5), none⟩,
    ⟨(some 7), .mov (.tmp 1), (some (6, true))⟩,
    ⟨(some 8), .call (.val (.clos 72 [] [])) [.tmp 7], (some (6, true))⟩,
    ⟨(some 9), .un .not (.tmp 8), (some (6, true))⟩,
    ⟨(some 10), .pick (.tmp 6) (.tmp 9) (.val (.bool false)), none⟩,
    ⟨(some 4), .mov (.tmp 10), none⟩])
  .ret))
def r104 : List SRes := [.tmp 4]
theorem c104 : Code1 Tryz.prog 104 s104 r104 11 :=
  ⟨⟨Tryz.f104, _, Tryz.func104, rfl, rfl, by kernel_rfl, by kernel_rfl⟩, by kernel_rfl, by kernel_rfl⟩
def s105 : SCode :=
  (.seq (.region [⟨(some 2), .box (.tmp 0), none⟩,
    ⟨(some 4), .mov (.val (.int .i64 0)), none⟩])
  (.seq (.block 0 (.seq (.region [⟨(some 9), .mov (.tmp 1), none⟩,
    ⟨(some 10), .bin .gtr (.tmp 9) (.val (.int .i64 20)), none⟩,
    ⟨(some 8), .mov (.tmp 10), none⟩])
  (.cond (.tmp 8) (.seq (.region [⟨(some 4), .mov (.val (.int .i64 2)), none⟩])
  .ret) (.seq (.region [⟨(some 12), .faddr 0 (.tmp 2), none⟩,
    ⟨(some 13), .load false 1 (.tmp 12), none⟩,
    ⟨(some 14), .call (.val (.clos 112 [] [])) [.tmp 13], none⟩,
    ⟨(some 15), .bin .lss (.tmp 14) (.val (.int .i64 0)), none⟩,
    ⟨(some 11), .mov (.tmp 15), none⟩])
  (.cond (.tmp 11) (.seq (.region [⟨(some 4), .mov (.val (.int .i64 4)), none⟩])
  .ret) (.seq (.qregion [⟨⟨(some 17), .faddr 3 (.tmp 2), none⟩, false, 0, 0, 0⟩,
    ⟨⟨(some 18), .load false 1 (.tmp 17), none⟩, false, 0, 0, 1⟩,
    ⟨⟨(some 19), .len false (.tmp 18), none⟩, false, 0, 0, 3⟩,
    ⟨⟨(some 20), .faddr 0 (.tmp 2), none⟩, false, 0, 0, 0⟩,
    ⟨⟨(some 21), .load false 1 (.tmp 20), none⟩, false, 0, 0, 8⟩,
    ⟨⟨(some 22), .call (.val (.clos 112 [] [])) [.tmp 21], none⟩, false, 0, 0, 24⟩,
    ⟨⟨(some 23), .bin .neq (.tmp 19) (.tmp 22), none⟩, false, 0, 0, 63⟩,
    ⟨⟨(some 24), .mov (.tmp 23), none⟩, false, 0, 0, 127⟩,
    ⟨⟨(some 25), .faddr 0 (.tmp 2), (some (24, false))⟩, false, 0, 0, 255⟩,
    ⟨⟨(some 26), .load false 1 (.tmp 25), (some (24, false))⟩, false, 0, 0, 511⟩,
    ⟨⟨(some 27), .bin .neq (.tmp 26) (.val (.int .i64 1)), (some (24, false))⟩, false, 0, 0, 1023⟩,
    ⟨⟨(some 28), .mov (.tmp 27), (some (24, false))⟩, false, 0, 0, 2047⟩,
    ⟨⟨(some 29), .faddr 1 (.tmp 2), (some (28, true))⟩, false, 0, 0, 4095⟩,
    ⟨⟨(some 30), .load false 1 (.tmp 29), (some (28, true))⟩, false, 0, 0, 8191⟩,
    ⟨⟨(some 31), .bin .neq (.tmp 30) (.val (.int .i64 0)), (some (28, true))⟩, false, 0, 0, 16383⟩,
    ⟨⟨(some 32), .pick (.tmp 28) (.tmp 31) (.val (.bool false)), (some (24, false))⟩, false, 0, 0, 32767⟩,
    ⟨⟨(some 33), .pick (.tmp 24) (.val (.bool true)) (.tmp 32), none⟩, false, 0, 0, 65535⟩,
    ⟨⟨(some 34), .mov (.tmp 33), none⟩, false, 0, 0, 131071⟩,
    ⟨⟨(some 35), .faddr 0 (.tmp 2), (some (34, false))⟩, false, 0, 0, 262143⟩,
    ⟨⟨(some 36), .load false 1 (.tmp 35), (some (34, false))⟩, false, 0, 0, 524287⟩,
    ⟨⟨(some 37), .bin .neq (.tmp 36) (.val (.int .i64 2)), (some (34, false))⟩, false, 0, 0, 1048575⟩,
    ⟨⟨(some 38), .mov (.tmp 37), (some (34, false))⟩, false, 0, 0, 2097151⟩,
    ⟨⟨(some 39), .faddr 2 (.tmp 2), (some (38, true))⟩, false, 0, 0, 4194303⟩,
    ⟨⟨(some 40), .load false 1 (.tmp 39), (some (38, true))⟩, false, 0, 0, 8388607⟩,
    ⟨⟨(some 41), .bin .neq (.tmp 40) (.val (.str ⟨#[]⟩)), (some (38, true))⟩, false, 0, 0, 16777215⟩,
    ⟨⟨(some 42), .pick (.tmp 38) (.tmp 41) (.val (.bool false)), (some (34, false))⟩, false, 0, 0, 33554431⟩,
    ⟨⟨(some 43), .pick (.tmp 34) (.val (.bool true)) (.tmp 42), none⟩, false, 0, 0, 67108863⟩,
    ⟨⟨(some 16), .mov (.tmp 43), none⟩, false, 0, 0, 134217727⟩])
  (.cond (.tmp 16) (.seq (.region [⟨(some 4), .mov (.val (.int .i64 3)), none⟩])
  .ret) (.seq (.region [⟨(some 45), .faddr 1 (.tmp 2), none⟩,
    ⟨(some 46), .load false 1 (.tmp 45), none⟩,
    ⟨(some 47), .call (.val (.clos 86 [] [])) [.tmp 46, .val (.int .i64 0), .val (.int .i64 999)], none⟩,
    ⟨(some 44), .mov (.tmp 47), none⟩])
  (.cond (.tmp 44) (.seq (.region [⟨(some 4), .mov (.val (.int .i64 1)), none⟩])
  .ret) (.seq (.region [⟨(some 49), .faddr 0 (.tmp 2), none⟩,
    ⟨(some 50), .load false 1 (.tmp 49), none⟩,
    ⟨(some 51), .bin .eql (.tmp 50) (.val (.int .i64 2)), none⟩,
    ⟨(some 52), .mov (.tmp 51), none⟩,
    ⟨(some 53), .faddr 2 (.tmp 2), (some (52, true))⟩,
    ⟨(some 54), .load false 1 (.tmp 53), (some (52, true))⟩,
    ⟨(some 55), .call (.val (.clos 72 [] [])) [.tmp 54], (some (52, true))⟩,
    ⟨(some 56), .un .not (.tmp 55), (some (52, true))⟩,
    ⟨(some 57), .pick (.tmp 52) (.tmp 56) (.val (.bool false)), none⟩,
    ⟨(some 48), .mov (.tmp 57), none⟩])
  (.cond (.tmp 48) (.seq (.region [⟨(some 4), .mov (.val (.int .i64 5)), none⟩])
  .ret) .skip)))))))))))
  (.seq (.seq (.region [⟨(some 58), .faddr 3 (.tmp 2), none⟩,
    ⟨(some 59), .load false 1 (.tmp 58), none⟩,
    ⟨(some 60), .len false (.tmp 59), none⟩,
    ⟨(some 61), .mov (.val (.int .i64 0)), none⟩])
  (.block 1 (.loop (.seq (.region [⟨(some 62), .bin .lss (.tmp 61) (.tmp 60), none⟩])
  (.seq (.cond (.tmp 62) .skip (.exit 1))
  (.seq (.block 2 (.seq (.region [⟨(some 63), .iaddr 4 (.tmp 59) (.tmp 61), none⟩,
    ⟨(some 64), .load true 4 (.tmp 63), none⟩,
    ⟨(some 6), .alloc (.agg [.int .i64 0, .int .i64 0, .str ⟨#[]⟩, .nils]), none⟩,
    ⟨none, .store 4 (.tmp 6) (.tmp 64), none⟩])
  (.seq (.region [⟨(some 65), .load true 4 (.tmp 6), none⟩,
    ⟨(some 66), .mov (.tmp 1), none⟩,
    ⟨(some 67), .bin .add (.tmp 66) (.val (.int .i64 1)), none⟩,
    ⟨(some 68), .call (.val (.clos 105 [] [])) [.tmp 65, .tmp 67], none⟩,
    ⟨(some 7), .mov (.tmp 68), none⟩])
  (.seq (.region [⟨(some 69), .mov (.tmp 7), none⟩,
    ⟨(some 70), .bin .neq (.tmp 69) (.val (.int .i64 0)), none⟩])
  (.cond (.tmp 70) (.seq (.region [⟨(some 71), .mov (.tmp 7), none⟩,
    ⟨(some 4), .mov (.tmp 71), none⟩])
  .ret) .skip)))))
  (.region [⟨(some 72), .bin .add (.tmp 61) (.val (.int .i64 1)), none⟩,
    ⟨(some 61), .mov (.tmp 72), none⟩])))))))
  (.seq (.region [⟨(some 4), .mov (.val (.int .i64 0)), none⟩])
  .ret))))
def r105 : List SRes := [.tmp 4]
theorem c105 : Code1 Tryz.prog 105 s105 r105 73 :=
  ⟨⟨Tryz.f105, _, Tryz.func105, rfl, rfl, by kernel_rfl, by kernel_rfl⟩, by kernel_rfl, by kernel_rfl⟩
def s106 : SCode :=
  (.seq (.region [⟨(some 2), .mov (.val (.bool false)), none⟩])
  (.seq (.region [⟨(some 3), .mov (.tmp 0), none⟩,
    ⟨(some 4), .call (.val (.clos 72 [] [])) [.tmp 3], none⟩,
    ⟨(some 5), .un .not (.tmp 4), none⟩,
    ⟨(some 2), .mov (.tmp 5), none⟩])
  .ret))
def r106 : List SRes := [.tmp 2]
theorem c106 : Code1 Tryz.prog 106 s106 r106 6 :=
  ⟨⟨Tryz.f106, _, Tryz.func106, rfl, rfl, by kernel_rfl, by kernel_rfl⟩, by kernel_rfl, by kernel_rfl⟩
def s107 : SCode :=
  (.seq (.region [⟨(some 2), .mov (.val (.int .i64 0)), none⟩])
  (.seq (.seq (.region [⟨(some 3), .mov (.tmp 0), none⟩,
    ⟨(some 4), .call (.val (.clos 31 [] [])) [.tmp 3, .val (.int .i64 1), .val (.int .i64 9)], none⟩,
    ⟨(some 5), .un .not (.tmp 4), none⟩])
  (.cond (.tmp 5) (.seq (.region [⟨(some 2), .mov (.val (.int .i64 (-1))), none⟩])
  .ret) .skip))
  (.seq (.region [⟨(some 6), .buildF 1 [.val (.int .i64 0), .val (.int .i64 0), .val (.int .i64 2), .val (.int .i64 2), .val (.int .i64 2), .val (.int .i64 2), .val (.int .i64 2), .val (.int .i64 1), .val (.int .i64 3)], none⟩,
    ⟨(some 7), .mov (.tmp 0), none⟩,
    ⟨(some 8), .bin .sub (.tmp 7) (.val (.int .i64 1)), none⟩,
    ⟨(some 9), .iaddr 1 (.tmp 6) (.tmp 8), none⟩,
    ⟨(some 10), .load false 1 (.tmp 9), none⟩,
    ⟨(some 2), .mov (.tmp 10), none⟩])
  .ret)))
def r107 : List SRes := [.tmp 2]
theorem c107 : Code1 Tryz.prog 107 s107 r107 11 :=
  ⟨⟨Tryz.f107, _, Tryz.func107, rfl, rfl, by kernel_rfl, by kernel_rfl⟩, by kernel_rfl, by kernel_rfl⟩
def s109 : SCode :=
  (.seq (.region [⟨(some 2), .mov (.val (.int .i32 0)), none⟩,
    ⟨(some 3), .mov (.val (.int .i64 0)), none⟩])
  (.seq (.seq (.region [⟨(some 4), .mov (.tmp 0), none⟩,
    ⟨(some 5), .bin .neq (.tmp 4) (.val (.str ⟨#[]⟩)), none⟩,
    ⟨(some 6), .mov (.tmp 5), none⟩,
    ⟨(some 7), .mov (.tmp 0), (some (6, true))⟩,
    ⟨(some 8), .sidx (.tmp 7) (.val (.int .i64 0)), (some (6, true))⟩,
    ⟨(some 9), .bin .lss (.tmp 8) (.val (.int .u8 128)), (some (6, true))⟩,
    ⟨(some 10), .pick (.tmp 6) (.tmp 9) (.val (.bool false)), none⟩])
  (.cond (.tmp 10) (.seq (.region [⟨(some 11), .mov (.tmp 0), none⟩,
    ⟨(some 12), .sidx (.tmp 11) (.val (.int .i64 0)), none⟩,
    ⟨(some 13), .conv .i32 (.tmp 12), none⟩,
    ⟨(some 2), .mov (.tmp 13), none⟩,
    ⟨(some 3), .mov (.val (.int .i64 1)), none⟩])
  .ret) (.region [⟨(some 15), .mov (.tmp 0), none⟩,
    ⟨(some 16), .call (.val (.clos 113 [] [])) [.tmp 15], none⟩,
    ⟨(some 14), .mov (.tmp 16), none⟩,
    ⟨(some 17), .extract (.tmp 14) 0, none⟩,
    ⟨(some 18), .extract (.tmp 14) 1, none⟩,
    ⟨(some 2), .mov (.tmp 17), none⟩,
    ⟨(some 3), .mov (.tmp 18), none⟩])))
  .ret))
def r109 : List SRes := [.tmp 2, .tmp 3]
theorem c109 : Code1 Tryz.prog 109 s109 r109 19 :=
  ⟨⟨Tryz.f109, _, Tryz.func109, rfl, rfl, by kernel_rfl, by kernel_rfl⟩, by kernel_rfl, by kernel_rfl⟩
def s110 : SCode :=
  (.seq (.region [⟨(some 4), .mov (.val (.bool false)), none⟩])
  (.seq (.region [⟨(some 5), .mov (.tmp 0), none⟩,
    ⟨(some 6), .mov (.tmp 1), none⟩,
    ⟨(some 7), .call (.val (.clos 114 [] [])) [.tmp 5, .tmp 6], none⟩,
    ⟨(some 8), .bin .geq (.tmp 7) (.val (.int .i64 0)), none⟩,
    ⟨(some 4), .mov (.tmp 8), none⟩])
  .ret))
def r110 : List SRes := [.tmp 4]
theorem c110 : Code1 Tryz.prog 110 s110 r110 9 :=
  ⟨⟨Tryz.f110, _, Tryz.func110, rfl, rfl, by kernel_rfl, by kernel_rfl⟩, by kernel_rfl, by kernel_rfl⟩
def s112 : SCode :=
  (.seq (.region [⟨(some 2), .mov (.val (.int .i64 0)), none⟩])
  (.seq (.block 0 (.seq (.region [⟨(some 4), .mov (.tmp 0), none⟩,
    ⟨(some 5), .call (.val (.clos 86 [] [])) [.tmp 4, .val (.int .i64 1), .val (.int .i64 9)], none⟩,
    ⟨(some 3), .mov (.tmp 5), none⟩])
  (.cond (.tmp 3) (.seq (.region [⟨(some 2), .mov (.val (.int .i64 (-1))), none⟩])
  .ret) (.seq (.region [⟨(some 7), .mov (.tmp 0), none⟩,
    ⟨(some 8), .bin .leq (.tmp 7) (.val (.int .i64 2)), none⟩,
    ⟨(some 6), .mov (.tmp 8), none⟩])
  (.cond (.tmp 6) (.seq (.region [⟨(some 2), .mov (.val (.int .i64 0)), none⟩])
  .ret) (.seq (.region [⟨(some 10), .mov (.tmp 0), none⟩,
    ⟨(some 11), .bin .eql (.tmp 10) (.val (.int .i64 8)), none⟩,
    ⟨(some 9), .mov (.tmp 11), none⟩])
  (.cond (.tmp 9) (.seq (.region [⟨(some 2), .mov (.val (.int .i64 1)), none⟩])
  .ret) (.seq (.region [⟨(some 13), .mov (.tmp 0), none⟩,
    ⟨(some 14), .bin .eql (.tmp 13) (.val (.int .i64 9)), none⟩,
    ⟨(some 12), .mov (.tmp 14), none⟩])
  (.cond (.tmp 12) (.seq (.region [⟨(some 2), .mov (.val (.int .i64 3)), none⟩])
  .ret) .skip)))))))))
  (.seq (.region [⟨(some 2), .mov (.val (.int .i64 2)), none⟩])
  .ret)))
def r112 : List SRes := [.tmp 2]
theorem c112 : Code1 Tryz.prog 112 s112 r112 15 :=
  ⟨⟨Tryz.f112, _, Tryz.func112, rfl, rfl, by kernel_rfl, by kernel_rfl⟩, by kernel_rfl, by kernel_rfl⟩
def s115 : SCode :=
  (.seq (.region [⟨(some 2), .mov (.val (.bool false)), none⟩])
  (.seq (.region [⟨(some 3), .mov (.tmp 0), none⟩,
    ⟨(some 4), .bin .and (.tmp 3) (.val (.int .u8 192)), none⟩,
    ⟨(some 5), .bin .neq (.tmp 4) (.val (.int .u8 128)), none⟩,
    ⟨(some 2), .mov (.tmp 5), none⟩])
  .ret))
def r115 : List SRes := [.tmp 2]
theorem c115 : Code1 Tryz.prog 115 s115 r115 6 :=
  ⟨⟨Tryz.f115, _, Tryz.func115, rfl, rfl, by kernel_rfl, by kernel_rfl⟩, by kernel_rfl, by kernel_rfl⟩
def s116 : SCode :=
  (.seq (.region [⟨(some 2), .mov (.val (.bool false)), none⟩])
  (.seq (.block 0 (.seq (.region [⟨(some 4), .mov (.tmp 0), none⟩,
    ⟨(some 5), .bin .leq (.val (.int .i32 0)) (.tmp 4), none⟩,
    ⟨(some 6), .mov (.tmp 5), none⟩,
    ⟨(some 7), .mov (.tmp 0), (some (6, true))⟩,
    ⟨(some 8), .bin .lss (.tmp 7) (.val (.int .i32 55296)), (some (6, true))⟩,
    ⟨(some 9), .pick (.tmp 6) (.tmp 8) (.val (.bool false)), none⟩,
    ⟨(some 3), .mov (.tmp 9), none⟩])
  (.cond (.tmp 3) (.seq (.region [⟨(some 2), .mov (.val (.bool true)), none⟩])
  .ret) (.seq (.region [⟨(some 11), .mov (.tmp 0), none⟩,
    ⟨(some 12), .bin .lss (.val (.int .i32 57343)) (.tmp 11), none⟩,
    ⟨(some 13), .mov (.tmp 12), none⟩,
    ⟨(some 14), .mov (.tmp 0), (some (13, true))⟩,
    ⟨(some 15), .bin .leq (.tmp 14) (.val (.int .i32 1114111)), (some (13, true))⟩,
    ⟨(some 16), .pick (.tmp 13) (.tmp 15) (.val (.bool false)), none⟩,
    ⟨(some 10), .mov (.tmp 16), none⟩])
  (.cond (.tmp 10) (.seq (.region [⟨(some 2), .mov (.val (.bool true)), none⟩])
  .ret) .skip)))))
  (.seq (.region [⟨(some 2), .mov (.val (.bool false)), none⟩])
  .ret)))
def r116 : List SRes := [.tmp 2]
theorem c116 : Code1 Tryz.prog 116 s116 r116 17 :=
  ⟨⟨Tryz.f116, _, Tryz.func116, rfl, rfl, by kernel_rfl, by kernel_rfl⟩, by kernel_rfl, by kernel_rfl⟩
def s117 : SCode :=
  (.seq (.region [⟨(some 2), .mov (.val (.int .i64 0)), none⟩])
  (.seq (.region [⟨(some 3), .mov (.tmp 0), none⟩,
    ⟨(some 4), .bin .add (.tmp 3) (.val (.int .i64 16)), none⟩,
    ⟨(some 5), .bin .quo (.tmp 4) (.val (.int .i64 8)), none⟩,
    ⟨(some 2), .mov (.tmp 5), none⟩])
  .ret))
def r117 : List SRes := [.tmp 2]
theorem c117 : Code1 Tryz.prog 117 s117 r117 6 :=
  ⟨⟨Tryz.f117, _, Tryz.func117, rfl, rfl, by kernel_rfl, by kernel_rfl⟩, by kernel_rfl, by kernel_rfl⟩
end Go.Proofs.YteoboibjepokoaaGreatDoor.Av
