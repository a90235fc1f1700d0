/- Facts on types and functions of the program, written by a program of ours. Plain data of the proofs: terms, and what the functions of package term compute of them. No program in sight. -/
import Derived.Test.YtmeekpinkfpnhabP05
import Derived.Test.YtmeekpinkfpnhabP06
import Derived.Test.YtmeekpinkfpnhabProg
set_option linter.unusedSimpArgs false
set_option linter.unusedSectionVars false
set_option linter.unusedVariables false
set_option linter.unnecessarySimpa false
set_option linter.all false
namespace Go.Proofs.Ytmeekpinkfpnhab
open Go.RowKit
@[go_sem] theorem ty0_has : hasT Try.prog 0 = true := by kernel_rfl
@[go_sem] theorem ty0_agg : aggT Try.prog 0 = false := by kernel_rfl
@[go_sem] theorem ty0_sz : szT Try.prog 0 = 1 := by kernel_rfl
@[go_sem] theorem ty0_sl : slT Try.prog 0 = false := by kernel_rfl
@[go_sem] theorem ty0_str : strT Try.prog 0 = false := by kernel_rfl
@[go_sem] theorem ty0_zok : zeroOk Try.prog 0 = false := by kernel_rfl
@[go_sem] theorem ty0_by : bytesT Try.prog 0 = 0 := by kernel_rfl
@[go_sem] theorem ty0_ar : arT Try.prog 0 = none := by kernel_rfl
@[go_sem] theorem ty0_pl : placesL Try.prog 0 = none := by kernel_rfl
@[go_sem] theorem ty3_has : hasT Try.prog 3 = true := by kernel_rfl
@[go_sem] theorem ty3_agg : aggT Try.prog 3 = false := by kernel_rfl
@[go_sem] theorem ty3_sz : szT Try.prog 3 = 1 := by kernel_rfl
@[go_sem] theorem ty3_sl : slT Try.prog 3 = false := by kernel_rfl
@[go_sem] theorem ty3_str : strT Try.prog 3 = false := by kernel_rfl
@[go_sem] theorem ty3_zok : zeroOk Try.prog 3 = true := by kernel_rfl
@[go_sem] theorem ty3_by : bytesT Try.prog 3 = 8 := by kernel_rfl
@[go_sem] theorem ty3_ar : arT Try.prog 3 = none := by kernel_rfl
@[go_sem] theorem ty3_pl : placesL Try.prog 3 = none := by kernel_rfl
@[go_sem] theorem ty3_z : zeroAV Try.prog 3 = [.d (.v (.int .i64 0))] := by kernel_rfl
@[go_sem] theorem ty4_has : hasT Try.prog 4 = true := by kernel_rfl
@[go_sem] theorem ty4_agg : aggT Try.prog 4 = false := by kernel_rfl
@[go_sem] theorem ty4_sz : szT Try.prog 4 = 1 := by kernel_rfl
@[go_sem] theorem ty4_sl : slT Try.prog 4 = false := by kernel_rfl
@[go_sem] theorem ty4_str : strT Try.prog 4 = false := by kernel_rfl
@[go_sem] theorem ty4_zok : zeroOk Try.prog 4 = true := by kernel_rfl
@[go_sem] theorem ty4_by : bytesT Try.prog 4 = 1 := by kernel_rfl
@[go_sem] theorem ty4_ar : arT Try.prog 4 = none := by kernel_rfl
@[go_sem] theorem ty4_pl : placesL Try.prog 4 = none := by kernel_rfl
@[go_sem] theorem ty4_z : zeroAV Try.prog 4 = [.d (.v (.bool false))] := by kernel_rfl
@[go_sem] theorem ty22_has : hasT Try.prog 22 = true := by kernel_rfl
@[go_sem] theorem ty22_agg : aggT Try.prog 22 = false := by kernel_rfl
@[go_sem] theorem ty22_sz : szT Try.prog 22 = 1 := by kernel_rfl
@[go_sem] theorem ty22_sl : slT Try.prog 22 = true := by kernel_rfl
@[go_sem] theorem ty22_str : strT Try.prog 22 = false := by kernel_rfl
@[go_sem] theorem ty22_zok : zeroOk Try.prog 22 = true := by kernel_rfl
@[go_sem] theorem ty22_by : bytesT Try.prog 22 = 24 := by kernel_rfl
@[go_sem] theorem ty22_el : elT Try.prog 22 = 3 := by kernel_rfl
@[go_sem] theorem ty22_ar : arT Try.prog 22 = none := by kernel_rfl
@[go_sem] theorem ty22_pl : placesL Try.prog 22 = none := by kernel_rfl
@[go_sem] theorem ty22_z : zeroAV Try.prog 22 = [.nil] := by kernel_rfl
@[go_sem] theorem ty24_has : hasT Try.prog 24 = true := by kernel_rfl
@[go_sem] theorem ty24_agg : aggT Try.prog 24 = true := by kernel_rfl
@[go_sem] theorem ty24_sz : szT Try.prog 24 = 1 := by kernel_rfl
@[go_sem] theorem ty24_sl : slT Try.prog 24 = false := by kernel_rfl
@[go_sem] theorem ty24_str : strT Try.prog 24 = false := by kernel_rfl
@[go_sem] theorem ty24_zok : zeroOk Try.prog 24 = true := by kernel_rfl
@[go_sem] theorem ty24_by : bytesT Try.prog 24 = 24 := by kernel_rfl
@[go_sem] theorem ty24_ar : arT Try.prog 24 = none := by kernel_rfl
@[go_sem] theorem ty24_pl : placesL Try.prog 24 = some [(0, 1)] := by kernel_rfl
@[go_sem] theorem ty24_f0 : fldT Try.prog 24 0 = some (0, 22) := by kernel_rfl
@[go_sem] theorem ty24_z : zeroAV Try.prog 24 = [.nil] := by kernel_rfl
@[go_sem] theorem ty25_has : hasT Try.prog 25 = true := by kernel_rfl
@[go_sem] theorem ty25_agg : aggT Try.prog 25 = false := by kernel_rfl
@[go_sem] theorem ty25_sz : szT Try.prog 25 = 1 := by kernel_rfl
@[go_sem] theorem ty25_sl : slT Try.prog 25 = true := by kernel_rfl
@[go_sem] theorem ty25_str : strT Try.prog 25 = false := by kernel_rfl
@[go_sem] theorem ty25_zok : zeroOk Try.prog 25 = true := by kernel_rfl
@[go_sem] theorem ty25_by : bytesT Try.prog 25 = 24 := by kernel_rfl
@[go_sem] theorem ty25_el : elT Try.prog 25 = 69 := by kernel_rfl
@[go_sem] theorem ty25_ar : arT Try.prog 25 = none := by kernel_rfl
@[go_sem] theorem ty25_pl : placesL Try.prog 25 = none := by kernel_rfl
@[go_sem] theorem ty25_z : zeroAV Try.prog 25 = [.nil] := by kernel_rfl
@[go_sem] theorem ty26_has : hasT Try.prog 26 = true := by kernel_rfl
@[go_sem] theorem ty26_agg : aggT Try.prog 26 = false := by kernel_rfl
@[go_sem] theorem ty26_sz : szT Try.prog 26 = 1 := by kernel_rfl
@[go_sem] theorem ty26_sl : slT Try.prog 26 = true := by kernel_rfl
@[go_sem] theorem ty26_str : strT Try.prog 26 = false := by kernel_rfl
@[go_sem] theorem ty26_zok : zeroOk Try.prog 26 = true := by kernel_rfl
@[go_sem] theorem ty26_by : bytesT Try.prog 26 = 24 := by kernel_rfl
@[go_sem] theorem ty26_el : elT Try.prog 26 = 28 := by kernel_rfl
@[go_sem] theorem ty26_ar : arT Try.prog 26 = none := by kernel_rfl
@[go_sem] theorem ty26_pl : placesL Try.prog 26 = none := by kernel_rfl
@[go_sem] theorem ty26_z : zeroAV Try.prog 26 = [.nil] := by kernel_rfl
@[go_sem] theorem ty28_has : hasT Try.prog 28 = true := by kernel_rfl
@[go_sem] theorem ty28_agg : aggT Try.prog 28 = true := by kernel_rfl
@[go_sem] theorem ty28_sz : szT Try.prog 28 = 3 := by kernel_rfl
@[go_sem] theorem ty28_sl : slT Try.prog 28 = false := by kernel_rfl
@[go_sem] theorem ty28_str : strT Try.prog 28 = false := by kernel_rfl
@[go_sem] theorem ty28_zok : zeroOk Try.prog 28 = true := by kernel_rfl
@[go_sem] theorem ty28_by : bytesT Try.prog 28 = 40 := by kernel_rfl
@[go_sem] theorem ty28_ar : arT Try.prog 28 = none := by kernel_rfl
@[go_sem] theorem ty28_pl : placesL Try.prog 28 = some [(0, 1), (1, 1), (2, 1)] := by kernel_rfl
@[go_sem] theorem ty28_f0 : fldT Try.prog 28 0 = some (0, 3) := by kernel_rfl
@[go_sem] theorem ty28_f1 : fldT Try.prog 28 1 = some (1, 3) := by kernel_rfl
@[go_sem] theorem ty28_f2 : fldT Try.prog 28 2 = some (2, 26) := by kernel_rfl
@[go_sem] theorem ty28_z : zeroAV Try.prog 28 = [.d (.v (.int .i64 0)), .d (.v (.int .i64 0)), .nil] := by kernel_rfl
@[go_sem] theorem ty29_has : hasT Try.prog 29 = true := by kernel_rfl
@[go_sem] theorem ty29_agg : aggT Try.prog 29 = false := by kernel_rfl
@[go_sem] theorem ty29_sz : szT Try.prog 29 = 1 := by kernel_rfl
@[go_sem] theorem ty29_sl : slT Try.prog 29 = false := by kernel_rfl
@[go_sem] theorem ty29_str : strT Try.prog 29 = false := by kernel_rfl
@[go_sem] theorem ty29_zok : zeroOk Try.prog 29 = true := by kernel_rfl
@[go_sem] theorem ty29_by : bytesT Try.prog 29 = 8 := by kernel_rfl
@[go_sem] theorem ty29_ar : arT Try.prog 29 = none := by kernel_rfl
@[go_sem] theorem ty29_pl : placesL Try.prog 29 = none := by kernel_rfl
@[go_sem] theorem ty29_z : zeroAV Try.prog 29 = [.d (.v (.int .i64 0))] := by kernel_rfl
@[go_sem] theorem ty48_has : hasT Try.prog 48 = true := by kernel_rfl
@[go_sem] theorem ty48_agg : aggT Try.prog 48 = false := by kernel_rfl
@[go_sem] theorem ty48_sz : szT Try.prog 48 = 1 := by kernel_rfl
@[go_sem] theorem ty48_sl : slT Try.prog 48 = false := by kernel_rfl
@[go_sem] theorem ty48_str : strT Try.prog 48 = false := by kernel_rfl
@[go_sem] theorem ty48_zok : zeroOk Try.prog 48 = true := by kernel_rfl
@[go_sem] theorem ty48_by : bytesT Try.prog 48 = 8 := by kernel_rfl
@[go_sem] theorem ty48_ar : arT Try.prog 48 = none := by kernel_rfl
@[go_sem] theorem ty48_pl : placesL Try.prog 48 = none := by kernel_rfl
@[go_sem] theorem ty48_z : zeroAV Try.prog 48 = [.d (.v (.nilFunc))] := by kernel_rfl
@[go_sem] theorem ty50_has : hasT Try.prog 50 = true := by kernel_rfl
@[go_sem] theorem ty50_agg : aggT Try.prog 50 = false := by kernel_rfl
@[go_sem] theorem ty50_sz : szT Try.prog 50 = 1 := by kernel_rfl
@[go_sem] theorem ty50_sl : slT Try.prog 50 = true := by kernel_rfl
@[go_sem] theorem ty50_str : strT Try.prog 50 = false := by kernel_rfl
@[go_sem] theorem ty50_zok : zeroOk Try.prog 50 = true := by kernel_rfl
@[go_sem] theorem ty50_by : bytesT Try.prog 50 = 24 := by kernel_rfl
@[go_sem] theorem ty50_el : elT Try.prog 50 = 61 := by kernel_rfl
@[go_sem] theorem ty50_ar : arT Try.prog 50 = none := by kernel_rfl
@[go_sem] theorem ty50_pl : placesL Try.prog 50 = none := by kernel_rfl
@[go_sem] theorem ty50_z : zeroAV Try.prog 50 = [.nil] := by kernel_rfl
@[go_sem] theorem ty51_has : hasT Try.prog 51 = true := by kernel_rfl
@[go_sem] theorem ty51_agg : aggT Try.prog 51 = false := by kernel_rfl
@[go_sem] theorem ty51_sz : szT Try.prog 51 = 1 := by kernel_rfl
@[go_sem] theorem ty51_sl : slT Try.prog 51 = true := by kernel_rfl
@[go_sem] theorem ty51_str : strT Try.prog 51 = false := by kernel_rfl
@[go_sem] theorem ty51_zok : zeroOk Try.prog 51 = true := by kernel_rfl
@[go_sem] theorem ty51_by : bytesT Try.prog 51 = 24 := by kernel_rfl
@[go_sem] theorem ty51_el : elT Try.prog 51 = 93 := by kernel_rfl
@[go_sem] theorem ty51_ar : arT Try.prog 51 = none := by kernel_rfl
@[go_sem] theorem ty51_pl : placesL Try.prog 51 = none := by kernel_rfl
@[go_sem] theorem ty51_z : zeroAV Try.prog 51 = [.nil] := by kernel_rfl
@[go_sem] theorem ty52_has : hasT Try.prog 52 = true := by kernel_rfl
@[go_sem] theorem ty52_agg : aggT Try.prog 52 = false := by kernel_rfl
@[go_sem] theorem ty52_sz : szT Try.prog 52 = 1 := by kernel_rfl
@[go_sem] theorem ty52_sl : slT Try.prog 52 = true := by kernel_rfl
@[go_sem] theorem ty52_str : strT Try.prog 52 = false := by kernel_rfl
@[go_sem] theorem ty52_zok : zeroOk Try.prog 52 = true := by kernel_rfl
@[go_sem] theorem ty52_by : bytesT Try.prog 52 = 24 := by kernel_rfl
@[go_sem] theorem ty52_el : elT Try.prog 52 = 22 := by kernel_rfl
@[go_sem] theorem ty52_ar : arT Try.prog 52 = none := by kernel_rfl
@[go_sem] theorem ty52_pl : placesL Try.prog 52 = none := by kernel_rfl
@[go_sem] theorem ty52_z : zeroAV Try.prog 52 = [.nil] := by kernel_rfl
@[go_sem] theorem ty54_has : hasT Try.prog 54 = true := by kernel_rfl
@[go_sem] theorem ty54_agg : aggT Try.prog 54 = true := by kernel_rfl
@[go_sem] theorem ty54_sz : szT Try.prog 54 = 2 := by kernel_rfl
@[go_sem] theorem ty54_sl : slT Try.prog 54 = false := by kernel_rfl
@[go_sem] theorem ty54_str : strT Try.prog 54 = false := by kernel_rfl
@[go_sem] theorem ty54_zok : zeroOk Try.prog 54 = true := by kernel_rfl
@[go_sem] theorem ty54_by : bytesT Try.prog 54 = 32 := by kernel_rfl
@[go_sem] theorem ty54_ar : arT Try.prog 54 = none := by kernel_rfl
@[go_sem] theorem ty54_pl : placesL Try.prog 54 = some [(0, 1), (1, 1)] := by kernel_rfl
@[go_sem] theorem ty54_f0 : fldT Try.prog 54 0 = some (0, 3) := by kernel_rfl
@[go_sem] theorem ty54_f1 : fldT Try.prog 54 1 = some (1, 52) := by kernel_rfl
@[go_sem] theorem ty54_z : zeroAV Try.prog 54 = [.d (.v (.int .i64 0)), .nil] := by kernel_rfl
@[go_sem] theorem ty61_has : hasT Try.prog 61 = true := by kernel_rfl
@[go_sem] theorem ty61_agg : aggT Try.prog 61 = false := by kernel_rfl
@[go_sem] theorem ty61_sz : szT Try.prog 61 = 1 := by kernel_rfl
@[go_sem] theorem ty61_sl : slT Try.prog 61 = true := by kernel_rfl
@[go_sem] theorem ty61_str : strT Try.prog 61 = false := by kernel_rfl
@[go_sem] theorem ty61_zok : zeroOk Try.prog 61 = true := by kernel_rfl
@[go_sem] theorem ty61_by : bytesT Try.prog 61 = 24 := by kernel_rfl
@[go_sem] theorem ty61_el : elT Try.prog 61 = 91 := by kernel_rfl
@[go_sem] theorem ty61_ar : arT Try.prog 61 = none := by kernel_rfl
@[go_sem] theorem ty61_pl : placesL Try.prog 61 = none := by kernel_rfl
@[go_sem] theorem ty61_z : zeroAV Try.prog 61 = [.nil] := by kernel_rfl
@[go_sem] theorem ty69_has : hasT Try.prog 69 = true := by kernel_rfl
@[go_sem] theorem ty69_agg : aggT Try.prog 69 = true := by kernel_rfl
@[go_sem] theorem ty69_sz : szT Try.prog 69 = 4 := by kernel_rfl
@[go_sem] theorem ty69_sl : slT Try.prog 69 = false := by kernel_rfl
@[go_sem] theorem ty69_str : strT Try.prog 69 = false := by kernel_rfl
@[go_sem] theorem ty69_zok : zeroOk Try.prog 69 = true := by kernel_rfl
@[go_sem] theorem ty69_by : bytesT Try.prog 69 = 48 := by kernel_rfl
@[go_sem] theorem ty69_ar : arT Try.prog 69 = none := by kernel_rfl
@[go_sem] theorem ty69_pl : placesL Try.prog 69 = some [(0, 1), (1, 3)] := by kernel_rfl
@[go_sem] theorem ty69_f0 : fldT Try.prog 69 0 = some (0, 3) := by kernel_rfl
@[go_sem] theorem ty69_f1 : fldT Try.prog 69 1 = some (1, 28) := by kernel_rfl
@[go_sem] theorem ty69_z : zeroAV Try.prog 69 = [.d (.v (.int .i64 0)), .d (.v (.int .i64 0)), .d (.v (.int .i64 0)), .nil] := by kernel_rfl
@[go_sem] theorem ty71_has : hasT Try.prog 71 = true := by kernel_rfl
@[go_sem] theorem ty71_agg : aggT Try.prog 71 = false := by kernel_rfl
@[go_sem] theorem ty71_sz : szT Try.prog 71 = 1 := by kernel_rfl
@[go_sem] theorem ty71_sl : slT Try.prog 71 = false := by kernel_rfl
@[go_sem] theorem ty71_str : strT Try.prog 71 = false := by kernel_rfl
@[go_sem] theorem ty71_zok : zeroOk Try.prog 71 = true := by kernel_rfl
@[go_sem] theorem ty71_by : bytesT Try.prog 71 = 8 := by kernel_rfl
@[go_sem] theorem ty71_ar : arT Try.prog 71 = none := by kernel_rfl
@[go_sem] theorem ty71_pl : placesL Try.prog 71 = none := by kernel_rfl
@[go_sem] theorem ty71_z : zeroAV Try.prog 71 = [.d (.v (.map none))] := by kernel_rfl
@[go_sem] theorem ty87_has : hasT Try.prog 87 = true := by kernel_rfl
@[go_sem] theorem ty87_agg : aggT Try.prog 87 = true := by kernel_rfl
@[go_sem] theorem ty87_sz : szT Try.prog 87 = 6 := by kernel_rfl
@[go_sem] theorem ty87_sl : slT Try.prog 87 = false := by kernel_rfl
@[go_sem] theorem ty87_str : strT Try.prog 87 = false := by kernel_rfl
@[go_sem] theorem ty87_zok : zeroOk Try.prog 87 = true := by kernel_rfl
@[go_sem] theorem ty87_by : bytesT Try.prog 87 = 80 := by kernel_rfl
@[go_sem] theorem ty87_el : elT Try.prog 87 = 28 := by kernel_rfl
@[go_sem] theorem ty87_ar : arT Try.prog 87 = some 2 := by kernel_rfl
@[go_sem] theorem ty87_pl : placesL Try.prog 87 = none := by kernel_rfl
@[go_sem] theorem ty87_z : zeroAV Try.prog 87 = [.d (.v (.int .i64 0)), .d (.v (.int .i64 0)), .nil, .d (.v (.int .i64 0)), .d (.v (.int .i64 0)), .nil] := by kernel_rfl
@[go_sem] theorem ty88_has : hasT Try.prog 88 = true := by kernel_rfl
@[go_sem] theorem ty88_agg : aggT Try.prog 88 = false := by kernel_rfl
@[go_sem] theorem ty88_sz : szT Try.prog 88 = 1 := by kernel_rfl
@[go_sem] theorem ty88_sl : slT Try.prog 88 = true := by kernel_rfl
@[go_sem] theorem ty88_str : strT Try.prog 88 = false := by kernel_rfl
@[go_sem] theorem ty88_zok : zeroOk Try.prog 88 = true := by kernel_rfl
@[go_sem] theorem ty88_by : bytesT Try.prog 88 = 24 := by kernel_rfl
@[go_sem] theorem ty88_el : elT Try.prog 88 = 87 := by kernel_rfl
@[go_sem] theorem ty88_ar : arT Try.prog 88 = none := by kernel_rfl
@[go_sem] theorem ty88_pl : placesL Try.prog 88 = none := by kernel_rfl
@[go_sem] theorem ty88_z : zeroAV Try.prog 88 = [.nil] := by kernel_rfl
@[go_sem] theorem ty91_has : hasT Try.prog 91 = true := by kernel_rfl
@[go_sem] theorem ty91_agg : aggT Try.prog 91 = true := by kernel_rfl
@[go_sem] theorem ty91_sz : szT Try.prog 91 = 7 := by kernel_rfl
@[go_sem] theorem ty91_sl : slT Try.prog 91 = false := by kernel_rfl
@[go_sem] theorem ty91_str : strT Try.prog 91 = false := by kernel_rfl
@[go_sem] theorem ty91_zok : zeroOk Try.prog 91 = true := by kernel_rfl
@[go_sem] theorem ty91_by : bytesT Try.prog 91 = 88 := by kernel_rfl
@[go_sem] theorem ty91_ar : arT Try.prog 91 = none := by kernel_rfl
@[go_sem] theorem ty91_pl : placesL Try.prog 91 = some [(0, 1), (1, 3), (4, 3)] := by kernel_rfl
@[go_sem] theorem ty91_f0 : fldT Try.prog 91 0 = some (0, 4) := by kernel_rfl
@[go_sem] theorem ty91_f1 : fldT Try.prog 91 1 = some (1, 28) := by kernel_rfl
@[go_sem] theorem ty91_f2 : fldT Try.prog 91 2 = some (4, 28) := by kernel_rfl
@[go_sem] theorem ty91_z : zeroAV Try.prog 91 = [.d (.v (.bool false)), .d (.v (.int .i64 0)), .d (.v (.int .i64 0)), .nil, .d (.v (.int .i64 0)), .d (.v (.int .i64 0)), .nil] := by kernel_rfl
@[go_sem] theorem ty93_has : hasT Try.prog 93 = true := by kernel_rfl
@[go_sem] theorem ty93_agg : aggT Try.prog 93 = true := by kernel_rfl
@[go_sem] theorem ty93_sz : szT Try.prog 93 = 8 := by kernel_rfl
@[go_sem] theorem ty93_sl : slT Try.prog 93 = false := by kernel_rfl
@[go_sem] theorem ty93_str : strT Try.prog 93 = false := by kernel_rfl
@[go_sem] theorem ty93_zok : zeroOk Try.prog 93 = true := by kernel_rfl
@[go_sem] theorem ty93_by : bytesT Try.prog 93 = 72 := by kernel_rfl
@[go_sem] theorem ty93_ar : arT Try.prog 93 = none := by kernel_rfl
@[go_sem] theorem ty93_pl : placesL Try.prog 93 = some [(0, 1), (1, 1), (2, 1), (3, 1), (4, 1), (5, 1), (6, 1), (7, 1)] := by kernel_rfl
@[go_sem] theorem ty93_f0 : fldT Try.prog 93 0 = some (0, 3) := by kernel_rfl
@[go_sem] theorem ty93_f1 : fldT Try.prog 93 1 = some (1, 3) := by kernel_rfl
@[go_sem] theorem ty93_f2 : fldT Try.prog 93 2 = some (2, 3) := by kernel_rfl
@[go_sem] theorem ty93_f3 : fldT Try.prog 93 3 = some (3, 3) := by kernel_rfl
@[go_sem] theorem ty93_f4 : fldT Try.prog 93 4 = some (4, 3) := by kernel_rfl
@[go_sem] theorem ty93_f5 : fldT Try.prog 93 5 = some (5, 4) := by kernel_rfl
@[go_sem] theorem ty93_f6 : fldT Try.prog 93 6 = some (6, 4) := by kernel_rfl
@[go_sem] theorem ty93_f7 : fldT Try.prog 93 7 = some (7, 22) := by kernel_rfl
@[go_sem] theorem ty93_z : zeroAV Try.prog 93 = [.d (.v (.int .i64 0)), .d (.v (.int .i64 0)), .d (.v (.int .i64 0)), .d (.v (.int .i64 0)), .d (.v (.int .i64 0)), .d (.v (.bool false)), .d (.v (.bool false)), .nil] := by kernel_rfl
@[go_sem] theorem ty101_has : hasT Try.prog 101 = true := by kernel_rfl
@[go_sem] theorem ty101_agg : aggT Try.prog 101 = false := by kernel_rfl
@[go_sem] theorem ty101_sz : szT Try.prog 101 = 1 := by kernel_rfl
@[go_sem] theorem ty101_sl : slT Try.prog 101 = false := by kernel_rfl
@[go_sem] theorem ty101_str : strT Try.prog 101 = false := by kernel_rfl
@[go_sem] theorem ty101_zok : zeroOk Try.prog 101 = true := by kernel_rfl
@[go_sem] theorem ty101_by : bytesT Try.prog 101 = 8 := by kernel_rfl
@[go_sem] theorem ty101_ar : arT Try.prog 101 = none := by kernel_rfl
@[go_sem] theorem ty101_pl : placesL Try.prog 101 = none := by kernel_rfl
@[go_sem] theorem ty101_z : zeroAV Try.prog 101 = [.d (.v (.nilFunc))] := by kernel_rfl
@[go_sem] theorem ty105_has : hasT Try.prog 105 = true := by kernel_rfl
@[go_sem] theorem ty105_agg : aggT Try.prog 105 = false := by kernel_rfl
@[go_sem] theorem ty105_sz : szT Try.prog 105 = 1 := by kernel_rfl
@[go_sem] theorem ty105_sl : slT Try.prog 105 = false := by kernel_rfl
@[go_sem] theorem ty105_str : strT Try.prog 105 = false := by kernel_rfl
@[go_sem] theorem ty105_zok : zeroOk Try.prog 105 = true := by kernel_rfl
@[go_sem] theorem ty105_by : bytesT Try.prog 105 = 8 := by kernel_rfl
@[go_sem] theorem ty105_ar : arT Try.prog 105 = none := by kernel_rfl
@[go_sem] theorem ty105_pl : placesL Try.prog 105 = none := by kernel_rfl
@[go_sem] theorem ty105_z : zeroAV Try.prog 105 = [.d (.v (.map none))] := by kernel_rfl
@[go_sem] theorem ty106_has : hasT Try.prog 106 = true := by kernel_rfl
@[go_sem] theorem ty106_agg : aggT Try.prog 106 = false := by kernel_rfl
@[go_sem] theorem ty106_sz : szT Try.prog 106 = 1 := by kernel_rfl
@[go_sem] theorem ty106_sl : slT Try.prog 106 = false := by kernel_rfl
@[go_sem] theorem ty106_str : strT Try.prog 106 = false := by kernel_rfl
@[go_sem] theorem ty106_zok : zeroOk Try.prog 106 = true := by kernel_rfl
@[go_sem] theorem ty106_by : bytesT Try.prog 106 = 8 := by kernel_rfl
@[go_sem] theorem ty106_ar : arT Try.prog 106 = none := by kernel_rfl
@[go_sem] theorem ty106_pl : placesL Try.prog 106 = none := by kernel_rfl
@[go_sem] theorem ty106_z : zeroAV Try.prog 106 = [.d (.v (.nilFunc))] := by kernel_rfl
@[go_sem] theorem ty109_has : hasT Try.prog 109 = true := by kernel_rfl
@[go_sem] theorem ty109_agg : aggT Try.prog 109 = false := by kernel_rfl
@[go_sem] theorem ty109_sz : szT Try.prog 109 = 1 := by kernel_rfl
@[go_sem] theorem ty109_sl : slT Try.prog 109 = false := by kernel_rfl
@[go_sem] theorem ty109_str : strT Try.prog 109 = false := by kernel_rfl
@[go_sem] theorem ty109_zok : zeroOk Try.prog 109 = true := by kernel_rfl
@[go_sem] theorem ty109_by : bytesT Try.prog 109 = 8 := by kernel_rfl
@[go_sem] theorem ty109_ar : arT Try.prog 109 = none := by kernel_rfl
@[go_sem] theorem ty109_pl : placesL Try.prog 109 = none := by kernel_rfl
@[go_sem] theorem ty109_z : zeroAV Try.prog 109 = [.d (.v (.nilFunc))] := by kernel_rfl
@[go_sem] theorem ty113_has : hasT Try.prog 113 = true := by kernel_rfl
@[go_sem] theorem ty113_agg : aggT Try.prog 113 = false := by kernel_rfl
@[go_sem] theorem ty113_sz : szT Try.prog 113 = 1 := by kernel_rfl
@[go_sem] theorem ty113_sl : slT Try.prog 113 = false := by kernel_rfl
@[go_sem] theorem ty113_str : strT Try.prog 113 = false := by kernel_rfl
@[go_sem] theorem ty113_zok : zeroOk Try.prog 113 = true := by kernel_rfl
@[go_sem] theorem ty113_by : bytesT Try.prog 113 = 8 := by kernel_rfl
@[go_sem] theorem ty113_ar : arT Try.prog 113 = none := by kernel_rfl
@[go_sem] theorem ty113_pl : placesL Try.prog 113 = none := by kernel_rfl
@[go_sem] theorem ty113_z : zeroAV Try.prog 113 = [.d (.v (.nilFunc))] := by kernel_rfl
@[go_sem] theorem ty119_has : hasT Try.prog 119 = true := by kernel_rfl
@[go_sem] theorem ty119_agg : aggT Try.prog 119 = false := by kernel_rfl
@[go_sem] theorem ty119_sz : szT Try.prog 119 = 1 := by kernel_rfl
@[go_sem] theorem ty119_sl : slT Try.prog 119 = false := by kernel_rfl
@[go_sem] theorem ty119_str : strT Try.prog 119 = false := by kernel_rfl
@[go_sem] theorem ty119_zok : zeroOk Try.prog 119 = true := by kernel_rfl
@[go_sem] theorem ty119_by : bytesT Try.prog 119 = 8 := by kernel_rfl
@[go_sem] theorem ty119_ar : arT Try.prog 119 = none := by kernel_rfl
@[go_sem] theorem ty119_pl : placesL Try.prog 119 = none := by kernel_rfl
@[go_sem] theorem ty119_z : zeroAV Try.prog 119 = [.d (.v (.nilFunc))] := by kernel_rfl
@[go_sem] theorem ty120_has : hasT Try.prog 120 = true := by kernel_rfl
@[go_sem] theorem ty120_agg : aggT Try.prog 120 = false := by kernel_rfl
@[go_sem] theorem ty120_sz : szT Try.prog 120 = 1 := by kernel_rfl
@[go_sem] theorem ty120_sl : slT Try.prog 120 = false := by kernel_rfl
@[go_sem] theorem ty120_str : strT Try.prog 120 = false := by kernel_rfl
@[go_sem] theorem ty120_zok : zeroOk Try.prog 120 = true := by kernel_rfl
@[go_sem] theorem ty120_by : bytesT Try.prog 120 = 8 := by kernel_rfl
@[go_sem] theorem ty120_ar : arT Try.prog 120 = none := by kernel_rfl
@[go_sem] theorem ty120_pl : placesL Try.prog 120 = none := by kernel_rfl
@[go_sem] theorem ty120_z : zeroAV Try.prog 120 = [.d (.v (.pointer none))] := by kernel_rfl
@[go_sem] theorem ty122_has : hasT Try.prog 122 = true := by kernel_rfl
@[go_sem] theorem ty122_agg : aggT Try.prog 122 = true := by kernel_rfl
@[go_sem] theorem ty122_sz : szT Try.prog 122 = 1 := by kernel_rfl
@[go_sem] theorem ty122_sl : slT Try.prog 122 = false := by kernel_rfl
@[go_sem] theorem ty122_str : strT Try.prog 122 = false := by kernel_rfl
@[go_sem] theorem ty122_zok : zeroOk Try.prog 122 = true := by kernel_rfl
@[go_sem] theorem ty122_by : bytesT Try.prog 122 = 8 := by kernel_rfl
@[go_sem] theorem ty122_ar : arT Try.prog 122 = none := by kernel_rfl
@[go_sem] theorem ty122_pl : placesL Try.prog 122 = some [(0, 1)] := by kernel_rfl
@[go_sem] theorem ty122_f0 : fldT Try.prog 122 0 = some (0, 71) := by kernel_rfl
@[go_sem] theorem ty122_z : zeroAV Try.prog 122 = [.d (.v (.map none))] := by kernel_rfl
@[go_sem] theorem ty126_has : hasT Try.prog 126 = true := by kernel_rfl
@[go_sem] theorem ty126_agg : aggT Try.prog 126 = false := by kernel_rfl
@[go_sem] theorem ty126_sz : szT Try.prog 126 = 1 := by kernel_rfl
@[go_sem] theorem ty126_sl : slT Try.prog 126 = false := by kernel_rfl
@[go_sem] theorem ty126_str : strT Try.prog 126 = false := by kernel_rfl
@[go_sem] theorem ty126_zok : zeroOk Try.prog 126 = true := by kernel_rfl
@[go_sem] theorem ty126_by : bytesT Try.prog 126 = 8 := by kernel_rfl
@[go_sem] theorem ty126_ar : arT Try.prog 126 = none := by kernel_rfl
@[go_sem] theorem ty126_pl : placesL Try.prog 126 = none := by kernel_rfl
@[go_sem] theorem ty126_z : zeroAV Try.prog 126 = [.d (.v (.nilFunc))] := by kernel_rfl
@[go_sem] theorem ty133_has : hasT Try.prog 133 = true := by kernel_rfl
@[go_sem] theorem ty133_agg : aggT Try.prog 133 = false := by kernel_rfl
@[go_sem] theorem ty133_sz : szT Try.prog 133 = 1 := by kernel_rfl
@[go_sem] theorem ty133_sl : slT Try.prog 133 = false := by kernel_rfl
@[go_sem] theorem ty133_str : strT Try.prog 133 = false := by kernel_rfl
@[go_sem] theorem ty133_zok : zeroOk Try.prog 133 = true := by kernel_rfl
@[go_sem] theorem ty133_by : bytesT Try.prog 133 = 8 := by kernel_rfl
@[go_sem] theorem ty133_ar : arT Try.prog 133 = none := by kernel_rfl
@[go_sem] theorem ty133_pl : placesL Try.prog 133 = none := by kernel_rfl
@[go_sem] theorem ty133_z : zeroAV Try.prog 133 = [.d (.v (.nilFunc))] := by kernel_rfl
@[go_sem] theorem ty135_has : hasT Try.prog 135 = true := by kernel_rfl
@[go_sem] theorem ty135_agg : aggT Try.prog 135 = false := by kernel_rfl
@[go_sem] theorem ty135_sz : szT Try.prog 135 = 1 := by kernel_rfl
@[go_sem] theorem ty135_sl : slT Try.prog 135 = false := by kernel_rfl
@[go_sem] theorem ty135_str : strT Try.prog 135 = false := by kernel_rfl
@[go_sem] theorem ty135_zok : zeroOk Try.prog 135 = true := by kernel_rfl
@[go_sem] theorem ty135_by : bytesT Try.prog 135 = 8 := by kernel_rfl
@[go_sem] theorem ty135_ar : arT Try.prog 135 = none := by kernel_rfl
@[go_sem] theorem ty135_pl : placesL Try.prog 135 = none := by kernel_rfl
@[go_sem] theorem ty135_z : zeroAV Try.prog 135 = [.d (.v (.nilFunc))] := by kernel_rfl
@[go_sem] theorem ty137_has : hasT Try.prog 137 = true := by kernel_rfl
@[go_sem] theorem ty137_agg : aggT Try.prog 137 = false := by kernel_rfl
@[go_sem] theorem ty137_sz : szT Try.prog 137 = 1 := by kernel_rfl
@[go_sem] theorem ty137_sl : slT Try.prog 137 = false := by kernel_rfl
@[go_sem] theorem ty137_str : strT Try.prog 137 = false := by kernel_rfl
@[go_sem] theorem ty137_zok : zeroOk Try.prog 137 = true := by kernel_rfl
@[go_sem] theorem ty137_by : bytesT Try.prog 137 = 8 := by kernel_rfl
@[go_sem] theorem ty137_ar : arT Try.prog 137 = none := by kernel_rfl
@[go_sem] theorem ty137_pl : placesL Try.prog 137 = none := by kernel_rfl
@[go_sem] theorem ty137_z : zeroAV Try.prog 137 = [.d (.v (.pointer none))] := by kernel_rfl
@[go_sem] theorem ty138_has : hasT Try.prog 138 = true := by kernel_rfl
@[go_sem] theorem ty138_agg : aggT Try.prog 138 = false := by kernel_rfl
@[go_sem] theorem ty138_sz : szT Try.prog 138 = 1 := by kernel_rfl
@[go_sem] theorem ty138_sl : slT Try.prog 138 = true := by kernel_rfl
@[go_sem] theorem ty138_str : strT Try.prog 138 = false := by kernel_rfl
@[go_sem] theorem ty138_zok : zeroOk Try.prog 138 = true := by kernel_rfl
@[go_sem] theorem ty138_by : bytesT Try.prog 138 = 24 := by kernel_rfl
@[go_sem] theorem ty138_el : elT Try.prog 138 = 168 := by kernel_rfl
@[go_sem] theorem ty138_ar : arT Try.prog 138 = none := by kernel_rfl
@[go_sem] theorem ty138_pl : placesL Try.prog 138 = none := by kernel_rfl
@[go_sem] theorem ty138_z : zeroAV Try.prog 138 = [.nil] := by kernel_rfl
@[go_sem] theorem ty140_has : hasT Try.prog 140 = true := by kernel_rfl
@[go_sem] theorem ty140_agg : aggT Try.prog 140 = false := by kernel_rfl
@[go_sem] theorem ty140_sz : szT Try.prog 140 = 1 := by kernel_rfl
@[go_sem] theorem ty140_sl : slT Try.prog 140 = false := by kernel_rfl
@[go_sem] theorem ty140_str : strT Try.prog 140 = false := by kernel_rfl
@[go_sem] theorem ty140_zok : zeroOk Try.prog 140 = true := by kernel_rfl
@[go_sem] theorem ty140_by : bytesT Try.prog 140 = 8 := by kernel_rfl
@[go_sem] theorem ty140_ar : arT Try.prog 140 = none := by kernel_rfl
@[go_sem] theorem ty140_pl : placesL Try.prog 140 = none := by kernel_rfl
@[go_sem] theorem ty140_z : zeroAV Try.prog 140 = [.d (.v (.map none))] := by kernel_rfl
@[go_sem] theorem ty142_has : hasT Try.prog 142 = true := by kernel_rfl
@[go_sem] theorem ty142_agg : aggT Try.prog 142 = true := by kernel_rfl
@[go_sem] theorem ty142_sz : szT Try.prog 142 = 4 := by kernel_rfl
@[go_sem] theorem ty142_sl : slT Try.prog 142 = false := by kernel_rfl
@[go_sem] theorem ty142_str : strT Try.prog 142 = false := by kernel_rfl
@[go_sem] theorem ty142_zok : zeroOk Try.prog 142 = true := by kernel_rfl
@[go_sem] theorem ty142_by : bytesT Try.prog 142 = 64 := by kernel_rfl
@[go_sem] theorem ty142_ar : arT Try.prog 142 = none := by kernel_rfl
@[go_sem] theorem ty142_pl : placesL Try.prog 142 = some [(0, 1), (1, 1), (2, 1), (3, 1)] := by kernel_rfl
@[go_sem] theorem ty142_f0 : fldT Try.prog 142 0 = some (0, 138) := by kernel_rfl
@[go_sem] theorem ty142_f1 : fldT Try.prog 142 1 = some (1, 138) := by kernel_rfl
@[go_sem] theorem ty142_f2 : fldT Try.prog 142 2 = some (2, 140) := by kernel_rfl
@[go_sem] theorem ty142_f3 : fldT Try.prog 142 3 = some (3, 140) := by kernel_rfl
@[go_sem] theorem ty142_z : zeroAV Try.prog 142 = [.nil, .nil, .d (.v (.map none)), .d (.v (.map none))] := by kernel_rfl
@[go_sem] theorem ty144_has : hasT Try.prog 144 = true := by kernel_rfl
@[go_sem] theorem ty144_agg : aggT Try.prog 144 = true := by kernel_rfl
@[go_sem] theorem ty144_sz : szT Try.prog 144 = 2 := by kernel_rfl
@[go_sem] theorem ty144_sl : slT Try.prog 144 = false := by kernel_rfl
@[go_sem] theorem ty144_str : strT Try.prog 144 = false := by kernel_rfl
@[go_sem] theorem ty144_zok : zeroOk Try.prog 144 = true := by kernel_rfl
@[go_sem] theorem ty144_by : bytesT Try.prog 144 = 16 := by kernel_rfl
@[go_sem] theorem ty144_el : elT Try.prog 144 = 3 := by kernel_rfl
@[go_sem] theorem ty144_ar : arT Try.prog 144 = some 2 := by kernel_rfl
@[go_sem] theorem ty144_pl : placesL Try.prog 144 = none := by kernel_rfl
@[go_sem] theorem ty144_z : zeroAV Try.prog 144 = [.d (.v (.int .i64 0)), .d (.v (.int .i64 0))] := by kernel_rfl
@[go_sem] theorem ty148_has : hasT Try.prog 148 = true := by kernel_rfl
@[go_sem] theorem ty148_agg : aggT Try.prog 148 = false := by kernel_rfl
@[go_sem] theorem ty148_sz : szT Try.prog 148 = 1 := by kernel_rfl
@[go_sem] theorem ty148_sl : slT Try.prog 148 = false := by kernel_rfl
@[go_sem] theorem ty148_str : strT Try.prog 148 = false := by kernel_rfl
@[go_sem] theorem ty148_zok : zeroOk Try.prog 148 = true := by kernel_rfl
@[go_sem] theorem ty148_by : bytesT Try.prog 148 = 8 := by kernel_rfl
@[go_sem] theorem ty148_ar : arT Try.prog 148 = none := by kernel_rfl
@[go_sem] theorem ty148_pl : placesL Try.prog 148 = none := by kernel_rfl
@[go_sem] theorem ty148_z : zeroAV Try.prog 148 = [.d (.v (.int .u64 0))] := by kernel_rfl
@[go_sem] theorem ty152_has : hasT Try.prog 152 = true := by kernel_rfl
@[go_sem] theorem ty152_agg : aggT Try.prog 152 = false := by kernel_rfl
@[go_sem] theorem ty152_sz : szT Try.prog 152 = 1 := by kernel_rfl
@[go_sem] theorem ty152_sl : slT Try.prog 152 = false := by kernel_rfl
@[go_sem] theorem ty152_str : strT Try.prog 152 = false := by kernel_rfl
@[go_sem] theorem ty152_zok : zeroOk Try.prog 152 = true := by kernel_rfl
@[go_sem] theorem ty152_by : bytesT Try.prog 152 = 8 := by kernel_rfl
@[go_sem] theorem ty152_ar : arT Try.prog 152 = none := by kernel_rfl
@[go_sem] theorem ty152_pl : placesL Try.prog 152 = none := by kernel_rfl
@[go_sem] theorem ty152_z : zeroAV Try.prog 152 = [.d (.v (.nilFunc))] := by kernel_rfl
@[go_sem] theorem ty168_has : hasT Try.prog 168 = true := by kernel_rfl
@[go_sem] theorem ty168_agg : aggT Try.prog 168 = true := by kernel_rfl
@[go_sem] theorem ty168_sz : szT Try.prog 168 = 4 := by kernel_rfl
@[go_sem] theorem ty168_sl : slT Try.prog 168 = false := by kernel_rfl
@[go_sem] theorem ty168_str : strT Try.prog 168 = false := by kernel_rfl
@[go_sem] theorem ty168_zok : zeroOk Try.prog 168 = true := by kernel_rfl
@[go_sem] theorem ty168_by : bytesT Try.prog 168 = 64 := by kernel_rfl
@[go_sem] theorem ty168_ar : arT Try.prog 168 = none := by kernel_rfl
@[go_sem] theorem ty168_pl : placesL Try.prog 168 = some [(0, 3), (3, 1)] := by kernel_rfl
@[go_sem] theorem ty168_f0 : fldT Try.prog 168 0 = some (0, 28) := by kernel_rfl
@[go_sem] theorem ty168_f1 : fldT Try.prog 168 1 = some (3, 22) := by kernel_rfl
@[go_sem] theorem ty168_z : zeroAV Try.prog 168 = [.d (.v (.int .i64 0)), .d (.v (.int .i64 0)), .nil, .nil] := by kernel_rfl
@[go_sem] theorem ty172_has : hasT Try.prog 172 = true := by kernel_rfl
@[go_sem] theorem ty172_agg : aggT Try.prog 172 = false := by kernel_rfl
@[go_sem] theorem ty172_sz : szT Try.prog 172 = 1 := by kernel_rfl
@[go_sem] theorem ty172_sl : slT Try.prog 172 = false := by kernel_rfl
@[go_sem] theorem ty172_str : strT Try.prog 172 = false := by kernel_rfl
@[go_sem] theorem ty172_zok : zeroOk Try.prog 172 = true := by kernel_rfl
@[go_sem] theorem ty172_by : bytesT Try.prog 172 = 8 := by kernel_rfl
@[go_sem] theorem ty172_ar : arT Try.prog 172 = none := by kernel_rfl
@[go_sem] theorem ty172_pl : placesL Try.prog 172 = none := by kernel_rfl
@[go_sem] theorem ty172_z : zeroAV Try.prog 172 = [.d (.v (.int .i64 0))] := by kernel_rfl
@[go_sem] theorem ty183_has : hasT Try.prog 183 = true := by kernel_rfl
@[go_sem] theorem ty183_agg : aggT Try.prog 183 = false := by kernel_rfl
@[go_sem] theorem ty183_sz : szT Try.prog 183 = 1 := by kernel_rfl
@[go_sem] theorem ty183_sl : slT Try.prog 183 = false := by kernel_rfl
@[go_sem] theorem ty183_str : strT Try.prog 183 = false := by kernel_rfl
@[go_sem] theorem ty183_zok : zeroOk Try.prog 183 = true := by kernel_rfl
@[go_sem] theorem ty183_by : bytesT Try.prog 183 = 8 := by kernel_rfl
@[go_sem] theorem ty183_ar : arT Try.prog 183 = none := by kernel_rfl
@[go_sem] theorem ty183_pl : placesL Try.prog 183 = none := by kernel_rfl
@[go_sem] theorem ty183_z : zeroAV Try.prog 183 = [.d (.v (.map none))] := by kernel_rfl
@[go_sem] theorem ty187_has : hasT Try.prog 187 = true := by kernel_rfl
@[go_sem] theorem ty187_agg : aggT Try.prog 187 = false := by kernel_rfl
@[go_sem] theorem ty187_sz : szT Try.prog 187 = 1 := by kernel_rfl
@[go_sem] theorem ty187_sl : slT Try.prog 187 = false := by kernel_rfl
@[go_sem] theorem ty187_str : strT Try.prog 187 = false := by kernel_rfl
@[go_sem] theorem ty187_zok : zeroOk Try.prog 187 = true := by kernel_rfl
@[go_sem] theorem ty187_by : bytesT Try.prog 187 = 8 := by kernel_rfl
@[go_sem] theorem ty187_ar : arT Try.prog 187 = none := by kernel_rfl
@[go_sem] theorem ty187_pl : placesL Try.prog 187 = none := by kernel_rfl
@[go_sem] theorem ty187_z : zeroAV Try.prog 187 = [.d (.v (.int .u64 0))] := by kernel_rfl
@[go_sem] theorem ty191_has : hasT Try.prog 191 = true := by kernel_rfl
@[go_sem] theorem ty191_agg : aggT Try.prog 191 = false := by kernel_rfl
@[go_sem] theorem ty191_sz : szT Try.prog 191 = 1 := by kernel_rfl
@[go_sem] theorem ty191_sl : slT Try.prog 191 = false := by kernel_rfl
@[go_sem] theorem ty191_str : strT Try.prog 191 = false := by kernel_rfl
@[go_sem] theorem ty191_zok : zeroOk Try.prog 191 = true := by kernel_rfl
@[go_sem] theorem ty191_by : bytesT Try.prog 191 = 8 := by kernel_rfl
@[go_sem] theorem ty191_ar : arT Try.prog 191 = none := by kernel_rfl
@[go_sem] theorem ty191_pl : placesL Try.prog 191 = none := by kernel_rfl
@[go_sem] theorem ty191_z : zeroAV Try.prog 191 = [.d (.v (.pointer none))] := by kernel_rfl
@[go_sem] theorem ty194_has : hasT Try.prog 194 = true := by kernel_rfl
@[go_sem] theorem ty194_agg : aggT Try.prog 194 = false := by kernel_rfl
@[go_sem] theorem ty194_sz : szT Try.prog 194 = 1 := by kernel_rfl
@[go_sem] theorem ty194_sl : slT Try.prog 194 = false := by kernel_rfl
@[go_sem] theorem ty194_str : strT Try.prog 194 = false := by kernel_rfl
@[go_sem] theorem ty194_zok : zeroOk Try.prog 194 = true := by kernel_rfl
@[go_sem] theorem ty194_by : bytesT Try.prog 194 = 8 := by kernel_rfl
@[go_sem] theorem ty194_ar : arT Try.prog 194 = none := by kernel_rfl
@[go_sem] theorem ty194_pl : placesL Try.prog 194 = none := by kernel_rfl
@[go_sem] theorem ty194_z : zeroAV Try.prog 194 = [.d (.v (.nilFunc))] := by kernel_rfl
theorem enter23 : enterOk Try.prog 23 := by intro a w; go_simp
theorem enter24 : enterOk Try.prog 24 := by intro a w; go_simp
theorem enter25 : enterOk Try.prog 25 := by intro a w; go_simp
theorem enter26 : enterOk Try.prog 26 := by intro a w; go_simp
theorem enter27 : enterOk Try.prog 27 := by intro a w; go_simp
theorem enter31 : enterOk Try.prog 31 := by intro a w; go_simp
theorem enter32 : enterOk Try.prog 32 := by intro a w; go_simp
theorem enter33 : enterOk Try.prog 33 := by intro a w; go_simp
theorem enter40 : enterOk Try.prog 40 := by intro a w; go_simp
theorem enter41 : enterOk Try.prog 41 := by intro a w; go_simp
theorem enter42 : enterOk Try.prog 42 := by intro a w; go_simp
theorem enter46 : enterOk Try.prog 46 := by intro a w; go_simp
theorem enter50 : enterOk Try.prog 50 := by intro a w; go_simp
theorem enter51 : enterOk Try.prog 51 := by intro a w; go_simp
theorem enter52 : enterOk Try.prog 52 := by intro a w; go_simp
theorem enter53 : enterOk Try.prog 53 := by intro a w; go_simp
theorem enter54 : enterOk Try.prog 54 := by intro a w; go_simp
theorem enter55 : enterOk Try.prog 55 := by intro a w; go_simp
theorem enter56 : enterOk Try.prog 56 := by intro a w; go_simp
theorem enter57 : enterOk Try.prog 57 := by intro a w; go_simp
theorem enter58 : enterOk Try.prog 58 := by intro a w; go_simp
theorem enter59 : enterOk Try.prog 59 := by intro a w; go_simp
theorem enter60 : enterOk Try.prog 60 := by intro a w; go_simp
theorem enter61 : enterOk Try.prog 61 := by intro a w; go_simp
theorem enter62 : enterOk Try.prog 62 := by intro a w; go_simp
theorem enter63 : enterOk Try.prog 63 := by intro a w; go_simp
theorem enter65 : enterOk Try.prog 65 := by intro a w; go_simp
theorem enter67 : enterOk Try.prog 67 := by intro a w; go_simp
theorem enter69 : enterOk Try.prog 69 := by intro a w; go_simp
theorem enter71 : enterOk Try.prog 71 := by intro a w; go_simp
theorem enter72 : enterOk Try.prog 72 := by intro a w; go_simp
theorem enter73 : enterOk Try.prog 73 := by intro a w; go_simp
theorem enter74 : enterOk Try.prog 74 := by intro a w; go_simp
theorem enter78 : enterOk Try.prog 78 := by intro a w; go_simp
theorem enter79 : enterOk Try.prog 79 := by intro a w; go_simp
theorem enter80 : enterOk Try.prog 80 := by intro a w; go_simp
theorem enter82 : enterOk Try.prog 82 := by intro a w; go_simp
theorem enter83 : enterOk Try.prog 83 := by intro a w; go_simp
theorem enter84 : enterOk Try.prog 84 := by intro a w; go_simp
theorem enter85 : enterOk Try.prog 85 := by intro a w; go_simp
theorem enter86 : enterOk Try.prog 86 := by intro a w; go_simp
theorem enter87 : enterOk Try.prog 87 := by intro a w; go_simp
theorem enter88 : enterOk Try.prog 88 := by intro a w; go_simp
theorem enter89 : enterOk Try.prog 89 := by intro a w; go_simp
theorem enter90 : enterOk Try.prog 90 := by intro a w; go_simp
theorem enter91 : enterOk Try.prog 91 := by intro a w; go_simp
theorem enter92 : enterOk Try.prog 92 := by intro a w; go_simp
theorem enter93 : enterOk Try.prog 93 := by intro a w; go_simp
theorem enter94 : enterOk Try.prog 94 := by intro a w; go_simp
theorem enter95 : enterOk Try.prog 95 := by intro a w; go_simp
theorem enter96 : enterOk Try.prog 96 := by intro a w; go_simp
theorem enter97 : enterOk Try.prog 97 := by intro a w; go_simp
theorem enter98 : enterOk Try.prog 98 := by intro a w; go_simp
theorem enter99 : enterOk Try.prog 99 := by intro a w; go_simp
theorem enter102 : enterOk Try.prog 102 := by intro a w; go_simp
theorem enter103 : enterOk Try.prog 103 := by intro a w; go_simp
theorem enter104 : enterOk Try.prog 104 := by intro a w; go_simp
theorem enter107 : enterOk Try.prog 107 := by intro a w; go_simp
theorem enter108 : enterOk Try.prog 108 := by intro a w; go_simp
theorem enter109 : enterOk Try.prog 109 := by intro a w; go_simp
theorem enter110 : enterOk Try.prog 110 := by intro a w; go_simp
theorem enter111 : enterOk Try.prog 111 := by intro a w; go_simp
theorem enter112 : enterOk Try.prog 112 := by intro a w; go_simp
theorem enter113 : enterOk Try.prog 113 := by intro a w; go_simp
theorem enter114 : enterOk Try.prog 114 := by intro a w; go_simp
theorem enter115 : enterOk Try.prog 115 := by intro a w; go_simp
theorem enter116 : enterOk Try.prog 116 := by intro a w; go_simp
theorem enter117 : enterOk Try.prog 117 := by intro a w; go_simp
theorem enter118 : enterOk Try.prog 118 := by intro a w; go_simp
theorem enter119 : enterOk Try.prog 119 := by intro a w; go_simp
theorem enter120 : enterOk Try.prog 120 := by intro a w; go_simp
theorem enter121 : enterOk Try.prog 121 := by intro a w; go_simp
theorem enter122 : enterOk Try.prog 122 := by intro a w; go_simp
theorem enter123 : enterOk Try.prog 123 := by intro a w; go_simp
theorem enter137 : enterOk Try.prog 137 := by intro a w; go_simp
theorem enter138 : enterOk Try.prog 138 := by intro a w; go_simp
theorem enter139 : enterOk Try.prog 139 := by intro a w; go_simp
theorem enter140 : enterOk Try.prog 140 := by intro a w; go_simp
theorem enter141 : enterOk Try.prog 141 := by intro a w; go_simp
theorem enter142 : enterOk Try.prog 142 := by intro a w; go_simp
theorem enter143 : enterOk Try.prog 143 := by intro a w; go_simp
theorem enter144 : enterOk Try.prog 144 := by intro a w; go_simp
theorem enter152 : enterOk Try.prog 152 := by intro a w; go_simp
theorem enter153 : enterOk Try.prog 153 := by intro a w; go_simp
theorem enter154 : enterOk Try.prog 154 := by intro a w; go_simp
theorem enter155 : enterOk Try.prog 155 := by intro a w; go_simp
theorem enter156 : enterOk Try.prog 156 := by intro a w; go_simp
theorem enter158 : enterOk Try.prog 158 := by intro a w; go_simp
theorem mixed : Try.prog.follows .mixedOrders = true := by kernel_rfl
end Go.Proofs.Ytmeekpinkfpnhab
namespace Go.Proofs.Ytmeekpinkfpnhab
inductive Tm where
  | mk (v f : Int) (us : List Tm)
def Tm.v : Tm → Int | .mk v _ _ => v
def Tm.f : Tm → Int | .mk _ f _ => f
def Tm.us : Tm → List Tm | .mk _ _ us => us
theorem Tm.eta : ∀ t : Tm, Tm.mk t.v t.f t.us = t | .mk _ _ _ => rfl
theorem Tm.ind {P : Tm → Prop} (h : ∀ t, (∀ u ∈ t.us, P u) → P t) : ∀ t, P t := by
  intro t
  refine Tm.rec (motive_1 := P) (motive_2 := fun us => ∀ u ∈ us, P u) ?_ ?_ ?_ t
  · intro v f us ih; exact h _ ih
  · intro u hu; cases hu
  · intro t ts h1 h2 u hu
    cases hu with
    | head => exact h1
    | tail _ hu => exact h2 u hu
def Tm.size : Tm → Nat
  | .mk _ _ us => 1 + sizes us
where sizes : List Tm → Nat
  | [] => 0
  | t :: ts => t.size + sizes ts
theorem getD_at {α : Type} {l : List α} {i : Nat} (h : i < l.length) (d : α) : l.getD i d = l[i] := by
  rw [List.getD_eq_getElem?_getD, List.getElem?_eq_getElem h]; rfl
mutual
def count : Tm → Int → Int
  | .mk _ _ us, most => countL us 1 most
def countL : List Tm → Int → Int → Int
  | [], n, _ => n
  | x :: xs, n, most => if n > most then n else countL xs (n + count x (most - n)) most
end
theorem count_eq (t : Tm) (most : Int) : count t most = countL t.us 1 most := by cases t; rw [count]; rfl
theorem countL_stop {us : List Tm} {n most : Int} (h : n > most) : countL us n most = n := by
  cases us with
  | nil => rw [countL]
  | cons x xs => rw [countL, if_pos h]
theorem countL_go {us : List Tm} {k : Nat} (hk : k < us.length) {n most : Int} (h : n ≤ most) :
    countL (us.drop k) n most = countL (us.drop (k + 1)) (n + count us[k] (most - n)) most := by
  rw [List.drop_eq_getElem_cons hk, countL, if_neg (by omega)]
theorem countL_end {us : List Tm} {n most : Int} : countL (us.drop us.length) n most = n := by
  rw [List.drop_length, countL]
mutual
theorem count_le : ∀ (t : Tm) (most : Int), 0 ≤ most → 1 ≤ count t most ∧ count t most ≤ most + 1
  | .mk v f us, most, h => by unfold count; exact countL_le us 1 most (by omega) (by omega)
theorem countL_le : ∀ (ts : List Tm) (n most : Int), 1 ≤ n → n ≤ most + 1 → 1 ≤ countL ts n most ∧ countL ts n most ≤ most + 1
  | [], n, most, h1, h2 => by unfold countL; omega
  | x :: xs, n, most, h1, h2 => by
    unfold countL
    split
    · omega
    · have := count_le x (most - n) (by omega)
      exact countL_le xs _ most (by omega) (by omega)
end
def formOne (g : List Int) (v f : Int) (n : Nat) : Int :=
  if v ≠ 0 then
    if v < 1 ∨ v > 1000 then 3
    else if n > 0 ∨ f ≠ 0 then 1
    else 0
  else if f < 0 ∨ f ≥ g.length then 5
  else if (n : Int) ≠ g.getD f.toNat 0 then 1
  else 0
mutual
def form (g : List Int) : Tm → Int
  | .mk v f us => if formL g us ≠ 0 then formL g us else formOne g v f us.length
def formL (g : List Int) : List Tm → Int
  | [] => 0
  | x :: xs => if form g x ≠ 0 then form g x else formL g xs
end
theorem form_eq (g : List Int) (t : Tm) : form g t = if formL g t.us ≠ 0 then formL g t.us else formOne g t.v t.f t.us.length := by
  cases t; rw [form]; rfl
def own (g : List Int) (t : Tm) : Int := if count t 120 > 120 then 2 else form g t
def sigOk (g : List Int) : Int := if g.length > 12 then 2 else if g.any (fun n => n < 0 || n > 3) then 3 else 0
def ownL (g : List Int) : List Tm → Int
  | [] => 0
  | x :: xs => if own g x ≠ 0 then own g x else ownL g xs
mutual
def same : Tm → Tm → Bool
  | .mk v f us, .mk v' f' us' => v == v' && f == f' && sameL us us'
def sameL : List Tm → List Tm → Bool
  | [], [] => true
  | x :: xs, y :: ys => same x y && sameL xs ys
  | _, _ => false
end
theorem same_eq (t u : Tm) : same t u = (t.v == u.v && t.f == u.f && sameL t.us u.us) := by cases t; cases u; rw [same]; rfl
mutual
theorem same_iff : ∀ a b : Tm, same a b = true ↔ a = b
  | .mk v f us, .mk v' f' us' => by
    rw [same, Bool.and_eq_true, Bool.and_eq_true, beq_iff_eq, beq_iff_eq, sameL_iff us us']
    constructor
    · rintro ⟨⟨rfl, rfl⟩, rfl⟩; rfl
    · intro h; cases h; exact ⟨⟨rfl, rfl⟩, rfl⟩
theorem sameL_iff : ∀ a b : List Tm, sameL a b = true ↔ a = b
  | [], [] => by simp [sameL]
  | [], _ :: _ => by simp [sameL]
  | _ :: _, [] => by simp [sameL]
  | x :: xs, y :: ys => by
    rw [sameL, Bool.and_eq_true, same_iff x y, sameL_iff xs ys]
    constructor
    · rintro ⟨rfl, rfl⟩; rfl
    · intro h; cases h; exact ⟨rfl, rfl⟩
end
def formAll (g : List Int) : List Tm → Int
  | [] => 0
  | x :: xs => if formOne g x.v x.f x.us.length ≠ 0 then formOne g x.v x.f x.us.length else formAll g xs
theorem formAll_append (g : List Int) (a b : List Tm) : formAll g (a ++ b) = if formAll g a ≠ 0 then formAll g a else formAll g b := by
  induction a with
  | nil => simp [formAll]
  | cons x xs ih =>
    simp only [List.cons_append, formAll, ih]
    by_cases h : formOne g x.v x.f x.us.length ≠ 0
    · simp [h]
    · simp only [ne_eq, Decidable.not_not] at h; simp [h]
theorem same_rfl (t : Tm) : same t t = true := (same_iff t t).2 rfl
theorem sameL_take {a b : List Tm} {i : Nat} (hi : i < a.length) (hi' : i < b.length) (h : sameL (a.take i) (b.take i) = true) (hs : same a[i] b[i] = true) : sameL (a.take (i + 1)) (b.take (i + 1)) = true := by
  rw [sameL_iff] at h ⊢
  rw [same_iff] at hs
  rw [List.take_succ_eq_append_getElem hi, List.take_succ_eq_append_getElem hi', h, hs]
theorem sameL_not {a b : List Tm} {i : Nat} (hi : i < a.length) (hi' : i < b.length) (hs : same a[i] b[i] = false) : sameL a b = false := by
  rw [← Bool.not_eq_true, sameL_iff]
  rintro rfl
  rw [same_rfl] at hs
  cases hs
theorem sameL_len {a b : List Tm} (h : a.length ≠ b.length) : sameL a b = false := by
  rw [← Bool.not_eq_true, sameL_iff]
  rintro rfl
  exact h rfl
mutual
def parts : Tm → List Tm
  | .mk v f us => partsL us ++ [.mk v f us]
def partsL : List Tm → List Tm
  | [] => []
  | x :: xs => parts x ++ partsL xs
end
theorem parts_eq (t : Tm) : parts t = partsL t.us ++ [t] := by cases t; rw [parts]; rfl
theorem partsL_append (a b : List Tm) : partsL (a ++ b) = partsL a ++ partsL b := by
  induction a with
  | nil => simp [partsL]
  | cons x xs ih => simp [partsL, ih]
theorem partsL_take {us : List Tm} {k : Nat} (hk : k < us.length) : partsL (us.take (k + 1)) = partsL (us.take k) ++ parts us[k] := by
  rw [List.take_succ_eq_append_getElem hk, partsL_append]; simp [partsL]
theorem partsL_le {us : List Tm} (k : Nat) : (partsL (us.take k)).length ≤ (partsL us).length := by
  rw [← List.take_append_drop k us, partsL_append]
  rw [List.take_append_drop, List.length_append]; omega
theorem partsL_at {us : List Tm} {k : Nat} (hk : k < us.length) : (partsL (us.take k)).length + (parts us[k]).length ≤ (partsL us).length := by
  have := partsL_le (us := us) (k + 1)
  rw [partsL_take hk, List.length_append] at this
  exact this
mutual
theorem formAll_parts (g : List Int) : ∀ t : Tm, formAll g (parts t) = form g t
  | .mk v f us => by
    rw [parts, formAll_append, formAll_partsL g us, form]
    simp only [formAll, Tm.v, Tm.f, Tm.us]
    by_cases h : formL g us ≠ 0
    · simp [h]
    · simp only [ne_eq, Decidable.not_not] at h
      simp only [h, ne_eq, not_true, if_false]
      by_cases h2 : formOne g v f us.length = 0 <;> simp [h2]
theorem formAll_partsL (g : List Int) : ∀ us : List Tm, formAll g (partsL us) = formL g us
  | [] => rfl
  | x :: xs => by
    rw [partsL, formAll_append, formAll_parts g x, formAll_partsL g xs, formL]
end
mutual
theorem count_parts : ∀ (t : Tm) (most : Int), 0 ≤ most → count t most ≤ most → ((parts t).length : Int) = count t most
  | .mk v f us, most, h, h2 => by
    rw [parts, List.length_append]
    rw [count] at h2 ⊢
    have := countL_parts us 1 most (by omega) h2
    simp
    omega
theorem countL_parts : ∀ (us : List Tm) (n most : Int), 0 ≤ n → countL us n most ≤ most → n + (partsL us).length = countL us n most
  | [], n, most, h0, h => by simp [partsL, countL]
  | x :: xs, n, most, h0, h => by
    rw [countL] at h ⊢
    by_cases hn : n > most
    · rw [if_pos hn] at h; omega
    · rw [if_neg hn] at h ⊢
      have h1 := count_le x (most - n) (by omega)
      rw [partsL, List.length_append]
      by_cases hx : count x (most - n) ≤ most - n
      · have := count_parts x (most - n) (by omega) hx
        have := countL_parts xs (n + count x (most - n)) most (by omega) h
        simp
        omega
      · rw [countL_stop (by omega)] at h
        omega
end
mutual
def pn : Tm → Nat → List (Tm × List Int)
  | .mk v f us, n => pnL us n ++ [(.mk v f us, idxs us n)]
def pnL : List Tm → Nat → List (Tm × List Int)
  | [], _ => []
  | x :: xs, n => pn x n ++ pnL xs (n + (parts x).length)
def idxs : List Tm → Nat → List Int
  | [], _ => []
  | x :: xs, n => ((n : Int) + (parts x).length - 1) :: idxs xs (n + (parts x).length)
end
theorem pn_eq (t : Tm) (n : Nat) : pn t n = pnL t.us n ++ [(t, idxs t.us n)] := by cases t; rw [pn]; rfl
mutual
theorem pn_fst : ∀ (t : Tm) (n : Nat), (pn t n).map (·.1) = parts t
  | .mk v f us, n => by rw [pn, List.map_append, pnL_fst us n, parts]; rfl
theorem pnL_fst : ∀ (us : List Tm) (n : Nat), (pnL us n).map (·.1) = partsL us
  | [], _ => rfl
  | x :: xs, n => by rw [pnL, List.map_append, pn_fst x n, pnL_fst xs, partsL]
end
theorem pn_len (t : Tm) (n : Nat) : (pn t n).length = (parts t).length := by rw [← pn_fst t n, List.length_map]
theorem pnL_len (us : List Tm) (n : Nat) : (pnL us n).length = (partsL us).length := by rw [← pnL_fst us n, List.length_map]
theorem pnL_append (a b : List Tm) (n : Nat) : pnL (a ++ b) n = pnL a n ++ pnL b (n + (partsL a).length) := by
  induction a generalizing n with
  | nil => simp [pnL, partsL]
  | cons x xs ih => simp [pnL, partsL, ih, Nat.add_assoc]
theorem idxs_append (a b : List Tm) (n : Nat) : idxs (a ++ b) n = idxs a n ++ idxs b (n + (partsL a).length) := by
  induction a generalizing n with
  | nil => simp [idxs, partsL]
  | cons x xs ih => simp [idxs, partsL, ih, Nat.add_assoc]
theorem idxs_len (us : List Tm) (n : Nat) : (idxs us n).length = us.length := by
  induction us generalizing n with
  | nil => rfl
  | cons x xs ih => simp [idxs, ih]
theorem pnL_take {us : List Tm} {k : Nat} (hk : k < us.length) (n : Nat) : pnL (us.take (k + 1)) n = pnL (us.take k) n ++ pn us[k] (n + (pnL (us.take k) n).length) := by
  rw [List.take_succ_eq_append_getElem hk, pnL_append, pnL_len]; simp [pnL]
theorem idxs_take {us : List Tm} {k : Nat} (hk : k < us.length) (n : Nat) : idxs (us.take (k + 1)) n = idxs (us.take k) n ++ [((n + (pnL (us.take (k + 1)) n).length : Nat) : Int) - 1] := by
  rw [pnL_len, partsL_take hk, List.length_append, List.take_succ_eq_append_getElem hk, idxs_append]
  simp [idxs]
  omega
end Go.Proofs.Ytmeekpinkfpnhab
