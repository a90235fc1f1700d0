/- Facts on types and functions of the program, written by a program of ours. Plain data of the proofs: terms, and what the functions of package term compute of them. No program in sight. Terms, signatures, clauses as pure values. How terms, lists of numbers and signatures lie in memory, and that this stays so while a call only makes memory. Walks through package term and its reference: sizes, signatures, what is wrong with a term. -/
import Derived.Test.YtmeekpinkfpnhabB03
import Derived.Test.YtmeekpinkfpnhabProg
import Derived.WalkKit
import Derived.WalkSpells
import Derived.WalkLawsBesides
import Derived.Deep.AppendLies
import Derived.Deep.QuietTactic
import Derived.BigQuiet
set_option linter.unusedSimpArgs false
set_option linter.unusedSectionVars false
set_option linter.unusedVariables false
set_option linter.unnecessarySimpa false
set_option linter.all false
namespace Go.Proofs.Ytmeekpinkfpnhab
open Go.RowKit
@[go_sem] theorem ty0_has : hasT Try.prog 0 = true := by kernel_rfl
@[go_sem] theorem ty0_agg : aggT Try.prog 0 = false := by kernel_rfl
@[go_sem] theorem ty0_sz : szT Try.prog 0 = 1 := by kernel_rfl
@[go_sem] theorem ty0_sl : slT Try.prog 0 = false := by kernel_rfl
@[go_sem] theorem ty0_str : strT Try.prog 0 = false := by kernel_rfl
@[go_sem] theorem ty0_zok : zeroOk Try.prog 0 = false := by kernel_rfl
@[go_sem] theorem ty0_by : bytesT Try.prog 0 = 0 := by kernel_rfl
@[go_sem] theorem ty0_ar : arT Try.prog 0 = none := by kernel_rfl
@[go_sem] theorem ty0_pl : placesL Try.prog 0 = none := by kernel_rfl
@[go_sem] theorem ty3_has : hasT Try.prog 3 = true := by kernel_rfl
@[go_sem] theorem ty3_agg : aggT Try.prog 3 = false := by kernel_rfl
@[go_sem] theorem ty3_sz : szT Try.prog 3 = 1 := by kernel_rfl
@[go_sem] theorem ty3_sl : slT Try.prog 3 = false := by kernel_rfl
@[go_sem] theorem ty3_str : strT Try.prog 3 = false := by kernel_rfl
@[go_sem] theorem ty3_zok : zeroOk Try.prog 3 = true := by kernel_rfl
@[go_sem] theorem ty3_by : bytesT Try.prog 3 = 8 := by kernel_rfl
@[go_sem] theorem ty3_ar : arT Try.prog 3 = none := by kernel_rfl
@[go_sem] theorem ty3_pl : placesL Try.prog 3 = none := by kernel_rfl
@[go_sem] theorem ty3_z : zeroAV Try.prog 3 = [.d (.v (.int .i64 0))] := by kernel_rfl
@[go_sem] theorem ty4_has : hasT Try.prog 4 = true := by kernel_rfl
@[go_sem] theorem ty4_agg : aggT Try.prog 4 = false := by kernel_rfl
@[go_sem] theorem ty4_sz : szT Try.prog 4 = 1 := by kernel_rfl
@[go_sem] theorem ty4_sl : slT Try.prog 4 = false := by kernel_rfl
@[go_sem] theorem ty4_str : strT Try.prog 4 = false := by kernel_rfl
@[go_sem] theorem ty4_zok : zeroOk Try.prog 4 = true := by kernel_rfl
@[go_sem] theorem ty4_by : bytesT Try.prog 4 = 1 := by kernel_rfl
@[go_sem] theorem ty4_ar : arT Try.prog 4 = none := by kernel_rfl
@[go_sem] theorem ty4_pl : placesL Try.prog 4 = none := by kernel_rfl
@[go_sem] theorem ty4_z : zeroAV Try.prog 4 = [.d (.v (.bool false))] := by kernel_rfl
@[go_sem] theorem ty22_has : hasT Try.prog 22 = true := by kernel_rfl
@[go_sem] theorem ty22_agg : aggT Try.prog 22 = false := by kernel_rfl
@[go_sem] theorem ty22_sz : szT Try.prog 22 = 1 := by kernel_rfl
@[go_sem] theorem ty22_sl : slT Try.prog 22 = true := by kernel_rfl
@[go_sem] theorem ty22_str : strT Try.prog 22 = false := by kernel_rfl
@[go_sem] theorem ty22_zok : zeroOk Try.prog 22 = true := by kernel_rfl
@[go_sem] theorem ty22_by : bytesT Try.prog 22 = 24 := by kernel_rfl
@[go_sem] theorem ty22_el : elT Try.prog 22 = 3 := by kernel_rfl
@[go_sem] theorem ty22_ar : arT Try.prog 22 = none := by kernel_rfl
@[go_sem] theorem ty22_pl : placesL Try.prog 22 = none := by kernel_rfl
@[go_sem] theorem ty22_z : zeroAV Try.prog 22 = [.nil] := by kernel_rfl
@[go_sem] theorem ty24_has : hasT Try.prog 24 = true := by kernel_rfl
@[go_sem] theorem ty24_agg : aggT Try.prog 24 = true := by kernel_rfl
@[go_sem] theorem ty24_sz : szT Try.prog 24 = 1 := by kernel_rfl
@[go_sem] theorem ty24_sl : slT Try.prog 24 = false := by kernel_rfl
@[go_sem] theorem ty24_str : strT Try.prog 24 = false := by kernel_rfl
@[go_sem] theorem ty24_zok : zeroOk Try.prog 24 = true := by kernel_rfl
@[go_sem] theorem ty24_by : bytesT Try.prog 24 = 24 := by kernel_rfl
@[go_sem] theorem ty24_ar : arT Try.prog 24 = none := by kernel_rfl
@[go_sem] theorem ty24_pl : placesL Try.prog 24 = some [(0, 1)] := by kernel_rfl
@[go_sem] theorem ty24_f0 : fldT Try.prog 24 0 = some (0, 22) := by kernel_rfl
@[go_sem] theorem ty24_z : zeroAV Try.prog 24 = [.nil] := by kernel_rfl
@[go_sem] theorem ty25_has : hasT Try.prog 25 = true := by kernel_rfl
@[go_sem] theorem ty25_agg : aggT Try.prog 25 = false := by kernel_rfl
@[go_sem] theorem ty25_sz : szT Try.prog 25 = 1 := by kernel_rfl
@[go_sem] theorem ty25_sl : slT Try.prog 25 = true := by kernel_rfl
@[go_sem] theorem ty25_str : strT Try.prog 25 = false := by kernel_rfl
@[go_sem] theorem ty25_zok : zeroOk Try.prog 25 = true := by kernel_rfl
@[go_sem] theorem ty25_by : bytesT Try.prog 25 = 24 := by kernel_rfl
@[go_sem] theorem ty25_el : elT Try.prog 25 = 69 := by kernel_rfl
@[go_sem] theorem ty25_ar : arT Try.prog 25 = none := by kernel_rfl
@[go_sem] theorem ty25_pl : placesL Try.prog 25 = none := by kernel_rfl
@[go_sem] theorem ty25_z : zeroAV Try.prog 25 = [.nil] := by kernel_rfl
@[go_sem] theorem ty26_has : hasT Try.prog 26 = true := by kernel_rfl
@[go_sem] theorem ty26_agg : aggT Try.prog 26 = false := by kernel_rfl
@[go_sem] theorem ty26_sz : szT Try.prog 26 = 1 := by kernel_rfl
@[go_sem] theorem ty26_sl : slT Try.prog 26 = true := by kernel_rfl
@[go_sem] theorem ty26_str : strT Try.prog 26 = false := by kernel_rfl
@[go_sem] theorem ty26_zok : zeroOk Try.prog 26 = true := by kernel_rfl
@[go_sem] theorem ty26_by : bytesT Try.prog 26 = 24 := by kernel_rfl
@[go_sem] theorem ty26_el : elT Try.prog 26 = 28 := by kernel_rfl
@[go_sem] theorem ty26_ar : arT Try.prog 26 = none := by kernel_rfl
@[go_sem] theorem ty26_pl : placesL Try.prog 26 = none := by kernel_rfl
@[go_sem] theorem ty26_z : zeroAV Try.prog 26 = [.nil] := by kernel_rfl
@[go_sem] theorem ty28_has : hasT Try.prog 28 = true := by kernel_rfl
@[go_sem] theorem ty28_agg : aggT Try.prog 28 = true := by kernel_rfl
@[go_sem] theorem ty28_sz : szT Try.prog 28 = 3 := by kernel_rfl
@[go_sem] theorem ty28_sl : slT Try.prog 28 = false := by kernel_rfl
@[go_sem] theorem ty28_str : strT Try.prog 28 = false := by kernel_rfl
@[go_sem] theorem ty28_zok : zeroOk Try.prog 28 = true := by kernel_rfl
@[go_sem] theorem ty28_by : bytesT Try.prog 28 = 40 := by kernel_rfl
@[go_sem] theorem ty28_ar : arT Try.prog 28 = none := by kernel_rfl
@[go_sem] theorem ty28_pl : placesL Try.prog 28 = some [(0, 1), (1, 1), (2, 1)] := by kernel_rfl
@[go_sem] theorem ty28_f0 : fldT Try.prog 28 0 = some (0, 3) := by kernel_rfl
@[go_sem] theorem ty28_f1 : fldT Try.prog 28 1 = some (1, 3) := by kernel_rfl
@[go_sem] theorem ty28_f2 : fldT Try.prog 28 2 = some (2, 26) := by kernel_rfl
@[go_sem] theorem ty28_z : zeroAV Try.prog 28 = [.d (.v (.int .i64 0)), .d (.v (.int .i64 0)), .nil] := by kernel_rfl
@[go_sem] theorem ty29_has : hasT Try.prog 29 = true := by kernel_rfl
@[go_sem] theorem ty29_agg : aggT Try.prog 29 = false := by kernel_rfl
@[go_sem] theorem ty29_sz : szT Try.prog 29 = 1 := by kernel_rfl
@[go_sem] theorem ty29_sl : slT Try.prog 29 = false := by kernel_rfl
@[go_sem] theorem ty29_str : strT Try.prog 29 = false := by kernel_rfl
@[go_sem] theorem ty29_zok : zeroOk Try.prog 29 = true := by kernel_rfl
@[go_sem] theorem ty29_by : bytesT Try.prog 29 = 8 := by kernel_rfl
@[go_sem] theorem ty29_ar : arT Try.prog 29 = none := by kernel_rfl
@[go_sem] theorem ty29_pl : placesL Try.prog 29 = none := by kernel_rfl
@[go_sem] theorem ty29_z : zeroAV Try.prog 29 = [.d (.v (.int .i64 0))] := by kernel_rfl
@[go_sem] theorem ty48_has : hasT Try.prog 48 = true := by kernel_rfl
@[go_sem] theorem ty48_agg : aggT Try.prog 48 = false := by kernel_rfl
@[go_sem] theorem ty48_sz : szT Try.prog 48 = 1 := by kernel_rfl
@[go_sem] theorem ty48_sl : slT Try.prog 48 = false := by kernel_rfl
@[go_sem] theorem ty48_str : strT Try.prog 48 = false := by kernel_rfl
@[go_sem] theorem ty48_zok : zeroOk Try.prog 48 = true := by kernel_rfl
@[go_sem] theorem ty48_by : bytesT Try.prog 48 = 8 := by kernel_rfl
@[go_sem] theorem ty48_ar : arT Try.prog 48 = none := by kernel_rfl
@[go_sem] theorem ty48_pl : placesL Try.prog 48 = none := by kernel_rfl
@[go_sem] theorem ty48_z : zeroAV Try.prog 48 = [.d (.v (.nilFunc))] := by kernel_rfl
@[go_sem] theorem ty50_has : hasT Try.prog 50 = true := by kernel_rfl
@[go_sem] theorem ty50_agg : aggT Try.prog 50 = false := by kernel_rfl
@[go_sem] theorem ty50_sz : szT Try.prog 50 = 1 := by kernel_rfl
@[go_sem] theorem ty50_sl : slT Try.prog 50 = true := by kernel_rfl
@[go_sem] theorem ty50_str : strT Try.prog 50 = false := by kernel_rfl
@[go_sem] theorem ty50_zok : zeroOk Try.prog 50 = true := by kernel_rfl
@[go_sem] theorem ty50_by : bytesT Try.prog 50 = 24 := by kernel_rfl
@[go_sem] theorem ty50_el : elT Try.prog 50 = 61 := by kernel_rfl
@[go_sem] theorem ty50_ar : arT Try.prog 50 = none := by kernel_rfl
@[go_sem] theorem ty50_pl : placesL Try.prog 50 = none := by kernel_rfl
@[go_sem] theorem ty50_z : zeroAV Try.prog 50 = [.nil] := by kernel_rfl
@[go_sem] theorem ty51_has : hasT Try.prog 51 = true := by kernel_rfl
@[go_sem] theorem ty51_agg : aggT Try.prog 51 = false := by kernel_rfl
@[go_sem] theorem ty51_sz : szT Try.prog 51 = 1 := by kernel_rfl
@[go_sem] theorem ty51_sl : slT Try.prog 51 = true := by kernel_rfl
@[go_sem] theorem ty51_str : strT Try.prog 51 = false := by kernel_rfl
@[go_sem] theorem ty51_zok : zeroOk Try.prog 51 = true := by kernel_rfl
@[go_sem] theorem ty51_by : bytesT Try.prog 51 = 24 := by kernel_rfl
@[go_sem] theorem ty51_el : elT Try.prog 51 = 93 := by kernel_rfl
@[go_sem] theorem ty51_ar : arT Try.prog 51 = none := by kernel_rfl
@[go_sem] theorem ty51_pl : placesL Try.prog 51 = none := by kernel_rfl
@[go_sem] theorem ty51_z : zeroAV Try.prog 51 = [.nil] := by kernel_rfl
@[go_sem] theorem ty52_has : hasT Try.prog 52 = true := by kernel_rfl
@[go_sem] theorem ty52_agg : aggT Try.prog 52 = false := by kernel_rfl
@[go_sem] theorem ty52_sz : szT Try.prog 52 = 1 := by kernel_rfl
@[go_sem] theorem ty52_sl : slT Try.prog 52 = true := by kernel_rfl
@[go_sem] theorem ty52_str : strT Try.prog 52 = false := by kernel_rfl
@[go_sem] theorem ty52_zok : zeroOk Try.prog 52 = true := by kernel_rfl
@[go_sem] theorem ty52_by : bytesT Try.prog 52 = 24 := by kernel_rfl
@[go_sem] theorem ty52_el : elT Try.prog 52 = 22 := by kernel_rfl
@[go_sem] theorem ty52_ar : arT Try.prog 52 = none := by kernel_rfl
@[go_sem] theorem ty52_pl : placesL Try.prog 52 = none := by kernel_rfl
@[go_sem] theorem ty52_z : zeroAV Try.prog 52 = [.nil] := by kernel_rfl
@[go_sem] theorem ty54_has : hasT Try.prog 54 = true := by kernel_rfl
@[go_sem] theorem ty54_agg : aggT Try.prog 54 = true := by kernel_rfl
@[go_sem] theorem ty54_sz : szT Try.prog 54 = 2 := by kernel_rfl
@[go_sem] theorem ty54_sl : slT Try.prog 54 = false := by kernel_rfl
@[go_sem] theorem ty54_str : strT Try.prog 54 = false := by kernel_rfl
@[go_sem] theorem ty54_zok : zeroOk Try.prog 54 = true := by kernel_rfl
@[go_sem] theorem ty54_by : bytesT Try.prog 54 = 32 := by kernel_rfl
@[go_sem] theorem ty54_ar : arT Try.prog 54 = none := by kernel_rfl
@[go_sem] theorem ty54_pl : placesL Try.prog 54 = some [(0, 1), (1, 1)] := by kernel_rfl
@[go_sem] theorem ty54_f0 : fldT Try.prog 54 0 = some (0, 3) := by kernel_rfl
@[go_sem] theorem ty54_f1 : fldT Try.prog 54 1 = some (1, 52) := by kernel_rfl
@[go_sem] theorem ty54_z : zeroAV Try.prog 54 = [.d (.v (.int .i64 0)), .nil] := by kernel_rfl
@[go_sem] theorem ty61_has : hasT Try.prog 61 = true := by kernel_rfl
@[go_sem] theorem ty61_agg : aggT Try.prog 61 = false := by kernel_rfl
@[go_sem] theorem ty61_sz : szT Try.prog 61 = 1 := by kernel_rfl
@[go_sem] theorem ty61_sl : slT Try.prog 61 = true := by kernel_rfl
@[go_sem] theorem ty61_str : strT Try.prog 61 = false := by kernel_rfl
@[go_sem] theorem ty61_zok : zeroOk Try.prog 61 = true := by kernel_rfl
@[go_sem] theorem ty61_by : bytesT Try.prog 61 = 24 := by kernel_rfl
@[go_sem] theorem ty61_el : elT Try.prog 61 = 91 := by kernel_rfl
@[go_sem] theorem ty61_ar : arT Try.prog 61 = none := by kernel_rfl
@[go_sem] theorem ty61_pl : placesL Try.prog 61 = none := by kernel_rfl
@[go_sem] theorem ty61_z : zeroAV Try.prog 61 = [.nil] := by kernel_rfl
@[go_sem] theorem ty69_has : hasT Try.prog 69 = true := by kernel_rfl
@[go_sem] theorem ty69_agg : aggT Try.prog 69 = true := by kernel_rfl
@[go_sem] theorem ty69_sz : szT Try.prog 69 = 4 := by kernel_rfl
@[go_sem] theorem ty69_sl : slT Try.prog 69 = false := by kernel_rfl
@[go_sem] theorem ty69_str : strT Try.prog 69 = false := by kernel_rfl
@[go_sem] theorem ty69_zok : zeroOk Try.prog 69 = true := by kernel_rfl
@[go_sem] theorem ty69_by : bytesT Try.prog 69 = 48 := by kernel_rfl
@[go_sem] theorem ty69_ar : arT Try.prog 69 = none := by kernel_rfl
@[go_sem] theorem ty69_pl : placesL Try.prog 69 = some [(0, 1), (1, 3)] := by kernel_rfl
@[go_sem] theorem ty69_f0 : fldT Try.prog 69 0 = some (0, 3) := by kernel_rfl
@[go_sem] theorem ty69_f1 : fldT Try.prog 69 1 = some (1, 28) := by kernel_rfl
@[go_sem] theorem ty69_z : zeroAV Try.prog 69 = [.d (.v (.int .i64 0)), .d (.v (.int .i64 0)), .d (.v (.int .i64 0)), .nil] := by kernel_rfl
@[go_sem] theorem ty71_has : hasT Try.prog 71 = true := by kernel_rfl
@[go_sem] theorem ty71_agg : aggT Try.prog 71 = false := by kernel_rfl
@[go_sem] theorem ty71_sz : szT Try.prog 71 = 1 := by kernel_rfl
@[go_sem] theorem ty71_sl : slT Try.prog 71 = false := by kernel_rfl
@[go_sem] theorem ty71_str : strT Try.prog 71 = false := by kernel_rfl
@[go_sem] theorem ty71_zok : zeroOk Try.prog 71 = true := by kernel_rfl
@[go_sem] theorem ty71_by : bytesT Try.prog 71 = 8 := by kernel_rfl
@[go_sem] theorem ty71_ar : arT Try.prog 71 = none := by kernel_rfl
@[go_sem] theorem ty71_pl : placesL Try.prog 71 = none := by kernel_rfl
@[go_sem] theorem ty71_z : zeroAV Try.prog 71 = [.d (.v (.map none))] := by kernel_rfl
@[go_sem] theorem ty87_has : hasT Try.prog 87 = true := by kernel_rfl
@[go_sem] theorem ty87_agg : aggT Try.prog 87 = true := by kernel_rfl
@[go_sem] theorem ty87_sz : szT Try.prog 87 = 6 := by kernel_rfl
@[go_sem] theorem ty87_sl : slT Try.prog 87 = false := by kernel_rfl
@[go_sem] theorem ty87_str : strT Try.prog 87 = false := by kernel_rfl
@[go_sem] theorem ty87_zok : zeroOk Try.prog 87 = true := by kernel_rfl
@[go_sem] theorem ty87_by : bytesT Try.prog 87 = 80 := by kernel_rfl
@[go_sem] theorem ty87_el : elT Try.prog 87 = 28 := by kernel_rfl
@[go_sem] theorem ty87_ar : arT Try.prog 87 = some 2 := by kernel_rfl
@[go_sem] theorem ty87_pl : placesL Try.prog 87 = none := by kernel_rfl
@[go_sem] theorem ty87_z : zeroAV Try.prog 87 = [.d (.v (.int .i64 0)), .d (.v (.int .i64 0)), .nil, .d (.v (.int .i64 0)), .d (.v (.int .i64 0)), .nil] := by kernel_rfl
@[go_sem] theorem ty88_has : hasT Try.prog 88 = true := by kernel_rfl
@[go_sem] theorem ty88_agg : aggT Try.prog 88 = false := by kernel_rfl
@[go_sem] theorem ty88_sz : szT Try.prog 88 = 1 := by kernel_rfl
@[go_sem] theorem ty88_sl : slT Try.prog 88 = true := by kernel_rfl
@[go_sem] theorem ty88_str : strT Try.prog 88 = false := by kernel_rfl
@[go_sem] theorem ty88_zok : zeroOk Try.prog 88 = true := by kernel_rfl
@[go_sem] theorem ty88_by : bytesT Try.prog 88 = 24 := by kernel_rfl
@[go_sem] theorem ty88_el : elT Try.prog 88 = 87 := by kernel_rfl
@[go_sem] theorem ty88_ar : arT Try.prog 88 = none := by kernel_rfl
@[go_sem] theorem ty88_pl : placesL Try.prog 88 = none := by kernel_rfl
@[go_sem] theorem ty88_z : zeroAV Try.prog 88 = [.nil] := by kernel_rfl
@[go_sem] theorem ty91_has : hasT Try.prog 91 = true := by kernel_rfl
@[go_sem] theorem ty91_agg : aggT Try.prog 91 = true := by kernel_rfl
@[go_sem] theorem ty91_sz : szT Try.prog 91 = 7 := by kernel_rfl
@[go_sem] theorem ty91_sl : slT Try.prog 91 = false := by kernel_rfl
@[go_sem] theorem ty91_str : strT Try.prog 91 = false := by kernel_rfl
@[go_sem] theorem ty91_zok : zeroOk Try.prog 91 = true := by kernel_rfl
@[go_sem] theorem ty91_by : bytesT Try.prog 91 = 88 := by kernel_rfl
@[go_sem] theorem ty91_ar : arT Try.prog 91 = none := by kernel_rfl
@[go_sem] theorem ty91_pl : placesL Try.prog 91 = some [(0, 1), (1, 3), (4, 3)] := by kernel_rfl
@[go_sem] theorem ty91_f0 : fldT Try.prog 91 0 = some (0, 4) := by kernel_rfl
@[go_sem] theorem ty91_f1 : fldT Try.prog 91 1 = some (1, 28) := by kernel_rfl
@[go_sem] theorem ty91_f2 : fldT Try.prog 91 2 = some (4, 28) := by kernel_rfl
@[go_sem] theorem ty91_z : zeroAV Try.prog 91 = [.d (.v (.bool false)), .d (.v (.int .i64 0)), .d (.v (.int .i64 0)), .nil, .d (.v (.int .i64 0)), .d (.v (.int .i64 0)), .nil] := by kernel_rfl
@[go_sem] theorem ty93_has : hasT Try.prog 93 = true := by kernel_rfl
@[go_sem] theorem ty93_agg : aggT Try.prog 93 = true := by kernel_rfl
@[go_sem] theorem ty93_sz : szT Try.prog 93 = 8 := by kernel_rfl
@[go_sem] theorem ty93_sl : slT Try.prog 93 = false := by kernel_rfl
@[go_sem] theorem ty93_str : strT Try.prog 93 = false := by kernel_rfl
@[go_sem] theorem ty93_zok : zeroOk Try.prog 93 = true := by kernel_rfl
@[go_sem] theorem ty93_by : bytesT Try.prog 93 = 72 := by kernel_rfl
@[go_sem] theorem ty93_ar : arT Try.prog 93 = none := by kernel_rfl
@[go_sem] theorem ty93_pl : placesL Try.prog 93 = some [(0, 1), (1, 1), (2, 1), (3, 1), (4, 1), (5, 1), (6, 1), (7, 1)] := by kernel_rfl
@[go_sem] theorem ty93_f0 : fldT Try.prog 93 0 = some (0, 3) := by kernel_rfl
@[go_sem] theorem ty93_f1 : fldT Try.prog 93 1 = some (1, 3) := by kernel_rfl
@[go_sem] theorem ty93_f2 : fldT Try.prog 93 2 = some (2, 3) := by kernel_rfl
@[go_sem] theorem ty93_f3 : fldT Try.prog 93 3 = some (3, 3) := by kernel_rfl
@[go_sem] theorem ty93_f4 : fldT Try.prog 93 4 = some (4, 3) := by kernel_rfl
@[go_sem] theorem ty93_f5 : fldT Try.prog 93 5 = some (5, 4) := by kernel_rfl
@[go_sem] theorem ty93_f6 : fldT Try.prog 93 6 = some (6, 4) := by kernel_rfl
@[go_sem] theorem ty93_f7 : fldT Try.prog 93 7 = some (7, 22) := by kernel_rfl
@[go_sem] theorem ty93_z : zeroAV Try.prog 93 = [.d (.v (.int .i64 0)), .d (.v (.int .i64 0)), .d (.v (.int .i64 0)), .d (.v (.int .i64 0)), .d (.v (.int .i64 0)), .d (.v (.bool false)), .d (.v (.bool false)), .nil] := by kernel_rfl
@[go_sem] theorem ty101_has : hasT Try.prog 101 = true := by kernel_rfl
@[go_sem] theorem ty101_agg : aggT Try.prog 101 = false := by kernel_rfl
@[go_sem] theorem ty101_sz : szT Try.prog 101 = 1 := by kernel_rfl
@[go_sem] theorem ty101_sl : slT Try.prog 101 = false := by kernel_rfl
@[go_sem] theorem ty101_str : strT Try.prog 101 = false := by kernel_rfl
@[go_sem] theorem ty101_zok : zeroOk Try.prog 101 = true := by kernel_rfl
@[go_sem] theorem ty101_by : bytesT Try.prog 101 = 8 := by kernel_rfl
@[go_sem] theorem ty101_ar : arT Try.prog 101 = none := by kernel_rfl
@[go_sem] theorem ty101_pl : placesL Try.prog 101 = none := by kernel_rfl
@[go_sem] theorem ty101_z : zeroAV Try.prog 101 = [.d (.v (.nilFunc))] := by kernel_rfl
@[go_sem] theorem ty105_has : hasT Try.prog 105 = true := by kernel_rfl
@[go_sem] theorem ty105_agg : aggT Try.prog 105 = false := by kernel_rfl
@[go_sem] theorem ty105_sz : szT Try.prog 105 = 1 := by kernel_rfl
@[go_sem] theorem ty105_sl : slT Try.prog 105 = false := by kernel_rfl
@[go_sem] theorem ty105_str : strT Try.prog 105 = false := by kernel_rfl
@[go_sem] theorem ty105_zok : zeroOk Try.prog 105 = true := by kernel_rfl
@[go_sem] theorem ty105_by : bytesT Try.prog 105 = 8 := by kernel_rfl
@[go_sem] theorem ty105_ar : arT Try.prog 105 = none := by kernel_rfl
@[go_sem] theorem ty105_pl : placesL Try.prog 105 = none := by kernel_rfl
@[go_sem] theorem ty105_z : zeroAV Try.prog 105 = [.d (.v (.map none))] := by kernel_rfl
@[go_sem] theorem ty106_has : hasT Try.prog 106 = true := by kernel_rfl
@[go_sem] theorem ty106_agg : aggT Try.prog 106 = false := by kernel_rfl
@[go_sem] theorem ty106_sz : szT Try.prog 106 = 1 := by kernel_rfl
@[go_sem] theorem ty106_sl : slT Try.prog 106 = false := by kernel_rfl
@[go_sem] theorem ty106_str : strT Try.prog 106 = false := by kernel_rfl
@[go_sem] theorem ty106_zok : zeroOk Try.prog 106 = true := by kernel_rfl
@[go_sem] theorem ty106_by : bytesT Try.prog 106 = 8 := by kernel_rfl
@[go_sem] theorem ty106_ar : arT Try.prog 106 = none := by kernel_rfl
@[go_sem] theorem ty106_pl : placesL Try.prog 106 = none := by kernel_rfl
@[go_sem] theorem ty106_z : zeroAV Try.prog 106 = [.d (.v (.nilFunc))] := by kernel_rfl
@[go_sem] theorem ty109_has : hasT Try.prog 109 = true := by kernel_rfl
@[go_sem] theorem ty109_agg : aggT Try.prog 109 = false := by kernel_rfl
@[go_sem] theorem ty109_sz : szT Try.prog 109 = 1 := by kernel_rfl
@[go_sem] theorem ty109_sl : slT Try.prog 109 = false := by kernel_rfl
@[go_sem] theorem ty109_str : strT Try.prog 109 = false := by kernel_rfl
@[go_sem] theorem ty109_zok : zeroOk Try.prog 109 = true := by kernel_rfl
@[go_sem] theorem ty109_by : bytesT Try.prog 109 = 8 := by kernel_rfl
@[go_sem] theorem ty109_ar : arT Try.prog 109 = none := by kernel_rfl
@[go_sem] theorem ty109_pl : placesL Try.prog 109 = none := by kernel_rfl
@[go_sem] theorem ty109_z : zeroAV Try.prog 109 = [.d (.v (.nilFunc))] := by kernel_rfl
@[go_sem] theorem ty113_has : hasT Try.prog 113 = true := by kernel_rfl
@[go_sem] theorem ty113_agg : aggT Try.prog 113 = false := by kernel_rfl
@[go_sem] theorem ty113_sz : szT Try.prog 113 = 1 := by kernel_rfl
@[go_sem] theorem ty113_sl : slT Try.prog 113 = false := by kernel_rfl
@[go_sem] theorem ty113_str : strT Try.prog 113 = false := by kernel_rfl
@[go_sem] theorem ty113_zok : zeroOk Try.prog 113 = true := by kernel_rfl
@[go_sem] theorem ty113_by : bytesT Try.prog 113 = 8 := by kernel_rfl
@[go_sem] theorem ty113_ar : arT Try.prog 113 = none := by kernel_rfl
@[go_sem] theorem ty113_pl : placesL Try.prog 113 = none := by kernel_rfl
@[go_sem] theorem ty113_z : zeroAV Try.prog 113 = [.d (.v (.nilFunc))] := by kernel_rfl
@[go_sem] theorem ty119_has : hasT Try.prog 119 = true := by kernel_rfl
@[go_sem] theorem ty119_agg : aggT Try.prog 119 = false := by kernel_rfl
@[go_sem] theorem ty119_sz : szT Try.prog 119 = 1 := by kernel_rfl
@[go_sem] theorem ty119_sl : slT Try.prog 119 = false := by kernel_rfl
@[go_sem] theorem ty119_str : strT Try.prog 119 = false := by kernel_rfl
@[go_sem] theorem ty119_zok : zeroOk Try.prog 119 = true := by kernel_rfl
@[go_sem] theorem ty119_by : bytesT Try.prog 119 = 8 := by kernel_rfl
@[go_sem] theorem ty119_ar : arT Try.prog 119 = none := by kernel_rfl
@[go_sem] theorem ty119_pl : placesL Try.prog 119 = none := by kernel_rfl
@[go_sem] theorem ty119_z : zeroAV Try.prog 119 = [.d (.v (.nilFunc))] := by kernel_rfl
@[go_sem] theorem ty120_has : hasT Try.prog 120 = true := by kernel_rfl
@[go_sem] theorem ty120_agg : aggT Try.prog 120 = false := by kernel_rfl
@[go_sem] theorem ty120_sz : szT Try.prog 120 = 1 := by kernel_rfl
@[go_sem] theorem ty120_sl : slT Try.prog 120 = false := by kernel_rfl
@[go_sem] theorem ty120_str : strT Try.prog 120 = false := by kernel_rfl
@[go_sem] theorem ty120_zok : zeroOk Try.prog 120 = true := by kernel_rfl
@[go_sem] theorem ty120_by : bytesT Try.prog 120 = 8 := by kernel_rfl
@[go_sem] theorem ty120_ar : arT Try.prog 120 = none := by kernel_rfl
@[go_sem] theorem ty120_pl : placesL Try.prog 120 = none := by kernel_rfl
@[go_sem] theorem ty120_z : zeroAV Try.prog 120 = [.d (.v (.pointer none))] := by kernel_rfl
@[go_sem] theorem ty122_has : hasT Try.prog 122 = true := by kernel_rfl
@[go_sem] theorem ty122_agg : aggT Try.prog 122 = true := by kernel_rfl
@[go_sem] theorem ty122_sz : szT Try.prog 122 = 1 := by kernel_rfl
@[go_sem] theorem ty122_sl : slT Try.prog 122 = false := by kernel_rfl
@[go_sem] theorem ty122_str : strT Try.prog 122 = false := by kernel_rfl
@[go_sem] theorem ty122_zok : zeroOk Try.prog 122 = true := by kernel_rfl
@[go_sem] theorem ty122_by : bytesT Try.prog 122 = 8 := by kernel_rfl
@[go_sem] theorem ty122_ar : arT Try.prog 122 = none := by kernel_rfl
@[go_sem] theorem ty122_pl : placesL Try.prog 122 = some [(0, 1)] := by kernel_rfl
@[go_sem] theorem ty122_f0 : fldT Try.prog 122 0 = some (0, 71) := by kernel_rfl
@[go_sem] theorem ty122_z : zeroAV Try.prog 122 = [.d (.v (.map none))] := by kernel_rfl
@[go_sem] theorem ty126_has : hasT Try.prog 126 = true := by kernel_rfl
@[go_sem] theorem ty126_agg : aggT Try.prog 126 = false := by kernel_rfl
@[go_sem] theorem ty126_sz : szT Try.prog 126 = 1 := by kernel_rfl
@[go_sem] theorem ty126_sl : slT Try.prog 126 = false := by kernel_rfl
@[go_sem] theorem ty126_str : strT Try.prog 126 = false := by kernel_rfl
@[go_sem] theorem ty126_zok : zeroOk Try.prog 126 = true := by kernel_rfl
@[go_sem] theorem ty126_by : bytesT Try.prog 126 = 8 := by kernel_rfl
@[go_sem] theorem ty126_ar : arT Try.prog 126 = none := by kernel_rfl
@[go_sem] theorem ty126_pl : placesL Try.prog 126 = none := by kernel_rfl
@[go_sem] theorem ty126_z : zeroAV Try.prog 126 = [.d (.v (.nilFunc))] := by kernel_rfl
@[go_sem] theorem ty133_has : hasT Try.prog 133 = true := by kernel_rfl
@[go_sem] theorem ty133_agg : aggT Try.prog 133 = false := by kernel_rfl
@[go_sem] theorem ty133_sz : szT Try.prog 133 = 1 := by kernel_rfl
@[go_sem] theorem ty133_sl : slT Try.prog 133 = false := by kernel_rfl
@[go_sem] theorem ty133_str : strT Try.prog 133 = false := by kernel_rfl
@[go_sem] theorem ty133_zok : zeroOk Try.prog 133 = true := by kernel_rfl
@[go_sem] theorem ty133_by : bytesT Try.prog 133 = 8 := by kernel_rfl
@[go_sem] theorem ty133_ar : arT Try.prog 133 = none := by kernel_rfl
@[go_sem] theorem ty133_pl : placesL Try.prog 133 = none := by kernel_rfl
@[go_sem] theorem ty133_z : zeroAV Try.prog 133 = [.d (.v (.nilFunc))] := by kernel_rfl
@[go_sem] theorem ty135_has : hasT Try.prog 135 = true := by kernel_rfl
@[go_sem] theorem ty135_agg : aggT Try.prog 135 = false := by kernel_rfl
@[go_sem] theorem ty135_sz : szT Try.prog 135 = 1 := by kernel_rfl
@[go_sem] theorem ty135_sl : slT Try.prog 135 = false := by kernel_rfl
@[go_sem] theorem ty135_str : strT Try.prog 135 = false := by kernel_rfl
@[go_sem] theorem ty135_zok : zeroOk Try.prog 135 = true := by kernel_rfl
@[go_sem] theorem ty135_by : bytesT Try.prog 135 = 8 := by kernel_rfl
@[go_sem] theorem ty135_ar : arT Try.prog 135 = none := by kernel_rfl
@[go_sem] theorem ty135_pl : placesL Try.prog 135 = none := by kernel_rfl
@[go_sem] theorem ty135_z : zeroAV Try.prog 135 = [.d (.v (.nilFunc))] := by kernel_rfl
@[go_sem] theorem ty137_has : hasT Try.prog 137 = true := by kernel_rfl
@[go_sem] theorem ty137_agg : aggT Try.prog 137 = false := by kernel_rfl
@[go_sem] theorem ty137_sz : szT Try.prog 137 = 1 := by kernel_rfl
@[go_sem] theorem ty137_sl : slT Try.prog 137 = false := by kernel_rfl
@[go_sem] theorem ty137_str : strT Try.prog 137 = false := by kernel_rfl
@[go_sem] theorem ty137_zok : zeroOk Try.prog 137 = true := by kernel_rfl
@[go_sem] theorem ty137_by : bytesT Try.prog 137 = 8 := by kernel_rfl
@[go_sem] theorem ty137_ar : arT Try.prog 137 = none := by kernel_rfl
@[go_sem] theorem ty137_pl : placesL Try.prog 137 = none := by kernel_rfl
@[go_sem] theorem ty137_z : zeroAV Try.prog 137 = [.d (.v (.pointer none))] := by kernel_rfl
@[go_sem] theorem ty138_has : hasT Try.prog 138 = true := by kernel_rfl
@[go_sem] theorem ty138_agg : aggT Try.prog 138 = false := by kernel_rfl
@[go_sem] theorem ty138_sz : szT Try.prog 138 = 1 := by kernel_rfl
@[go_sem] theorem ty138_sl : slT Try.prog 138 = true := by kernel_rfl
@[go_sem] theorem ty138_str : strT Try.prog 138 = false := by kernel_rfl
@[go_sem] theorem ty138_zok : zeroOk Try.prog 138 = true := by kernel_rfl
@[go_sem] theorem ty138_by : bytesT Try.prog 138 = 24 := by kernel_rfl
@[go_sem] theorem ty138_el : elT Try.prog 138 = 168 := by kernel_rfl
@[go_sem] theorem ty138_ar : arT Try.prog 138 = none := by kernel_rfl
@[go_sem] theorem ty138_pl : placesL Try.prog 138 = none := by kernel_rfl
@[go_sem] theorem ty138_z : zeroAV Try.prog 138 = [.nil] := by kernel_rfl
@[go_sem] theorem ty140_has : hasT Try.prog 140 = true := by kernel_rfl
@[go_sem] theorem ty140_agg : aggT Try.prog 140 = false := by kernel_rfl
@[go_sem] theorem ty140_sz : szT Try.prog 140 = 1 := by kernel_rfl
@[go_sem] theorem ty140_sl : slT Try.prog 140 = false := by kernel_rfl
@[go_sem] theorem ty140_str : strT Try.prog 140 = false := by kernel_rfl
@[go_sem] theorem ty140_zok : zeroOk Try.prog 140 = true := by kernel_rfl
@[go_sem] theorem ty140_by : bytesT Try.prog 140 = 8 := by kernel_rfl
@[go_sem] theorem ty140_ar : arT Try.prog 140 = none := by kernel_rfl
@[go_sem] theorem ty140_pl : placesL Try.prog 140 = none := by kernel_rfl
@[go_sem] theorem ty140_z : zeroAV Try.prog 140 = [.d (.v (.map none))] := by kernel_rfl
@[go_sem] theorem ty142_has : hasT Try.prog 142 = true := by kernel_rfl
@[go_sem] theorem ty142_agg : aggT Try.prog 142 = true := by kernel_rfl
@[go_sem] theorem ty142_sz : szT Try.prog 142 = 4 := by kernel_rfl
@[go_sem] theorem ty142_sl : slT Try.prog 142 = false := by kernel_rfl
@[go_sem] theorem ty142_str : strT Try.prog 142 = false := by kernel_rfl
@[go_sem] theorem ty142_zok : zeroOk Try.prog 142 = true := by kernel_rfl
@[go_sem] theorem ty142_by : bytesT Try.prog 142 = 64 := by kernel_rfl
@[go_sem] theorem ty142_ar : arT Try.prog 142 = none := by kernel_rfl
@[go_sem] theorem ty142_pl : placesL Try.prog 142 = some [(0, 1), (1, 1), (2, 1), (3, 1)] := by kernel_rfl
@[go_sem] theorem ty142_f0 : fldT Try.prog 142 0 = some (0, 138) := by kernel_rfl
@[go_sem] theorem ty142_f1 : fldT Try.prog 142 1 = some (1, 138) := by kernel_rfl
@[go_sem] theorem ty142_f2 : fldT Try.prog 142 2 = some (2, 140) := by kernel_rfl
@[go_sem] theorem ty142_f3 : fldT Try.prog 142 3 = some (3, 140) := by kernel_rfl
@[go_sem] theorem ty142_z : zeroAV Try.prog 142 = [.nil, .nil, .d (.v (.map none)), .d (.v (.map none))] := by kernel_rfl
@[go_sem] theorem ty144_has : hasT Try.prog 144 = true := by kernel_rfl
@[go_sem] theorem ty144_agg : aggT Try.prog 144 = true := by kernel_rfl
@[go_sem] theorem ty144_sz : szT Try.prog 144 = 2 := by kernel_rfl
@[go_sem] theorem ty144_sl : slT Try.prog 144 = false := by kernel_rfl
@[go_sem] theorem ty144_str : strT Try.prog 144 = false := by kernel_rfl
@[go_sem] theorem ty144_zok : zeroOk Try.prog 144 = true := by kernel_rfl
@[go_sem] theorem ty144_by : bytesT Try.prog 144 = 16 := by kernel_rfl
@[go_sem] theorem ty144_el : elT Try.prog 144 = 3 := by kernel_rfl
@[go_sem] theorem ty144_ar : arT Try.prog 144 = some 2 := by kernel_rfl
@[go_sem] theorem ty144_pl : placesL Try.prog 144 = none := by kernel_rfl
@[go_sem] theorem ty144_z : zeroAV Try.prog 144 = [.d (.v (.int .i64 0)), .d (.v (.int .i64 0))] := by kernel_rfl
@[go_sem] theorem ty148_has : hasT Try.prog 148 = true := by kernel_rfl
@[go_sem] theorem ty148_agg : aggT Try.prog 148 = false := by kernel_rfl
@[go_sem] theorem ty148_sz : szT Try.prog 148 = 1 := by kernel_rfl
@[go_sem] theorem ty148_sl : slT Try.prog 148 = false := by kernel_rfl
@[go_sem] theorem ty148_str : strT Try.prog 148 = false := by kernel_rfl
@[go_sem] theorem ty148_zok : zeroOk Try.prog 148 = true := by kernel_rfl
@[go_sem] theorem ty148_by : bytesT Try.prog 148 = 8 := by kernel_rfl
@[go_sem] theorem ty148_ar : arT Try.prog 148 = none := by kernel_rfl
@[go_sem] theorem ty148_pl : placesL Try.prog 148 = none := by kernel_rfl
@[go_sem] theorem ty148_z : zeroAV Try.prog 148 = [.d (.v (.int .u64 0))] := by kernel_rfl
@[go_sem] theorem ty152_has : hasT Try.prog 152 = true := by kernel_rfl
@[go_sem] theorem ty152_agg : aggT Try.prog 152 = false := by kernel_rfl
@[go_sem] theorem ty152_sz : szT Try.prog 152 = 1 := by kernel_rfl
@[go_sem] theorem ty152_sl : slT Try.prog 152 = false := by kernel_rfl
@[go_sem] theorem ty152_str : strT Try.prog 152 = false := by kernel_rfl
@[go_sem] theorem ty152_zok : zeroOk Try.prog 152 = true := by kernel_rfl
@[go_sem] theorem ty152_by : bytesT Try.prog 152 = 8 := by kernel_rfl
@[go_sem] theorem ty152_ar : arT Try.prog 152 = none := by kernel_rfl
@[go_sem] theorem ty152_pl : placesL Try.prog 152 = none := by kernel_rfl
@[go_sem] theorem ty152_z : zeroAV Try.prog 152 = [.d (.v (.nilFunc))] := by kernel_rfl
@[go_sem] theorem ty168_has : hasT Try.prog 168 = true := by kernel_rfl
@[go_sem] theorem ty168_agg : aggT Try.prog 168 = true := by kernel_rfl
@[go_sem] theorem ty168_sz : szT Try.prog 168 = 4 := by kernel_rfl
@[go_sem] theorem ty168_sl : slT Try.prog 168 = false := by kernel_rfl
@[go_sem] theorem ty168_str : strT Try.prog 168 = false := by kernel_rfl
@[go_sem] theorem ty168_zok : zeroOk Try.prog 168 = true := by kernel_rfl
@[go_sem] theorem ty168_by : bytesT Try.prog 168 = 64 := by kernel_rfl
@[go_sem] theorem ty168_ar : arT Try.prog 168 = none := by kernel_rfl
@[go_sem] theorem ty168_pl : placesL Try.prog 168 = some [(0, 3), (3, 1)] := by kernel_rfl
@[go_sem] theorem ty168_f0 : fldT Try.prog 168 0 = some (0, 28) := by kernel_rfl
@[go_sem] theorem ty168_f1 : fldT Try.prog 168 1 = some (3, 22) := by kernel_rfl
@[go_sem] theorem ty168_z : zeroAV Try.prog 168 = [.d (.v (.int .i64 0)), .d (.v (.int .i64 0)), .nil, .nil] := by kernel_rfl
@[go_sem] theorem ty172_has : hasT Try.prog 172 = true := by kernel_rfl
@[go_sem] theorem ty172_agg : aggT Try.prog 172 = false := by kernel_rfl
@[go_sem] theorem ty172_sz : szT Try.prog 172 = 1 := by kernel_rfl
@[go_sem] theorem ty172_sl : slT Try.prog 172 = false := by kernel_rfl
@[go_sem] theorem ty172_str : strT Try.prog 172 = false := by kernel_rfl
@[go_sem] theorem ty172_zok : zeroOk Try.prog 172 = true := by kernel_rfl
@[go_sem] theorem ty172_by : bytesT Try.prog 172 = 8 := by kernel_rfl
@[go_sem] theorem ty172_ar : arT Try.prog 172 = none := by kernel_rfl
@[go_sem] theorem ty172_pl : placesL Try.prog 172 = none := by kernel_rfl
@[go_sem] theorem ty172_z : zeroAV Try.prog 172 = [.d (.v (.int .i64 0))] := by kernel_rfl
@[go_sem] theorem ty183_has : hasT Try.prog 183 = true := by kernel_rfl
@[go_sem] theorem ty183_agg : aggT Try.prog 183 = false := by kernel_rfl
@[go_sem] theorem ty183_sz : szT Try.prog 183 = 1 := by kernel_rfl
@[go_sem] theorem ty183_sl : slT Try.prog 183 = false := by kernel_rfl
@[go_sem] theorem ty183_str : strT Try.prog 183 = false := by kernel_rfl
@[go_sem] theorem ty183_zok : zeroOk Try.prog 183 = true := by kernel_rfl
@[go_sem] theorem ty183_by : bytesT Try.prog 183 = 8 := by kernel_rfl
@[go_sem] theorem ty183_ar : arT Try.prog 183 = none := by kernel_rfl
@[go_sem] theorem ty183_pl : placesL Try.prog 183 = none := by kernel_rfl
@[go_sem] theorem ty183_z : zeroAV Try.prog 183 = [.d (.v (.map none))] := by kernel_rfl
@[go_sem] theorem ty187_has : hasT Try.prog 187 = true := by kernel_rfl
@[go_sem] theorem ty187_agg : aggT Try.prog 187 = false := by kernel_rfl
@[go_sem] theorem ty187_sz : szT Try.prog 187 = 1 := by kernel_rfl
@[go_sem] theorem ty187_sl : slT Try.prog 187 = false := by kernel_rfl
@[go_sem] theorem ty187_str : strT Try.prog 187 = false := by kernel_rfl
@[go_sem] theorem ty187_zok : zeroOk Try.prog 187 = true := by kernel_rfl
@[go_sem] theorem ty187_by : bytesT Try.prog 187 = 8 := by kernel_rfl
@[go_sem] theorem ty187_ar : arT Try.prog 187 = none := by kernel_rfl
@[go_sem] theorem ty187_pl : placesL Try.prog 187 = none := by kernel_rfl
@[go_sem] theorem ty187_z : zeroAV Try.prog 187 = [.d (.v (.int .u64 0))] := by kernel_rfl
@[go_sem] theorem ty191_has : hasT Try.prog 191 = true := by kernel_rfl
@[go_sem] theorem ty191_agg : aggT Try.prog 191 = false := by kernel_rfl
@[go_sem] theorem ty191_sz : szT Try.prog 191 = 1 := by kernel_rfl
@[go_sem] theorem ty191_sl : slT Try.prog 191 = false := by kernel_rfl
@[go_sem] theorem ty191_str : strT Try.prog 191 = false := by kernel_rfl
@[go_sem] theorem ty191_zok : zeroOk Try.prog 191 = true := by kernel_rfl
@[go_sem] theorem ty191_by : bytesT Try.prog 191 = 8 := by kernel_rfl
@[go_sem] theorem ty191_ar : arT Try.prog 191 = none := by kernel_rfl
@[go_sem] theorem ty191_pl : placesL Try.prog 191 = none := by kernel_rfl
@[go_sem] theorem ty191_z : zeroAV Try.prog 191 = [.d (.v (.pointer none))] := by kernel_rfl
@[go_sem] theorem ty194_has : hasT Try.prog 194 = true := by kernel_rfl
@[go_sem] theorem ty194_agg : aggT Try.prog 194 = false := by kernel_rfl
@[go_sem] theorem ty194_sz : szT Try.prog 194 = 1 := by kernel_rfl
@[go_sem] theorem ty194_sl : slT Try.prog 194 = false := by kernel_rfl
@[go_sem] theorem ty194_str : strT Try.prog 194 = false := by kernel_rfl
@[go_sem] theorem ty194_zok : zeroOk Try.prog 194 = true := by kernel_rfl
@[go_sem] theorem ty194_by : bytesT Try.prog 194 = 8 := by kernel_rfl
@[go_sem] theorem ty194_ar : arT Try.prog 194 = none := by kernel_rfl
@[go_sem] theorem ty194_pl : placesL Try.prog 194 = none := by kernel_rfl
@[go_sem] theorem ty194_z : zeroAV Try.prog 194 = [.d (.v (.nilFunc))] := by kernel_rfl
theorem enter3 : enterOk Try.prog 3 := by intro a w; go_simp
theorem enter4 : enterOk Try.prog 4 := by intro a w; go_simp
theorem enter5 : enterOk Try.prog 5 := by intro a w; go_simp
theorem enter6 : enterOk Try.prog 6 := by intro a w; go_simp
theorem enter7 : enterOk Try.prog 7 := by intro a w; go_simp
theorem enter8 : enterOk Try.prog 8 := by intro a w; go_simp
theorem enter9 : enterOk Try.prog 9 := by intro a w; go_simp
theorem enter10 : enterOk Try.prog 10 := by intro a w; go_simp
theorem enter11 : enterOk Try.prog 11 := by intro a w; go_simp
theorem enter12 : enterOk Try.prog 12 := by intro a w; go_simp
theorem enter13 : enterOk Try.prog 13 := by intro a w; go_simp
theorem enter14 : enterOk Try.prog 14 := by intro a w; go_simp
theorem enter15 : enterOk Try.prog 15 := by intro a w; go_simp
theorem enter16 : enterOk Try.prog 16 := by intro a w; go_simp
theorem enter17 : enterOk Try.prog 17 := by intro a w; go_simp
theorem enter18 : enterOk Try.prog 18 := by intro a w; go_simp
theorem enter19 : enterOk Try.prog 19 := by intro a w; go_simp
theorem enter20 : enterOk Try.prog 20 := by intro a w; go_simp
theorem enter21 : enterOk Try.prog 21 := by intro a w; go_simp
theorem enter22 : enterOk Try.prog 22 := by intro a w; go_simp
theorem enter23 : enterOk Try.prog 23 := by intro a w; go_simp
theorem enter24 : enterOk Try.prog 24 := by intro a w; go_simp
theorem enter25 : enterOk Try.prog 25 := by intro a w; go_simp
theorem enter26 : enterOk Try.prog 26 := by intro a w; go_simp
theorem enter27 : enterOk Try.prog 27 := by intro a w; go_simp
theorem enter28 : enterOk Try.prog 28 := by intro a w; go_simp
theorem enter29 : enterOk Try.prog 29 := by intro a w; go_simp
theorem enter30 : enterOk Try.prog 30 := by intro a w; go_simp
theorem enter31 : enterOk Try.prog 31 := by intro a w; go_simp
theorem enter32 : enterOk Try.prog 32 := by intro a w; go_simp
theorem enter33 : enterOk Try.prog 33 := by intro a w; go_simp
theorem enter34 : enterOk Try.prog 34 := by intro a w; go_simp
theorem enter35 : enterOk Try.prog 35 := by intro a w; go_simp
theorem enter36 : enterOk Try.prog 36 := by intro a w; go_simp
theorem enter37 : enterOk Try.prog 37 := by intro a w; go_simp
theorem enter38 : enterOk Try.prog 38 := by intro a w; go_simp
theorem enter39 : enterOk Try.prog 39 := by intro a w; go_simp
theorem enter40 : enterOk Try.prog 40 := by intro a w; go_simp
theorem enter41 : enterOk Try.prog 41 := by intro a w; go_simp
theorem enter42 : enterOk Try.prog 42 := by intro a w; go_simp
theorem enter43 : enterOk Try.prog 43 := by intro a w; go_simp
theorem enter44 : enterOk Try.prog 44 := by intro a w; go_simp
theorem enter45 : enterOk Try.prog 45 := by intro a w; go_simp
theorem enter46 : enterOk Try.prog 46 := by intro a w; go_simp
theorem enter47 : enterOk Try.prog 47 := by intro a w; go_simp
theorem enter48 : enterOk Try.prog 48 := by intro a w; go_simp
theorem enter49 : enterOk Try.prog 49 := by intro a w; go_simp
theorem enter50 : enterOk Try.prog 50 := by intro a w; go_simp
theorem enter51 : enterOk Try.prog 51 := by intro a w; go_simp
theorem enter52 : enterOk Try.prog 52 := by intro a w; go_simp
theorem enter53 : enterOk Try.prog 53 := by intro a w; go_simp
theorem enter54 : enterOk Try.prog 54 := by intro a w; go_simp
theorem enter55 : enterOk Try.prog 55 := by intro a w; go_simp
theorem enter56 : enterOk Try.prog 56 := by intro a w; go_simp
theorem enter57 : enterOk Try.prog 57 := by intro a w; go_simp
theorem enter58 : enterOk Try.prog 58 := by intro a w; go_simp
theorem enter59 : enterOk Try.prog 59 := by intro a w; go_simp
theorem enter60 : enterOk Try.prog 60 := by intro a w; go_simp
theorem enter61 : enterOk Try.prog 61 := by intro a w; go_simp
theorem enter62 : enterOk Try.prog 62 := by intro a w; go_simp
theorem enter63 : enterOk Try.prog 63 := by intro a w; go_simp
theorem enter64 : enterOk Try.prog 64 := by intro a w; go_simp
theorem enter65 : enterOk Try.prog 65 := by intro a w; go_simp
theorem enter66 : enterOk Try.prog 66 := by intro a w; go_simp
theorem enter67 : enterOk Try.prog 67 := by intro a w; go_simp
theorem enter68 : enterOk Try.prog 68 := by intro a w; go_simp
theorem enter69 : enterOk Try.prog 69 := by intro a w; go_simp
theorem enter70 : enterOk Try.prog 70 := by intro a w; go_simp
theorem enter71 : enterOk Try.prog 71 := by intro a w; go_simp
theorem enter72 : enterOk Try.prog 72 := by intro a w; go_simp
theorem enter73 : enterOk Try.prog 73 := by intro a w; go_simp
theorem enter74 : enterOk Try.prog 74 := by intro a w; go_simp
theorem enter75 : enterOk Try.prog 75 := by intro a w; go_simp
theorem enter76 : enterOk Try.prog 76 := by intro a w; go_simp
theorem enter77 : enterOk Try.prog 77 := by intro a w; go_simp
theorem enter78 : enterOk Try.prog 78 := by intro a w; go_simp
theorem enter79 : enterOk Try.prog 79 := by intro a w; go_simp
theorem enter80 : enterOk Try.prog 80 := by intro a w; go_simp
theorem enter81 : enterOk Try.prog 81 := by intro a w; go_simp
theorem enter82 : enterOk Try.prog 82 := by intro a w; go_simp
theorem enter83 : enterOk Try.prog 83 := by intro a w; go_simp
theorem enter84 : enterOk Try.prog 84 := by intro a w; go_simp
theorem enter85 : enterOk Try.prog 85 := by intro a w; go_simp
theorem enter86 : enterOk Try.prog 86 := by intro a w; go_simp
theorem enter87 : enterOk Try.prog 87 := by intro a w; go_simp
theorem enter88 : enterOk Try.prog 88 := by intro a w; go_simp
theorem enter89 : enterOk Try.prog 89 := by intro a w; go_simp
theorem enter90 : enterOk Try.prog 90 := by intro a w; go_simp
theorem enter91 : enterOk Try.prog 91 := by intro a w; go_simp
theorem enter92 : enterOk Try.prog 92 := by intro a w; go_simp
theorem enter93 : enterOk Try.prog 93 := by intro a w; go_simp
theorem enter94 : enterOk Try.prog 94 := by intro a w; go_simp
theorem enter95 : enterOk Try.prog 95 := by intro a w; go_simp
theorem enter96 : enterOk Try.prog 96 := by intro a w; go_simp
theorem enter97 : enterOk Try.prog 97 := by intro a w; go_simp
theorem enter98 : enterOk Try.prog 98 := by intro a w; go_simp
theorem enter99 : enterOk Try.prog 99 := by intro a w; go_simp
theorem enter100 : enterOk Try.prog 100 := by intro a w; go_simp
theorem enter101 : enterOk Try.prog 101 := by intro a w; go_simp
theorem enter102 : enterOk Try.prog 102 := by intro a w; go_simp
theorem enter103 : enterOk Try.prog 103 := by intro a w; go_simp
theorem enter104 : enterOk Try.prog 104 := by intro a w; go_simp
theorem enter105 : enterOk Try.prog 105 := by intro a w; go_simp
theorem enter107 : enterOk Try.prog 107 := by intro a w; go_simp
theorem enter108 : enterOk Try.prog 108 := by intro a w; go_simp
theorem enter109 : enterOk Try.prog 109 := by intro a w; go_simp
theorem enter110 : enterOk Try.prog 110 := by intro a w; go_simp
theorem enter111 : enterOk Try.prog 111 := by intro a w; go_simp
theorem enter112 : enterOk Try.prog 112 := by intro a w; go_simp
theorem enter113 : enterOk Try.prog 113 := by intro a w; go_simp
theorem enter114 : enterOk Try.prog 114 := by intro a w; go_simp
theorem enter115 : enterOk Try.prog 115 := by intro a w; go_simp
theorem enter116 : enterOk Try.prog 116 := by intro a w; go_simp
theorem enter117 : enterOk Try.prog 117 := by intro a w; go_simp
theorem enter118 : enterOk Try.prog 118 := by intro a w; go_simp
theorem enter119 : enterOk Try.prog 119 := by intro a w; go_simp
theorem enter120 : enterOk Try.prog 120 := by intro a w; go_simp
theorem enter121 : enterOk Try.prog 121 := by intro a w; go_simp
theorem enter122 : enterOk Try.prog 122 := by intro a w; go_simp
theorem enter123 : enterOk Try.prog 123 := by intro a w; go_simp
theorem enter124 : enterOk Try.prog 124 := by intro a w; go_simp
theorem enter125 : enterOk Try.prog 125 := by intro a w; go_simp
theorem enter126 : enterOk Try.prog 126 := by intro a w; go_simp
theorem enter127 : enterOk Try.prog 127 := by intro a w; go_simp
theorem enter128 : enterOk Try.prog 128 := by intro a w; go_simp
theorem enter129 : enterOk Try.prog 129 := by intro a w; go_simp
theorem enter130 : enterOk Try.prog 130 := by intro a w; go_simp
theorem enter131 : enterOk Try.prog 131 := by intro a w; go_simp
theorem enter132 : enterOk Try.prog 132 := by intro a w; go_simp
theorem enter133 : enterOk Try.prog 133 := by intro a w; go_simp
theorem enter134 : enterOk Try.prog 134 := by intro a w; go_simp
theorem enter137 : enterOk Try.prog 137 := by intro a w; go_simp
theorem enter138 : enterOk Try.prog 138 := by intro a w; go_simp
theorem enter139 : enterOk Try.prog 139 := by intro a w; go_simp
theorem enter140 : enterOk Try.prog 140 := by intro a w; go_simp
theorem enter141 : enterOk Try.prog 141 := by intro a w; go_simp
theorem enter142 : enterOk Try.prog 142 := by intro a w; go_simp
theorem enter143 : enterOk Try.prog 143 := by intro a w; go_simp
theorem enter144 : enterOk Try.prog 144 := by intro a w; go_simp
theorem enter145 : enterOk Try.prog 145 := by intro a w; go_simp
theorem enter146 : enterOk Try.prog 146 := by intro a w; go_simp
theorem enter147 : enterOk Try.prog 147 := by intro a w; go_simp
theorem enter148 : enterOk Try.prog 148 := by intro a w; go_simp
theorem enter150 : enterOk Try.prog 150 := by intro a w; go_simp
theorem enter151 : enterOk Try.prog 151 := by intro a w; go_simp
theorem enter152 : enterOk Try.prog 152 := by intro a w; go_simp
theorem enter153 : enterOk Try.prog 153 := by intro a w; go_simp
theorem enter154 : enterOk Try.prog 154 := by intro a w; go_simp
theorem enter155 : enterOk Try.prog 155 := by intro a w; go_simp
theorem enter156 : enterOk Try.prog 156 := by intro a w; go_simp
theorem enter157 : enterOk Try.prog 157 := by intro a w; go_simp
theorem enter158 : enterOk Try.prog 158 := by intro a w; go_simp
theorem mixed : Try.prog.follows .mixedOrders = true := by kernel_rfl
end Go.Proofs.Ytmeekpinkfpnhab
namespace Go.Proofs.Ytmeekpinkfpnhab
inductive Tm where
  | mk (v f : Int) (us : List Tm)
def Tm.v : Tm → Int | .mk v _ _ => v
def Tm.f : Tm → Int | .mk _ f _ => f
def Tm.us : Tm → List Tm | .mk _ _ us => us
theorem Tm.eta : ∀ t : Tm, Tm.mk t.v t.f t.us = t | .mk _ _ _ => rfl
theorem Tm.ind {P : Tm → Prop} (h : ∀ t, (∀ u ∈ t.us, P u) → P t) : ∀ t, P t := by
  intro t
  refine Tm.rec (motive_1 := P) (motive_2 := fun us => ∀ u ∈ us, P u) ?_ ?_ ?_ t
  · intro v f us ih; exact h _ ih
  · intro u hu; cases hu
  · intro t ts h1 h2 u hu
    cases hu with
    | head => exact h1
    | tail _ hu => exact h2 u hu
def Tm.size : Tm → Nat
  | .mk _ _ us => 1 + sizes us
where sizes : List Tm → Nat
  | [] => 0
  | t :: ts => t.size + sizes ts
theorem getD_at {α : Type} {l : List α} {i : Nat} (h : i < l.length) (d : α) : l.getD i d = l[i] := by
  rw [List.getD_eq_getElem?_getD, List.getElem?_eq_getElem h]; rfl
/-! ### term.Count, superposeref.SizeOf -/
mutual
def count : Tm → Int → Int
  | .mk _ _ us, most => countL us 1 most
def countL : List Tm → Int → Int → Int
  | [], n, _ => n
  | x :: xs, n, most => if n > most then n else countL xs (n + count x (most - n)) most
end
theorem count_eq (t : Tm) (most : Int) : count t most = countL t.us 1 most := by cases t; rw [count]; rfl
theorem countL_stop {us : List Tm} {n most : Int} (h : n > most) : countL us n most = n := by
  cases us with
  | nil => rw [countL]
  | cons x xs => rw [countL, if_pos h]
theorem countL_go {us : List Tm} {k : Nat} (hk : k < us.length) {n most : Int} (h : n ≤ most) :
    countL (us.drop k) n most = countL (us.drop (k + 1)) (n + count us[k] (most - n)) most := by
  rw [List.drop_eq_getElem_cons hk, countL, if_neg (by omega)]
theorem countL_end {us : List Tm} {n most : Int} : countL (us.drop us.length) n most = n := by
  rw [List.drop_length, countL]
mutual
theorem count_le : ∀ (t : Tm) (most : Int), 0 ≤ most → 1 ≤ count t most ∧ count t most ≤ most + 1
  | .mk v f us, most, h => by unfold count; exact countL_le us 1 most (by omega) (by omega)
theorem countL_le : ∀ (ts : List Tm) (n most : Int), 1 ≤ n → n ≤ most + 1 → 1 ≤ countL ts n most ∧ countL ts n most ≤ most + 1
  | [], n, most, h1, h2 => by unfold countL; omega
  | x :: xs, n, most, h1, h2 => by
    unfold countL
    split
    · omega
    · have := count_le x (most - n) (by omega)
      exact countL_le xs _ most (by omega) (by omega)
end
/-! ### term.form, superposeref.CheckTerm -/
def formOne (g : List Int) (v f : Int) (n : Nat) : Int :=
  if v ≠ 0 then
    if v < 1 ∨ v > 1000 then 3
    else if n > 0 ∨ f ≠ 0 then 1
    else 0
  else if f < 0 ∨ f ≥ g.length then 5
  else if (n : Int) ≠ g.getD f.toNat 0 then 1
  else 0
mutual
def form (g : List Int) : Tm → Int
  | .mk v f us => if formL g us ≠ 0 then formL g us else formOne g v f us.length
def formL (g : List Int) : List Tm → Int
  | [] => 0
  | x :: xs => if form g x ≠ 0 then form g x else formL g xs
end
theorem form_eq (g : List Int) (t : Tm) : form g t = if formL g t.us ≠ 0 then formL g t.us else formOne g t.v t.f t.us.length := by
  cases t; rw [form]; rfl
def own (g : List Int) (t : Tm) : Int := if count t 120 > 120 then 2 else form g t
/-! ### term.Signature -/
def sigOk (g : List Int) : Int := if g.length > 12 then 2 else if g.any (fun n => n < 0 || n > 3) then 3 else 0
def ownL (g : List Int) : List Tm → Int
  | [] => 0
  | x :: xs => if own g x ≠ 0 then own g x else ownL g xs
def allOk (g : List Int) (l : List Tm) : Int := if sigOk g ≠ 0 then sigOk g else ownL g l
/-! ### term.Same, superposeref.SameTerm -/
mutual
def same : Tm → Tm → Bool
  | .mk v f us, .mk v' f' us' => v == v' && f == f' && sameL us us'
def sameL : List Tm → List Tm → Bool
  | [], [] => true
  | x :: xs, y :: ys => same x y && sameL xs ys
  | _, _ => false
end
theorem same_eq (t u : Tm) : same t u = (t.v == u.v && t.f == u.f && sameL t.us u.us) := by cases t; cases u; rw [same]; rfl
mutual
theorem same_iff : ∀ a b : Tm, same a b = true ↔ a = b
  | .mk v f us, .mk v' f' us' => by
    rw [same, Bool.and_eq_true, Bool.and_eq_true, beq_iff_eq, beq_iff_eq, sameL_iff us us']
    constructor
    · rintro ⟨⟨rfl, rfl⟩, rfl⟩; rfl
    · intro h; cases h; exact ⟨⟨rfl, rfl⟩, rfl⟩
theorem sameL_iff : ∀ a b : List Tm, sameL a b = true ↔ a = b
  | [], [] => by simp [sameL]
  | [], _ :: _ => by simp [sameL]
  | _ :: _, [] => by simp [sameL]
  | x :: xs, y :: ys => by
    rw [sameL, Bool.and_eq_true, same_iff x y, sameL_iff xs ys]
    constructor
    · rintro ⟨rfl, rfl⟩; rfl
    · intro h; cases h; exact ⟨rfl, rfl⟩
end
def formAll (g : List Int) : List Tm → Int
  | [] => 0
  | x :: xs => if formOne g x.v x.f x.us.length ≠ 0 then formOne g x.v x.f x.us.length else formAll g xs
theorem formAll_append (g : List Int) (a b : List Tm) : formAll g (a ++ b) = if formAll g a ≠ 0 then formAll g a else formAll g b := by
  induction a with
  | nil => simp [formAll]
  | cons x xs ih =>
    simp only [List.cons_append, formAll, ih]
    by_cases h : formOne g x.v x.f x.us.length ≠ 0
    · simp [h]
    · simp only [ne_eq, Decidable.not_not] at h; simp [h]
theorem formAll_go {g : List Int} {l : List Tm} {k : Nat} (hk : k < l.length) (h : formOne g l[k].v l[k].f l[k].us.length = 0) : formAll g (l.drop k) = formAll g (l.drop (k + 1)) := by
  rw [List.drop_eq_getElem_cons hk, formAll, if_neg (by simp [h])]
theorem formAll_stop {g : List Int} {l : List Tm} {k : Nat} (hk : k < l.length) (h : formOne g l[k].v l[k].f l[k].us.length ≠ 0) : formAll g (l.drop k) = formOne g l[k].v l[k].f l[k].us.length := by
  rw [List.drop_eq_getElem_cons hk, formAll, if_pos h]
theorem same_rfl (t : Tm) : same t t = true := (same_iff t t).2 rfl
theorem sameL_take {a b : List Tm} {i : Nat} (hi : i < a.length) (hi' : i < b.length) (h : sameL (a.take i) (b.take i) = true) (hs : same a[i] b[i] = true) : sameL (a.take (i + 1)) (b.take (i + 1)) = true := by
  rw [sameL_iff] at h ⊢
  rw [same_iff] at hs
  rw [List.take_succ_eq_append_getElem hi, List.take_succ_eq_append_getElem hi', h, hs]
theorem sameL_not {a b : List Tm} {i : Nat} (hi : i < a.length) (hi' : i < b.length) (hs : same a[i] b[i] = false) : sameL a b = false := by
  rw [← Bool.not_eq_true, sameL_iff]
  rintro rfl
  rw [same_rfl] at hs
  cases hs
theorem sameL_len {a b : List Tm} (h : a.length ≠ b.length) : sameL a b = false := by
  rw [← Bool.not_eq_true, sameL_iff]
  rintro rfl
  exact h rfl
/-! ### superposeref.PartsOf, order.parts -/
mutual
def parts : Tm → List Tm
  | .mk v f us => partsL us ++ [.mk v f us]
def partsL : List Tm → List Tm
  | [] => []
  | x :: xs => parts x ++ partsL xs
end
theorem parts_eq (t : Tm) : parts t = partsL t.us ++ [t] := by cases t; rw [parts]; rfl
theorem partsL_append (a b : List Tm) : partsL (a ++ b) = partsL a ++ partsL b := by
  induction a with
  | nil => simp [partsL]
  | cons x xs ih => simp [partsL, ih]
theorem partsL_take {us : List Tm} {k : Nat} (hk : k < us.length) : partsL (us.take (k + 1)) = partsL (us.take k) ++ parts us[k] := by
  rw [List.take_succ_eq_append_getElem hk, partsL_append]; simp [partsL]
theorem partsL_le {us : List Tm} (k : Nat) : (partsL (us.take k)).length ≤ (partsL us).length := by
  rw [← List.take_append_drop k us, partsL_append]
  rw [List.take_append_drop, List.length_append]; omega
theorem partsL_at {us : List Tm} {k : Nat} (hk : k < us.length) : (partsL (us.take k)).length + (parts us[k]).length ≤ (partsL us).length := by
  have := partsL_le (us := us) (k + 1)
  rw [partsL_take hk, List.length_append] at this
  exact this
mutual
theorem formAll_parts (g : List Int) : ∀ t : Tm, formAll g (parts t) = form g t
  | .mk v f us => by
    rw [parts, formAll_append, formAll_partsL g us, form]
    simp only [formAll, Tm.v, Tm.f, Tm.us]
    by_cases h : formL g us ≠ 0
    · simp [h]
    · simp only [ne_eq, Decidable.not_not] at h
      simp only [h, ne_eq, not_true, if_false]
      by_cases h2 : formOne g v f us.length = 0 <;> simp [h2]
theorem formAll_partsL (g : List Int) : ∀ us : List Tm, formAll g (partsL us) = formL g us
  | [] => rfl
  | x :: xs => by
    rw [partsL, formAll_append, formAll_parts g x, formAll_partsL g xs, formL]
end
mutual
theorem count_parts : ∀ (t : Tm) (most : Int), 0 ≤ most → count t most ≤ most → ((parts t).length : Int) = count t most
  | .mk v f us, most, h, h2 => by
    rw [parts, List.length_append]
    rw [count] at h2 ⊢
    have := countL_parts us 1 most (by omega) h2
    simp
    omega
theorem countL_parts : ∀ (us : List Tm) (n most : Int), 0 ≤ n → countL us n most ≤ most → n + (partsL us).length = countL us n most
  | [], n, most, h0, h => by simp [partsL, countL]
  | x :: xs, n, most, h0, h => by
    rw [countL] at h ⊢
    by_cases hn : n > most
    · rw [if_pos hn] at h; omega
    · rw [if_neg hn] at h ⊢
      have h1 := count_le x (most - n) (by omega)
      rw [partsL, List.length_append]
      by_cases hx : count x (most - n) ≤ most - n
      · have := count_parts x (most - n) (by omega) hx
        have := countL_parts xs (n + count x (most - n)) most (by omega) h
        simp
        omega
      · rw [countL_stop (by omega)] at h
        omega
end
/-! ### order.parts: each part with the numbers of its arguments -/
mutual
def pn : Tm → Nat → List (Tm × List Int)
  | .mk v f us, n => pnL us n ++ [(.mk v f us, idxs us n)]
def pnL : List Tm → Nat → List (Tm × List Int)
  | [], _ => []
  | x :: xs, n => pn x n ++ pnL xs (n + (parts x).length)
def idxs : List Tm → Nat → List Int
  | [], _ => []
  | x :: xs, n => ((n : Int) + (parts x).length - 1) :: idxs xs (n + (parts x).length)
end
theorem pn_eq (t : Tm) (n : Nat) : pn t n = pnL t.us n ++ [(t, idxs t.us n)] := by cases t; rw [pn]; rfl
mutual
theorem pn_fst : ∀ (t : Tm) (n : Nat), (pn t n).map (·.1) = parts t
  | .mk v f us, n => by rw [pn, List.map_append, pnL_fst us n, parts]; rfl
theorem pnL_fst : ∀ (us : List Tm) (n : Nat), (pnL us n).map (·.1) = partsL us
  | [], _ => rfl
  | x :: xs, n => by rw [pnL, List.map_append, pn_fst x n, pnL_fst xs, partsL]
end
theorem pn_len (t : Tm) (n : Nat) : (pn t n).length = (parts t).length := by rw [← pn_fst t n, List.length_map]
theorem pnL_len (us : List Tm) (n : Nat) : (pnL us n).length = (partsL us).length := by rw [← pnL_fst us n, List.length_map]
theorem pnL_append (a b : List Tm) (n : Nat) : pnL (a ++ b) n = pnL a n ++ pnL b (n + (partsL a).length) := by
  induction a generalizing n with
  | nil => simp [pnL, partsL]
  | cons x xs ih => simp [pnL, partsL, ih, Nat.add_assoc]
theorem idxs_append (a b : List Tm) (n : Nat) : idxs (a ++ b) n = idxs a n ++ idxs b (n + (partsL a).length) := by
  induction a generalizing n with
  | nil => simp [idxs, partsL]
  | cons x xs ih => simp [idxs, partsL, ih, Nat.add_assoc]
theorem idxs_len (us : List Tm) (n : Nat) : (idxs us n).length = us.length := by
  induction us generalizing n with
  | nil => rfl
  | cons x xs ih => simp [idxs, ih]
theorem pnL_take {us : List Tm} {k : Nat} (hk : k < us.length) (n : Nat) : pnL (us.take (k + 1)) n = pnL (us.take k) n ++ pn us[k] (n + (pnL (us.take k) n).length) := by
  rw [List.take_succ_eq_append_getElem hk, pnL_append, pnL_len]; simp [pnL]
theorem idxs_take {us : List Tm} {k : Nat} (hk : k < us.length) (n : Nat) : idxs (us.take (k + 1)) n = idxs (us.take k) n ++ [((n + (pnL (us.take (k + 1)) n).length : Nat) : Int) - 1] := by
  rw [pnL_len, partsL_take hk, List.length_append, List.take_succ_eq_append_getElem hk, idxs_append]
  simp [idxs]
  omega
end Go.Proofs.Ytmeekpinkfpnhab
namespace Go.Proofs.Ytmeekpinkfpnhab
open Go.RowKit
abbrev iD (n : Int) : DV := .v (.int .i64 n)
abbrev bD (b : Bool) : DV := .v (.bool b)
abbrev iA (n : Int) : AV := .d (.v (.int .i64 n))
abbrev bA (b : Bool) : AV := .d (.v (.bool b))
theorem Tm.size_eq (t : Tm) : t.size = 1 + Tm.size.sizes t.us := by cases t; rfl
theorem Tm.sizes_at : ∀ (ts : List Tm) (i : Nat) (h : i < ts.length), ts[i].size ≤ Tm.size.sizes ts
  | t :: ts, 0, _ => by simp only [Tm.size.sizes, List.getElem_cons_zero]; omega
  | t :: ts, i + 1, h => by simp only [Tm.size.sizes, List.getElem_cons_succ]; have := Tm.sizes_at ts i (by simpa using h); omega
theorem Tm.sizes_len : ∀ (ts : List Tm), ts.length ≤ Tm.size.sizes ts
  | [] => Nat.le_refl _
  | t :: ts => by simp only [Tm.size.sizes, List.length_cons]; have := Tm.sizes_len ts; have := t.size_eq; omega
theorem Tm.size_at {t : Tm} {i : Nat} (h : i < t.us.length) : t.us[i].size < t.size := by have := Tm.sizes_at t.us i h; rw [t.size_eq]; omega
theorem Tm.len_lt (t : Tm) : t.us.length < t.size := by have := Tm.sizes_len t.us; rw [t.size_eq]; omega
def tmDV (t : Tm) : DV := .st [.v (.int .i64 t.v), .v (.int .i64 t.f), .sl (t.us.attach.map fun u => tmDV u.1)]
termination_by t.size
decreasing_by
  obtain ⟨i, hi, e⟩ := List.mem_iff_getElem.1 u.2
  rw [← e]; exact Tm.size_at hi
theorem tmDV_eq (t : Tm) : tmDV t = .st [.v (.int .i64 t.v), .v (.int .i64 t.f), .sl (t.us.map tmDV)] := by
  rw [tmDV]
  simp only [List.map_subtype, List.unattach_attach]
@[go_sem] theorem tmDV_cells (t : Tm) : (tmDV t).cells = [.v (.int .i64 t.v), .v (.int .i64 t.f), .sl (t.us.map tmDV)] := by rw [tmDV_eq]; rfl
@[go_sem] theorem tmDV_fold (t : Tm) : DV.st [.v (.int .i64 t.v), .v (.int .i64 t.f), .sl (t.us.map tmDV)] = tmDV t := (tmDV_eq t).symm
theorem nth_map {α : Type} (g : α → DV) {l : List α} {k : Nat} (hk : k < l.length) (d : DV) : (l.map g).getD k d = g l[k] := by
  rw [List.getD_eq_getElem?_getD, List.getElem?_map, List.getElem?_eq_getElem hk]; rfl
@[go_sem] theorem allD_nil : allD [] = some [] := rfl
@[go_sem] theorem allD_d (x : DV) (l : List AV) : allD (.d x :: l) = (allD l).map (x :: ·) := by
  rw [allD]; cases allD l <;> rfl
@[go_sem] theorem allD_n (l : List AV) : allD (.nil :: l) = (allD l).map (.sl [] :: ·) := by
  rw [allD]; cases allD l <;> rfl
@[go_sem] theorem allD_own (n : Nm) (xs : List DV) (l : List AV) : allD (.own n xs :: l) = (allD l).map (.sl xs :: ·) := by
  rw [allD]; cases allD l <;> rfl
@[go_sem] theorem map_append' {α β : Type} (f : α → β) (l r : List α) : l.map f ++ r.map f = (l ++ r).map f := List.map_append.symm
theorem tmL_sz (l : List Tm) : ∀ y ∈ l.map tmDV, y.cells.length = 3 := fun y hy => by
  obtain ⟨t, _, rfl⟩ := List.mem_map.1 hy
  rw [tmDV_cells]; rfl
def ownEff (e : TypeId) (n : Nm) (xs ys : List DV) : Eff := ⟨.own n ys, [(n, some (.perm e xs.length))], [(n, some (.perm e ys.length))]⟩
def newEff (e : TypeId) (n' : Nm) (ys : List DV) : Eff := ⟨.own n' ys, [(n', none)], [(n', some (.perm e ys.length))]⟩
theorem ret_own {P : Program} {fn : Func} {n : Nm} {e : TypeId} {xs ys : List DV} {h0 : Heap} {k : Nat} {s : St} (h1 : resOkL P fn.ntmps s fn.results.toList) (h2 : resA P s fn.results.toList = .own n ys) (hn : n.1 < k)
    (hp : s.h n = some (.perm e ys.length)) (hfr : ∀ x : Nm, x.1 < k → x ≠ n → s.h x = h0 x) : RetOK P fn (ownEff e n xs ys) h0 k s := by
  refine ⟨h1, none, ?_, fun x hx _ => ?_, fun y hy => (by cases hy), ?_⟩
  · rw [h2]; exact .refl fun m hm => by simp [ownEff, AV.names] at hm; subst hm; exact hn
  · by_cases hx2 : x = n
    · subst hx2; simp [ownEff, Eff.ap, upd, hp]
    · simp [ownEff, Eff.ap, upd, hx2, hfr x hx hx2]
  · intro x hx ob ho y hy
    simp only [ownEff, List.mem_cons, List.not_mem_nil, or_false] at hx
    subst hx
    cases ho; cases hy
theorem ret_new {P : Program} {fn : Func} {n' q : Nm} {e : TypeId} {ys : List DV} {h0 : Heap} {k : Nat} {s : St} (h1 : resOkL P fn.ntmps s fn.results.toList) (h2 : resA P s fn.results.toList = .own q ys) (hq : k ≤ q.1) (hn' : n'.1 < k) (h0' : h0 n' = none)
    (hp : s.h q = some (.perm e ys.length)) (hfr : Fr k h0 s.h) : RetOK P fn (newEff e n' ys) h0 k s := by
  have e1 : (newEff e n' ys).ap h0 n' = some (.perm e ys.length) := by simp [newEff, Eff.ap, upd]
  refine ⟨h1, some (n', q), ?_, fun x hx hxn => ?_, ?_, ?_⟩
  · rw [h2]; exact .own rfl
  · have hxn := hxn _ rfl
    simp only at hxn
    simp [newEff, Eff.ap, upd, hxn, hfr x hx]
  · rintro y hy
    cases hy
    exact ⟨hn', hq, h0', ⟨_, by simp only [newEff]; exact List.mem_cons_self .., rfl⟩, _, e1, hp, rfl⟩
  · intro x hx ob ho y hy
    simp only [newEff, List.mem_cons, List.not_mem_nil, or_false] at hx
    subst hx
    cases ho; cases hy
theorem HRel.hide {P : Program} {w0 w : World} {h h' : Heap} {k : Nat} {m : Mem} {β : Bl} {n : Nm} (H : HRel P w0 h' k m β w) (hh : ∀ x, x ≠ n → h' x = h x) (hn : h n = none) (hnm : ∀ x ob, h x = some ob → n ∉ ob.names) : HRel P w0 h k m (fun x => if x = n then none else β x) w := by
  have hne : ∀ x ob, h x = some ob → x ≠ n := fun x ob ho e => by subst e; rw [hn] at ho; cases ho
  have hb : ∀ x p, (if x = n then none else β x) = some p → x ≠ n ∧ β x = some p := fun x p hx => by
    split at hx
    · cases hx
    · exact ⟨by assumption, hx⟩
  refine ⟨H.ext, H.mem, fun x p hx => H.dom x p (hb x p hx).2, fun x p ob hx ho hr => ?_, fun x ob ho => ?_, fun x y p q ob ob' h1 h2 h3 h4 h5 h6 => ?_⟩
  · obtain ⟨h1, h2⟩ := hb x p hx
    exact H.new x p ob h2 ((hh x h1).trans ho) hr
  · obtain ⟨p, hp, hob⟩ := H.obj x ob ((hh x (hne x ob ho)).trans ho)
    refine ⟨p, by show (if x = n then none else β x) = _; rw [if_neg (hne x ob ho)]; exact hp, ?_⟩
    have hnn := hnm x ob ho
    cases ob with
    | cells ty cs =>
      obtain ⟨hv, c, c1, c2, c3, c4⟩ := hob
      refine ⟨hv, c, c1, c2, fun i u a hi ha => ⟨(c3 i u a hi ha).1, (c3 i u a hi ha).2.names fun y hy => ?_⟩, c4⟩
      have : y ≠ n := fun e => hnn (by subst e; exact names_mem ha hy)
      show (if y = n then none else β y) = _
      rw [if_neg this]
    | perm ty len => exact hob
    | map es => exact hob
    | iter src n' seen =>
      obtain ⟨h1, q, sn, h2, h3⟩ := hob
      have : src ≠ n := fun e => hnn (by subst e; simp [Ob.names])
      exact ⟨h1, q, sn, by show (if src = n then none else β src) = _; rw [if_neg this]; exact h2, h3⟩
    | bag es0 => exact hob
    | gro e len cs =>
      obtain ⟨hver, hob⟩ := hob
      refine ⟨hver, ?_⟩
      rcases hob with h | ⟨c, c1, c2, c3, c4, c5, c6, c7⟩
      · exact .inl h
      · refine .inr ⟨c, c1, c2, c3, c4, c5, fun i v a hi ha => ⟨(c6 i v a hi ha).1, (c6 i v a hi ha).2.names fun y hy => ?_⟩, c7⟩
        have : y ≠ n := fun e => hnn (by subst e; exact names_mem ha hy)
        show (if y = n then none else β y) = _
        rw [if_neg this]
  · exact H.inj x y p q ob ob' ((hh x (hne x ob h1)).trans h1) ((hh y (hne y ob' h2)).trans h2) (hb x p h3).2 (hb y q h4).2 h5 h6
theorem HRel.obk {P : Program} {w0 w : World} {h : Heap} {k : Nat} {m : Mem} {β : Bl} (H : HRel P w0 h k m β w) {n : Nm} {ob : Ob} (hn : h n = some ob) : ∀ y ∈ ob.names, ∃ p, β y = some p := by
  obtain ⟨q, hq, hob⟩ := H.obj n ob hn
  cases ob with
  | cells ty cs =>
    obtain ⟨_, c, c1, c2, c3, c4⟩ := hob
    intro y hy
    obtain ⟨i, a, hi, ha⟩ := mem_names hy
    have hlt := (List.getElem?_eq_some_iff.1 hi).1
    exact (c3 i _ a (Array.getElem?_eq_getElem (by omega)) hi).2.known y ha
  | iter src n' seen =>
    obtain ⟨_, q, sn, h2, _⟩ := hob
    intro y hy
    simp [Ob.names] at hy; subst hy
    exact ⟨q, h2⟩
  | gro e len cs =>
    intro y hy
    obtain ⟨i, a, hi, ha⟩ := mem_names hy
    have hlt := (List.getElem?_eq_some_iff.1 hi).1
    rcases hob.2 with ⟨_, _, h3⟩ | ⟨c, c1, c2, c3, c4, c5, c6, c7⟩
    · subst h3; cases hi
    · have hm : len * szT P e ≤ q.2 * szT P e := Nat.mul_le_mul_right _ c3
      exact (c6 i _ a (Array.getElem?_eq_getElem (by omega)) hi).2.known y ha
  | _ => intro y hy; simp [Ob.names] at hy
theorem Tri.data {P : Program} {f : FuncId} {args : List AV} {e : TypeId} {ys : List DV} (h : ∀ n', Tri P f args (newEff e n' ys)) : Tri P f args (pure' (.d (.sl ys))) := by
  intro w0 hh k m β w cargs H _ _ hsz hargs
  have hb : β (k, 0) = none := by
    cases hb : β (k, 0) with
    | none => rfl
    | some p => have := H.dom _ _ hb; simp at this
  have hn : hh (k, 0) = none := by
    cases hn : hh (k, 0) with
    | none => rfl
    | some ob => obtain ⟨p, hp, _⟩ := H.obj _ _ hn; rw [hb] at hp; cases hp
  refine (h (k, 0) w0 hh (k + 1) m β w cargs (H.tick (Nat.le_succ _)) (fun x hx => ?_) (fun x hx => ?_) hsz hargs).mono ?_
  · simp only [newEff, List.mem_cons, List.not_mem_nil, or_false] at hx; subst hx; exact hn
  · simp only [newEff, List.mem_cons, List.not_mem_nil, or_false] at hx; subst hx; exact ⟨Nat.lt_succ_self _, fun _ => hb⟩
  rintro en w' ⟨v, m', β', rfl, g1, g2, g3, g4, g5⟩
  have g3 : ∀ n, n ≠ (k, 0) → β n = none → β' n = none := fun n hne => g3 n fun x hx => by
    simp only [newEff, List.mem_cons, List.not_mem_nil, or_false] at hx; subst hx; exact Ne.symm hne
  have hap : ∀ n, n ≠ (k, 0) → (newEff e (k, 0) ys).ap hh n = hh n := fun n hne => by simp [newEff, Eff.ap, upd, hne]
  have H' := g4.hide hap hn fun x ob ho hx => by
    obtain ⟨p, hp⟩ := H.obk ho _ hx
    rw [hb] at hp; cases hp
  refine ⟨v, m', _, rfl, g1, fun n p hp => ?_, fun n _ h0 => ?_, ⟨H'.ext, H'.mem, fun n p hn => ?_, H'.new, H'.obj, H'.inj⟩, ?_⟩
  · obtain ⟨p', q1, q2⟩ := g2 n p hp
    refine ⟨p', ?_, q2⟩
    show (if n = (k, 0) then none else β' n) = _
    rw [if_neg (fun e => by subst e; rw [hb] at hp; cases hp)]; exact q1
  · show (if n = (k, 0) then none else β' n) = _
    split
    · rfl
    · rename_i hne; exact g3 n hne h0
  · have hne : n ≠ (k, 0) := fun e => by subst e; simp at hn
    have hn : β' n = some p := by simpa [hne] using hn
    cases h0 : β n with
    | none => rw [g3 n hne h0] at hn; cases hn
    | some q => exact H.dom n q h0
  · simp only [newEff] at g5
    cases g5 with
    | own hd _ _ _ _ => exact .d hd
def codeAt : List Bool → Code → Option Code
  | [], c => some c
  | false :: p, .seq a _ => codeAt p a
  | true :: p, .seq _ b => codeAt p b
  | false :: p, .cond _ a _ => codeAt p a
  | true :: p, .cond _ _ b => codeAt p b
  | _ :: p, .block _ a => codeAt p a
  | _ :: p, .loop a => codeAt p a
  | _, _ => none
def bodyAt (f : Func) (p : List Bool) : Option Code := f.body.bind (codeAt p)
abbrev Tm.fits (t : Tm) : Prop := t.size ≤ 4000000
theorem Tm.fits_at {t : Tm} (ht : t.fits) {i : Nat} (h : i < t.us.length) : t.us[i].fits := by have := Tm.size_at h; unfold Tm.fits at *; omega
theorem Tm.fits_len {t : Tm} (ht : t.fits) : t.us.length ≤ 4000000 := by have := t.len_lt; unfold Tm.fits at *; omega
end Go.Proofs.Ytmeekpinkfpnhab
namespace Go.Proofs.Ytmeekpinkfpnhab
open Go.RowKit
theorem hid {p : Prop} (h : p) : Hid p := h
abbrev Ext (w w' : World) : Prop := Below w.heap.size w w'
theorem Ext.rfl' (w : World) : Ext w w := Below.refl _ _
theorem Ext.step {a b c : World} (h : Ext a b) (k : Ext b c) : Ext a c := h.trans (k.mono h.size)
theorem Ext.new {a b : World} (h : Ext a b) (o : Obj) : Ext a (b.alloc o) := Below.alloc h h.size o
theorem Ext.draw {a b : World} (h : Ext a b) : Ext a b.drew := Below.drew h
theorem Ext.draws {a b : World} (h : Ext a b) (n : Nat) : Ext a (b.drewN n) := ⟨h.os, h.tape, h.output, h.size, h.block⟩
theorem Ext.one (w : World) (o : Obj) : Ext w (w.alloc o) := (Ext.rfl' w).new o
theorem Ext.set {a b : World} (h : Ext a b) {p : Addr} (hp : a.heap.size ≤ p.block) (u : Value) : Ext a (b.setCell p u) := Below.setCell h hp u
theorem add_none (b o n : Nat) : (⟨b, o, none⟩ : Addr).add n = ⟨b, o + n, none⟩ := by
  unfold Addr.add; split <;> simp_all
theorem cell_lt {w : World} {p : Addr} {v : Value} (h : w.cell? p = some v) : p.block < w.heap.size := by
  rcases Nat.lt_or_ge p.block w.heap.size with hlt | hge
  · exact hlt
  · rw [World.cell?, Array.getElem?_eq_none hge] at h; cases h
theorem Ext.some_ {w w' : World} (h : Ext w w') {p : Addr} {v : Value} (hc : w.cell? p = some v) : w'.cell? p = some v := (h.cell (cell_lt hc)).trans hc
theorem wp_region_mild {P : Program} {id : Nat} {Q : Exit → Act → World → Prop} {a : Act} {w : World} {l : List Oper} (hm : P.follows .mixedOrders = true) (hB : Region.lexB .any l.toArray = true)
    (h : ∀ (I : Type) [Nonempty I] (W : I → World), (∀ i, Ext w (W i)) → (∀ w', Ext w w' → ∃ i, w' = W i) → wpQuiet P l.toArray (fun w' => ∃ i, w' = W i) (fun a' => ∀ w', (∃ i, w' = W i) → Q .normal a' w') l a) : (Code.region id l.toArray true).wp P Q a w := by
  have hC : ∀ w', Ext w w' → ∃ i : { w' // Ext w w' }, w' = i.1 := fun w' h => ⟨⟨w', h⟩, rfl⟩
  refine wp_region_quiet (C := fun w' => ∃ i : { w' // Ext w w' }, w' = i.1) hm hB (hC _ (Ext.draw (Ext.rfl' w))) ?_
  haveI : Nonempty { w' // Ext w w' } := ⟨⟨w, Ext.rfl' w⟩⟩
  simpa using h { w' // Ext w w' } (fun i => i.1) (fun i => i.2) hC
theorem mild_cell {I : Type} {W : I → World} {w : World} (hE : ∀ i, Ext w (W i)) {p : Addr} {v : Value} (hc : w.cell? p = some v) : ∀ i, (W i).cell? p = some v := fun i => (hE i).some_ hc
theorem mild_call {P : Program} {I : Type} {W : I → World} {w : World} (hE : ∀ i, Ext w (W i)) (hC : ∀ w', Ext w w' → ∃ i, w' = W i) {f : FuncId} {args : Array Value} {v : Value} {i : I}
    (h : Calls P f args (W i) fun e w' => e = .returned v ∧ Ext (W i) w') : Calls P f args (W i) fun e w'' => e = .returned v ∧ ∃ j, w'' = W j :=
  h.mono fun _ _ ⟨he, hx⟩ => ⟨he, hC _ ((hE i).step hx)⟩
theorem Ext.boxed {w wr : World} {c : Array Value} {t : TypeId} (h : Ext (w.alloc (.cells c t)) wr) (i : Nat) : wr.cell? ⟨w.heap.size, i, none⟩ = c[i]? := by
  rw [h.cell (p := ⟨w.heap.size, i, none⟩) (by simp), World.cell?_alloc_new]
theorem Ext.boxed2 {w wr : World} {c : Array Value} {t : TypeId} {o : Obj} (h : Ext ((w.alloc (.cells c t)).alloc o) wr) (i : Nat) : wr.cell? ⟨w.heap.size, i, none⟩ = c[i]? :=
  Ext.boxed ((Ext.one _ o).step h) i
theorem Ext.boxed2' {w wr : World} {c : Array Value} {t : TypeId} {o : Obj} (h : Ext ((w.alloc o).alloc (.cells c t)) wr) (i : Nat) : wr.cell? ⟨w.heap.size + 1, i, none⟩ = c[i]? := by
  have := Ext.boxed h i
  simpa using this
theorem Ext.sz1 {w wr : World} {o : Obj} (h : Ext (w.alloc o) wr) : w.heap.size < wr.heap.size := by have := h.size; simp at this; omega
theorem Ext.sz2 {w wr : World} {o o' : Obj} (h : Ext ((w.alloc o).alloc o') wr) : w.heap.size < wr.heap.size ∧ w.heap.size + 1 < wr.heap.size := by have := h.size; simp at this; omega
theorem Ext.two (w : World) (o o' : Obj) : Ext w ((w.alloc o).alloc o') := (Ext.one _ _).new _
def Keeps (S : Nat → Prop) (w w' : World) : Prop := w.heap.size ≤ w'.heap.size ∧ ∀ b, S b → b < w.heap.size → w'.heap[b]? = w.heap[b]?
theorem Keeps.ext {S : Nat → Prop} {w w' : World} (h : Ext w w') : Keeps S w w' := ⟨h.size, fun b _ hb => h.block b hb⟩
theorem Keeps.grown {S : Nat → Prop} {w w' : World} {r : Option Nat} (h : w.grownBy w' r) (hr : ∀ b, S b → some b ≠ r) : Keeps S w w' := ⟨h.size, fun b hb hl => h.block b hl (hr b hb)⟩
theorem Keeps.cell {S : Nat → Prop} {w w' : World} (h : Keeps S w w') {ad : Addr} (hs : S ad.block) (hb : ad.block < w.heap.size) : w'.cell? ad = w.cell? ad :=
  World.cell?_of_block (h.2 _ hs hb)
abbrev All' : Nat → Prop := fun _ => True
/-! ### slices -/
def Sl (w : World) (S : Nat → Prop) (sz : Nat) {α : Type} (R : α → Addr → Prop) (ts : List α) (a : Option Addr) : Prop :=
  ∀ i (h : i < ts.length), ∃ b o, a = some ⟨b, o, none⟩ ∧ S b ∧ b < w.heap.size ∧ R ts[i] ⟨b, o + i * sz, none⟩
section
variable {α : Type} {w w' : World} {S S' : Nat → Prop} {sz : Nat} {R R' : α → Addr → Prop} {ts : List α} {a : Option Addr}
theorem Sl.nil_ : Sl w S sz R [] a := fun i h => absurd h (by simp)
theorem Sl.some_ (h : Sl w S sz R ts a) (hn : 0 < ts.length) : ∃ b o, a = some ⟨b, o, none⟩ := by
  obtain ⟨b, o, e, _⟩ := h 0 hn; exact ⟨b, o, e⟩
theorem Sl.at_ {b o : Nat} (h : Sl w S sz R ts (some ⟨b, o, none⟩)) {i : Nat} (hi : i < ts.length) :
    S b ∧ b < w.heap.size ∧ R ts[i] ⟨b, o + i * sz, none⟩ := by
  obtain ⟨b', o', e, h1, h2, h3⟩ := h i hi
  cases e; exact ⟨h1, h2, h3⟩
theorem Sl.mono (h : Sl w S sz R ts a) (hl : ∀ b, S b → b < w.heap.size → S' b) (hw : w.heap.size ≤ w'.heap.size) (hR : ∀ t ∈ ts, ∀ ad : Addr, S ad.block → ad.block < w.heap.size → R t ad → R' t ad) : Sl w' S' sz R' ts a :=
  fun i hi => by
    obtain ⟨b, o, e, h1, h2, h3⟩ := h i hi
    exact ⟨b, o, e, hl _ h1 h2, by omega, hR _ (List.getElem_mem hi) _ h1 h2 h3⟩
theorem Sl.cut {k : Nat} (h : Sl w S sz R ts a) {b o : Nat} (ha : a = some ⟨b, o, none⟩) : Sl w S sz R (ts.drop k) (some ⟨b, o + k * sz, none⟩) := by
  subst ha
  intro i hi
  have hi' : k + i < ts.length := by simp at hi; omega
  obtain ⟨h1, h2, h3⟩ := h.at_ hi'
  refine ⟨b, o + k * sz, rfl, h1, h2, ?_⟩
  rw [show o + k * sz + i * sz = o + (k + i) * sz by rw [Nat.add_mul]; omega]
  simpa using h3
end
abbrev IntC (w : World) (n : Int) (ad : Addr) : Prop := w.cell? ad = some (.int .i64 n)
abbrev SlI (w : World) (S : Nat → Prop) (is : List Int) (a : Option Addr) : Prop := Sl w S 1 (IntC w) is a
theorem SlI.keep {w w' : World} {S S' : Nat → Prop} {is : List Int} {a : Option Addr} (h : SlI w S is a) (hk : Keeps S w w') (hs : ∀ b, S b → b < w.heap.size → S' b) : SlI w' S' is a :=
  Sl.mono h hs hk.1 fun _ _ _ h1 hb hc => (hk.cell h1 hb).trans hc
theorem SlI.ext {w w' : World} {S : Nat → Prop} {is : List Int} {a : Option Addr} (h : SlI w S is a) (hx : Ext w w') : SlI w' S is a := h.keep (.ext hx) fun _ h _ => h
mutual
def TmC (w : World) (S : Nat → Prop) : Tm → Addr → Prop
  | .mk v f us, ad => w.cell? ad = some (.int .i64 v) ∧ w.cell? (ad.add 1) = some (.int .i64 f) ∧
      ∃ a cap, w.cell? (ad.add 2) = some (.slice a us.length cap) ∧ us.length ≤ cap ∧ cap ≤ maxLen ∧ TmsC w S us a
def TmsC (w : World) (S : Nat → Prop) : List Tm → Option Addr → Prop
  | [], _ => True
  | t :: ts, a => ∃ b o, a = some ⟨b, o, none⟩ ∧ S b ∧ b < w.heap.size ∧ TmC w S t ⟨b, o, none⟩ ∧ TmsC w S ts (some ⟨b, o + 3, none⟩)
end
abbrev SlT (w : World) (S : Nat → Prop) (ts : List Tm) (a : Option Addr) : Prop := Sl w S 3 (TmC w S) ts a
theorem TmsC.to {w : World} {S : Nat → Prop} : ∀ {ts : List Tm} {a : Option Addr}, TmsC w S ts a → SlT w S ts a := by
  intro ts
  induction ts with
  | nil => intro a _; exact Sl.nil_
  | cons t ts ih =>
    rintro a ⟨b, o, rfl, h1, h2, h3, h4⟩ i hi
    cases i with
    | zero => exact ⟨b, o, rfl, h1, h2, by simpa using h3⟩
    | succ i =>
      obtain ⟨b', o', e, g1, g2, g3⟩ := ih h4 i (by simpa using hi)
      cases e
      refine ⟨b, o, rfl, h1, h2, ?_⟩
      rw [show o + (i + 1) * 3 = o + 3 + i * 3 by omega]
      simpa using g3
theorem TmsC.of {w : World} {S : Nat → Prop} : ∀ {ts : List Tm} {a : Option Addr}, SlT w S ts a → TmsC w S ts a := by
  intro ts
  induction ts with
  | nil => intro a _; exact trivial
  | cons t ts ih =>
    intro a h
    obtain ⟨b, o, rfl⟩ := h.some_ (by simp)
    obtain ⟨h1, h2, h3⟩ := h.at_ (i := 0) (by simp)
    refine ⟨b, o, rfl, h1, h2, by simpa using h3, ih ?_⟩
    intro i hi
    obtain ⟨g1, g2, g3⟩ := h.at_ (i := i + 1) (by simpa using hi)
    refine ⟨b, o + 3, rfl, g1, g2, ?_⟩
    rw [show o + 3 + i * 3 = o + (i + 1) * 3 by omega]
    simpa using g3
theorem TmC.iff {w : World} {S : Nat → Prop} {t : Tm} {ad : Addr} : TmC w S t ad ↔ (w.cell? ad = some (.int .i64 t.v) ∧ w.cell? (ad.add 1) = some (.int .i64 t.f) ∧
      ∃ a cap, w.cell? (ad.add 2) = some (.slice a t.us.length cap) ∧ t.us.length ≤ cap ∧ cap ≤ maxLen ∧ SlT w S t.us a) := by
  obtain ⟨v, f, us⟩ := t
  constructor
  · rintro ⟨h1, h2, a, cap, h3, h4, h5, h6⟩; exact ⟨h1, h2, a, cap, h3, h4, h5, h6.to⟩
  · rintro ⟨h1, h2, a, cap, h3, h4, h5, h6⟩; exact ⟨h1, h2, a, cap, h3, h4, h5, TmsC.of h6⟩
theorem TmC.read {w : World} {S : Nat → Prop} {t : Tm} {b o : Nat} (h : TmC w S t ⟨b, o, none⟩) : w.cell? ⟨b, o, none⟩ = some (.int .i64 t.v) ∧ w.cell? ⟨b, o + 1, none⟩ = some (.int .i64 t.f) ∧
      ∃ a cap, w.cell? ⟨b, o + 2, none⟩ = some (.slice a t.us.length cap) ∧ t.us.length ≤ cap ∧ cap ≤ maxLen ∧ SlT w S t.us a := by
  have := TmC.iff.1 h
  rwa [add_none, add_none] at this
theorem TmC.keep {w w' : World} {S S' : Nat → Prop} (hk : Keeps S w w') (hs : ∀ b, S b → b < w.heap.size → S' b) : ∀ (t : Tm) (ad : Addr), S ad.block → ad.block < w.heap.size → TmC w S t ad → TmC w' S' t ad := by
  intro t
  induction t using Tm.ind with
  | h t ih =>
    intro ad h0 hb ht
    obtain ⟨h1, h2, a, cap, h3, h4, h5, h6⟩ := TmC.iff.1 ht
    have e : ∀ n, (ad.add n).block = ad.block := by intro n; unfold Addr.add; split <;> rfl
    exact TmC.iff.2 ⟨(hk.cell h0 hb).trans h1, (hk.cell (by rw [e]; exact h0) (by rw [e]; exact hb)).trans h2, a, cap, (hk.cell (by rw [e]; exact h0) (by rw [e]; exact hb)).trans h3, h4, h5,
      Sl.mono h6 hs hk.1 fun u hu ad h0 hb hc => ih u hu ad h0 hb hc⟩
theorem SlT.keep {w w' : World} {S S' : Nat → Prop} {ts : List Tm} {a : Option Addr} (h : SlT w S ts a) (hk : Keeps S w w') (hs : ∀ b, S b → b < w.heap.size → S' b) : SlT w' S' ts a :=
  Sl.mono h hs hk.1 fun _ _ _ h0 hb hc => TmC.keep hk hs _ _ h0 hb hc
theorem SlT.ext {w w' : World} {S : Nat → Prop} {ts : List Tm} {a : Option Addr} (h : SlT w S ts a) (hx : Ext w w') : SlT w' S ts a := h.keep (.ext hx) fun _ h _ => h
theorem SlT.wide {w : World} {S S' : Nat → Prop} {ts : List Tm} {a : Option Addr} (h : SlT w S ts a) (hs : ∀ b, S b → b < w.heap.size → S' b) : SlT w S' ts a := h.keep (.ext (Ext.rfl' w)) hs
theorem SlT.readAt {w : World} {S : Nat → Prop} {ts : List Tm} {b o : Nat} (h : SlT w S ts (some ⟨b, o, none⟩)) {i : Nat} (hi : i < ts.length) :
    b < w.heap.size ∧ w.cell? ⟨b, o + i * 3, none⟩ = some (.int .i64 ts[i].v) ∧ w.cell? ⟨b, o + i * 3 + 1, none⟩ = some (.int .i64 ts[i].f) ∧
      ∃ a cap, w.cell? ⟨b, o + i * 3 + 2, none⟩ = some (.slice a ts[i].us.length cap) ∧ ts[i].us.length ≤ cap ∧ cap ≤ maxLen ∧ SlT w S ts[i].us a := by
  obtain ⟨_, h2, h3⟩ := h.at_ hi
  exact ⟨h2, h3.read⟩
def TmV (w : World) (S : Nat → Prop) (t : Tm) (x : Value) : Prop :=
  ∃ a cap, x = .agg #[.int .i64 t.v, .int .i64 t.f, .slice a t.us.length cap] ∧ t.us.length ≤ cap ∧ cap ≤ maxLen ∧ SlT w S t.us a
theorem TmV.keep {w w' : World} {S S' : Nat → Prop} {t : Tm} {x : Value} (h : TmV w S t x) (hk : Keeps S w w') (hs : ∀ b, S b → b < w.heap.size → S' b) : TmV w' S' t x := by
  obtain ⟨a, cap, e, h1, h2, h3⟩ := h; exact ⟨a, cap, e, h1, h2, h3.keep hk hs⟩
theorem TmV.ext {w w' : World} {S : Nat → Prop} {t : Tm} {x : Value} (h : TmV w S t x) (hx : Ext w w') : TmV w' S t x := h.keep (.ext hx) fun _ h _ => h
theorem TmV.wide {w : World} {S S' : Nat → Prop} {t : Tm} {x : Value} (h : TmV w S t x) (hs : ∀ b, S b → b < w.heap.size → S' b) : TmV w S' t x := h.keep (.ext (Ext.rfl' w)) hs
def SlIV (w : World) (S : Nat → Prop) (is : List Int) (x : Value) : Prop := ∃ a cap, x = .slice a is.length cap ∧ is.length ≤ cap ∧ cap ≤ maxLen ∧ SlI w S is a
def SlTV (w : World) (S : Nat → Prop) (ts : List Tm) (x : Value) : Prop := ∃ a cap, x = .slice a ts.length cap ∧ ts.length ≤ cap ∧ cap ≤ maxLen ∧ SlT w S ts a
def SgV (w : World) (S : Nat → Prop) (g : List Int) (x : Value) : Prop := ∃ a cap, x = .agg #[.slice a g.length cap] ∧ g.length ≤ cap ∧ cap ≤ maxLen ∧ SlI w S g a
theorem SgV.ext {w w' : World} {S : Nat → Prop} {g : List Int} {x : Value} (h : SgV w S g x) (hx : Ext w w') : SgV w' S g x := by
  obtain ⟨a, cap, e, h1, h2, h3⟩ := h; exact ⟨a, cap, e, h1, h2, h3.ext hx⟩
theorem SlIV.keep {w w' : World} {S S' : Nat → Prop} {g : List Int} {x : Value} (h : SlIV w S g x) (hk : Keeps S w w') (hs : ∀ b, S b → b < w.heap.size → S' b) : SlIV w' S' g x := by
  obtain ⟨a, cap, e, h1, h2, h3⟩ := h; exact ⟨a, cap, e, h1, h2, h3.keep hk hs⟩
theorem SlIV.ext {w w' : World} {S : Nat → Prop} {g : List Int} {x : Value} (h : SlIV w S g x) (hx : Ext w w') : SlIV w' S g x := h.keep (.ext hx) fun _ h _ => h
theorem SlTV.keep {w w' : World} {S S' : Nat → Prop} {g : List Tm} {x : Value} (h : SlTV w S g x) (hk : Keeps S w w') (hs : ∀ b, S b → b < w.heap.size → S' b) : SlTV w' S' g x := by
  obtain ⟨a, cap, e, h1, h2, h3⟩ := h; exact ⟨a, cap, e, h1, h2, h3.keep hk hs⟩
theorem SlTV.ext {w w' : World} {S : Nat → Prop} {g : List Tm} {x : Value} (h : SlTV w S g x) (hx : Ext w w') : SlTV w' S g x := h.keep (.ext hx) fun _ h _ => h
theorem ret_int {k : IntKind} {a b : Int} (h : a = b) : Ending.returned (.int k a) = .returned (.int k b) := by rw [h]
theorem ret_bool {a b : Bool} (h : a = b) : Ending.returned (.bool a) = .returned (.bool b) := by rw [h]
/-! ### lists that the call itself makes -/
def Own (w : World) (base e sz : Nat) (xs : List Value) (v : Value) : Prop := w.ownsRow base e sz v xs.length (xs.flatMap (·.cells.toList)) ∧ ∀ x ∈ xs, x.cells.size = sz
section
variable {w w' : World} {base e sz : Nat} {xs : List Value} {v : Value}
theorem Own.nil_ (w : World) (base e sz : Nat) : Own w base e sz [] (.slice none 0 0) := ⟨⟨by simp, .inl ⟨rfl, rfl⟩⟩, by simp⟩
theorem Own.grown {r : Option Nat} (h : Own w base e sz xs v) (hg : w.grownBy w' r) (hne : v.ownBlock ≠ r ∨ v.ownBlock = none) : Own w' base e sz xs v := by
  refine ⟨?_, h.2⟩
  obtain ⟨h1, h2⟩ := h.1
  refine ⟨h1, ?_⟩
  rcases h2 with h2 | ⟨g, cap, cur, hv, hb, hh, hr⟩
  · exact .inl h2
  · right
    have hlt : g < w.heap.size := by
      rcases Nat.lt_or_ge g w.heap.size with hlt | hge
      · exact hlt
      · rw [Array.getElem?_eq_none hge] at hh; cases hh
    have : some g ≠ r := by
      subst hv
      rcases hne with hne | hne
      · exact hne
      · cases hne
    exact ⟨g, cap, cur, hv, hb, (hg.block g hlt this).trans hh, hr⟩
theorem Own.ext (h : Own w base e sz xs v) (hx : Ext w w') : Own w' base e sz xs v := by
  refine ⟨?_, h.2⟩
  obtain ⟨h1, h2⟩ := h.1
  refine ⟨h1, ?_⟩
  rcases h2 with h2 | ⟨g, cap, cur, hv, hb, hh, hr⟩
  · exact .inl h2
  · right
    have hlt : g < w.heap.size := by
      rcases Nat.lt_or_ge g w.heap.size with hlt | hge
      · exact hlt
      · rw [Array.getElem?_eq_none hge] at hh; cases hh
    exact ⟨g, cap, cur, hv, hb, (hx.block g hlt).trans hh, hr⟩
theorem Own.form (h : Own w base e sz xs v) : (xs = [] ∧ v = .slice none 0 0) ∨ ∃ g cap, v = .slice (some ⟨g, 0, none⟩) xs.length cap ∧ base ≤ g ∧ g < w.heap.size ∧ xs.length ≤ cap ∧ cap ≤ maxLen := by
  rcases h.1.2 with ⟨h1, h2⟩ | ⟨g, cap, cur, hv, hb, hh, h3, h4, _⟩
  · exact .inl ⟨List.eq_nil_of_length_eq_zero h2, h1⟩
  · refine .inr ⟨g, cap, hv, hb, ?_, h3, h4⟩
    rcases Nat.lt_or_ge g w.heap.size with hlt | hge
    · exact hlt
    · rw [Array.getElem?_eq_none hge] at hh; cases hh
theorem Own.slice (h : Own w base e sz xs v) : ∃ a cap, v = .slice a xs.length cap ∧ xs.length ≤ cap ∧ cap ≤ maxLen := by
  rcases h.form with ⟨rfl, rfl⟩ | ⟨g, cap, hv, _, _, h1, h2⟩
  · exact ⟨none, 0, rfl, by simp, by simp [maxLen]⟩
  · exact ⟨_, cap, hv, h1, h2⟩
theorem Own.block (h : Own w base e sz xs v) {g : Nat} (hg : v.ownBlock = some g) : base ≤ g ∧ g < w.heap.size := by
  rcases h.form with ⟨_, rfl⟩ | ⟨g', cap, rfl, h1, h2, _⟩
  · cases hg
  · cases hg; exact ⟨h1, h2⟩
theorem flatMap_at {sz : Nat} : ∀ (xs : List Value), (∀ x ∈ xs, x.cells.size = sz) → ∀ i (hi : i < xs.length) j, j < sz → (xs.flatMap (·.cells.toList))[i * sz + j]? = xs[i].cells[j]? := by
  intro xs
  induction xs with
  | nil => intro _ i hi; simp at hi
  | cons x xs ih =>
    intro h i hi j hj
    have hx := h x (by simp)
    cases i with
    | zero =>
      rw [List.flatMap_cons, List.getElem?_append_left (by simp [hx]; omega)]
      simp
    | succ i =>
      rw [List.flatMap_cons, List.getElem?_append_right (by simp [hx, Nat.add_mul]; omega)]
      have := ih (fun x hx => h x (by simp [hx])) i (by simpa using hi) j hj
      simp only [List.getElem_cons_succ]
      rw [← this]
      congr 1
      simp [hx, Nat.add_mul]
      omega
theorem Own.cell {g n cap : Nat} (h : Own w base e sz xs (.slice (some ⟨g, 0, none⟩) n cap)) {i : Nat} (hi : i < xs.length) {j : Nat} (hj : j < sz) : w.cell? ⟨g, i * sz + j, none⟩ = xs[i].cells[j]? := by
  obtain ⟨h1, h2⟩ := h.1
  rcases h2 with ⟨h2, _⟩ | ⟨g', cap', cur, hv, hb, hh, h3, h4, h5, h6⟩
  · cases h2
  · cases hv
    rw [← flatMap_at xs h.2 i hi j hj, ← h6, List.getElem?_take]
    have : i * sz + j < xs.length * sz := by
      have : (i + 1) * sz ≤ xs.length * sz := Nat.mul_le_mul_right _ hi
      rw [Nat.add_mul] at this
      omega
    rw [if_pos this, World.cell?, hh]
    simp
end
structure ElemOk (P : Program) (t e sz bytes : Nat) : Prop where
  ht : P.underlying t = some (.slice e)
  info : ∃ i z, P.info? e = some i ∧ i.zero = some z ∧ i.size = sz ∧ i.bytes = bytes ∧ z.cells.size = sz
  pos : 0 < sz
theorem ElemOk.mk' {P : Program} {t e sz bytes : Nat} {z : Value} (ht : P.underlying t = some (.slice e)) (h : (P.info? e).map (fun i => (i.zero, i.size, i.bytes)) = some (some z, sz, bytes)) (hz : z.cells.size = sz) (hs : 0 < sz) : ElemOk P t e sz bytes := by
  obtain ⟨i, h1, h2, h3, h4⟩ := info_parts h
  exact ⟨ht, ⟨i, z, h1, h2, h3, h4, hz⟩, hs⟩
theorem wpList_push {P : Program} {t e sz bytes : Nat} (hE : ElemOk P t e sz bytes) {ops : Array Oper} {rest : List Oper} {o : Oper} {a : Act} {Q : Exit → Act → World → Prop} (hgd : o.guard = none) (s x : Operand)
    (ho : o.op = .call { callee := .builtin .append, args := #[s, x], argTypes := #[t, t] }) {w : World} (y : Value) (hy : y.cells.size = sz) (h1 : ∀ u ∈ y.cells.toList, u.oneCell' = true)
    {base : Nat} {v : Value} {xs : List Value} (hs : a.eval s = v) (hown : Own w base e sz xs v) (hx : a.eval x = .slice (some ⟨w.heap.size, 0, none⟩) 1 1)
    (hbytes : (xs.length + 1) * bytes ≤ 140737488355328) (hlen : xs.length + 1 ≤ maxLen) (hbase : base ≤ w.heap.size)
    (k : ∀ g cap w', Own w' base e sz (xs ++ [y]) (.slice (some ⟨g, 0, none⟩) (xs.length + 1) cap) → w.grownBy w' v.ownBlock → (v.ownBlock = some g ∨ w.heap.size < g) → g < w'.heap.size →
      wpList P ops Q rest (a.put o.dst (.slice (some ⟨g, 0, none⟩) (xs.length + 1) cap)) w') : wpList P ops Q (o :: rest) a (w.alloc (.cells y.cells e)) := by
  obtain ⟨i, z, hi, hz, hz1, hz2, hzs⟩ := hE.info
  have hown' : (w.alloc (.cells y.cells e)).ownsRow base e sz v xs.length (xs.flatMap (·.cells.toList)) := (hown.ext (Ext.one _ _)).1
  refine wpList_append_lies _ hgd s x t ho base e i z sz bytes hE.ht hi hz hz1 hz2 hzs hE.pos v xs.length _ hs hown' ⟨w.heap.size, 0, none⟩ 1 1 y.cells.toList hx (by simp [hy])
    (World.news_of_block (heap_alloc_new w _)) h1 (by omega) hlen hbytes (by simp; omega) (w.heap.size + 1) (by simp) ?_
  intro g cap w' h2 h3 h4 h5
  refine k g cap w' ⟨by simpa using h2, ?_⟩ ?_ (h4.imp id (by omega)) h5
  · intro u hu
    rcases List.mem_append.1 hu with hu | hu
    · exact hown.2 _ hu
    · rw [List.mem_singleton.1 hu]; exact hy
  · refine ⟨h3.os, h3.tape, h3.output, by have := h3.size; simp at this; omega, fun k hk hne => ?_⟩
    rw [h3.block k (by simp; omega) hne]
    exact Below.heap_alloc _ _ _ hk
theorem grown_trans {a b c : World} {r r' : Option Nat} (h : a.grownBy b r) (hr : r' = r ∨ ∃ g, r' = some g ∧ a.heap.size ≤ g) (k : b.grownBy c r') : a.grownBy c r :=
  ⟨k.os.trans h.os, k.tape.trans h.tape, k.output.trans h.output, Nat.le_trans h.size k.size, fun i hi hne => by
    have := h.size
    rw [k.block i (by omega) (by
      rcases hr with rfl | ⟨g, rfl, hg⟩
      · exact hne
      · intro e; cases e; omega), h.block i hi hne]⟩
theorem grown_ext {a b : World} (h : Ext a b) (r : Option Nat) : a.grownBy b r := ⟨h.os, h.tape, h.output, h.size, fun i hi _ => h.block i hi⟩
theorem grown_box {w wr : World} {c : Array Value} {t : TypeId} {r : Option Nat} (h : (w.alloc (.cells c t)).grownBy wr r) (hr : ∀ g, r = some g → g < w.heap.size) (i : Nat) : wr.cell? ⟨w.heap.size, i, none⟩ = c[i]? := by
  rw [World.cell?_of_block (h.block w.heap.size (by simp) (fun e => by have := hr _ e.symm; omega)), World.cell?_alloc_new]
/-! ### a list of terms of one's own -/
def OwnT (w : World) (base : Nat) (S : Nat → Prop) (ts : List Tm) (v : Value) : Prop :=
  ∃ xs, Own w base 28 3 xs v ∧ xs.length = ts.length ∧ ∀ i (h : i < ts.length) (h' : i < xs.length), TmV w (fun b => S b ∧ some b ≠ v.ownBlock) ts[i] xs[i]
theorem OwnT.nil_ (w : World) (base : Nat) (S : Nat → Prop) : OwnT w base S [] (.slice none 0 0) := ⟨[], Own.nil_ _ _ _ _, rfl, fun i h => absurd h (by simp)⟩
theorem OwnT.block {w : World} {base : Nat} {S : Nat → Prop} {ts : List Tm} {v : Value} (h : OwnT w base S ts v) {g : Nat} (hg : v.ownBlock = some g) : base ≤ g ∧ g < w.heap.size := by
  obtain ⟨xs, h1, _⟩ := h; exact h1.block hg
theorem OwnT.ext {w w' : World} {base : Nat} {S : Nat → Prop} {ts : List Tm} {v : Value} (h : OwnT w base S ts v) (hx : Ext w w') : OwnT w' base S ts v := by
  obtain ⟨xs, h1, h2, h3⟩ := h
  exact ⟨xs, h1.ext hx, h2, fun i hi hi' => (h3 i hi hi').ext hx⟩
theorem OwnT.slTV {w : World} {base : Nat} {S : Nat → Prop} {ts : List Tm} {v : Value} (h : OwnT w base S ts v) : SlTV w (fun b => S b ∨ v.ownBlock = some b) ts v := by
  obtain ⟨xs, h1, h2, h3⟩ := h
  rcases h1.form with ⟨rfl, rfl⟩ | ⟨g, cap, rfl, hb, hlt, hc1, hc2⟩
  · have : ts = [] := List.eq_nil_of_length_eq_zero (by simpa using h2.symm)
    subst this
    exact ⟨none, 0, rfl, by simp, by simp [maxLen], Sl.nil_⟩
  · refine ⟨some ⟨g, 0, none⟩, cap, by rw [h2], by omega, hc2, fun i hi => ⟨g, 0, rfl, .inr rfl, hlt, ?_⟩⟩
    have hi' : i < xs.length := by omega
    obtain ⟨a, c, e, l1, l2, l3⟩ := h3 i hi hi'
    have c0 := h1.cell hi' (j := 0) (by omega)
    have c1 := h1.cell hi' (j := 1) (by omega)
    have c2 := h1.cell hi' (j := 2) (by omega)
    rw [e] at c0 c1 c2
    rw [TmC.iff, add_none, add_none]
    simp only [Nat.zero_add]
    exact ⟨c0, c1, a, c, c2, l1, l2, l3.wide fun b hb _ => .inl hb.1⟩
theorem OwnT.push {w w' : World} {base : Nat} {S S' : Nat → Prop} {ts : List Tm} {xs : List Value} {v : Value} {t : Tm} {y : Value} {g n cap : Nat}
    (h2 : xs.length = ts.length) (h3 : ∀ i (h : i < ts.length) (h' : i < xs.length), TmV w (fun b => S b ∧ some b ≠ v.ownBlock) ts[i] xs[i])
    (hy : TmV w S' t y) (hS : ∀ b, S' b → b < w.heap.size → S b ∧ some b ≠ v.ownBlock)
    (k1 : Own w' base 28 3 (xs ++ [y]) (.slice (some ⟨g, 0, none⟩) n cap)) (k2 : w.grownBy w' v.ownBlock) (k3 : v.ownBlock = some g ∨ w.heap.size < g) : OwnT w' base S (ts ++ [t]) (.slice (some ⟨g, 0, none⟩) n cap) := by
  have hk : Keeps (fun b => S b ∧ some b ≠ v.ownBlock) w w' := Keeps.grown k2 fun b hb => hb.2
  have hs : ∀ b, (S b ∧ some b ≠ v.ownBlock) → b < w.heap.size → (S b ∧ some b ≠ (Value.slice (some ⟨g, 0, none⟩) n cap).ownBlock) := by
    rintro b ⟨hb, hne⟩ hlt
    refine ⟨hb, fun e => ?_⟩
    have e' : b = g := by simpa [Value.ownBlock] using e
    subst e'
    rcases k3 with k3 | k3
    · exact hne k3.symm
    · omega
  refine ⟨xs ++ [y], k1, by simp [h2], fun i hi hi' => ?_⟩
  by_cases hlt : i < ts.length
  · rw [List.getElem_append_left hlt, List.getElem_append_left (by omega)]
    exact (h3 i hlt (by omega)).keep hk hs
  · obtain rfl : i = ts.length := by have := hi; rw [List.length_append, List.length_singleton] at this; omega
    have e1 : (ts ++ [t])[ts.length] = t := by simp
    have e2 : (xs ++ [y])[ts.length]'hi' = y := by simp [← h2]
    rw [e1, e2]
    exact (hy.wide hS).keep hk hs
theorem Ext.grown {a b c : World} {base e sz : Nat} {xs : List Value} {v : Value} (h : Ext a b) (hown : Own b base e sz xs v) (hg : b.grownBy c v.ownBlock) (hb : a.heap.size ≤ base) : Ext a c :=
  Below.grown h hg h.size fun k hk => by have := (hown.block hk).1; omega
end Go.Proofs.Ytmeekpinkfpnhab
namespace Go.Proofs.Ytmeekpinkfpnhab
open Go.RowKit
def CountSpec (t : Tm) : Prop := ∀ (S : Nat → Prop) (x : Value) (w : World) (most : Int), TmV w S t x → 0 ≤ most → most ≤ 1000000 →
    Calls Try.prog 69 #[x, .int .i64 most] w fun e w' => e = .returned (.int .i64 (count t most)) ∧ Ext w w'
set_option maxHeartbeats 400000 in
theorem count_step (t : Tm) (ih : ∀ u ∈ t.us, CountSpec u) : CountSpec t := by
  rintro S x w most ⟨a, cap, rfl, h1, h2, h3⟩ hm0 hm1
  unfold maxLen at h2
  go_enter Try.func69, Try.ntmps69
  go_wp2_with fail
  go_loopw [5, 11] (fun n i wr => ∃ (k : Nat) (m : Int), k ≤ t.us.length ∧ i = .int .i64 k ∧ n = .int .i64 m ∧ 1 ≤ m ∧ m ≤ most + 1 ∧ countL (t.us.drop k) m most = count t most ∧ Ext w wr) (fun _ i _ => t.us.length - (intOf i).toNat)
  case atStart => exact ⟨0, 1, by omega, rfl, rfl, by omega, by omega, (count_eq t most).symm, Ext.one _ _⟩
  case round =>
    obtain ⟨k, m, hk, rfl, rfl, hm2, hm3, hc, hx⟩ := hrel
    have HC := hid hc; clear hc
    by_cases hlt : k < t.us.length
    · obtain ⟨b, o, rfl⟩ := h3.some_ (by omega)
      obtain ⟨c1, c2, a1, cap1, c3, l1, l2, s1⟩ := ((h3.ext hx).readAt hlt).2
      have IH := hid (ih _ (List.getElem_mem hlt)); clear ih
      go_wp2_with fail
      · have hgt : most < m := by assumption
        go_ret
        refine ⟨ret_int ?_, hx.new _⟩
        rw [← HC.out, countL_stop (by omega)]
      · have hle : m ≤ most := by assumption
        refine (IH.out S _ _ (most - m) ⟨a1, cap1, rfl, l1, l2, s1.ext (Ext.one _ _)⟩ (by omega) (by omega)).mono ?_
        rintro e w' ⟨rfl, hx'⟩
        obtain ⟨hq1, hq2⟩ := count_le t.us[k] (most - m) (by omega)
        have HCL := hid (countL_go hlt hle)
        generalize hgc : count t.us[k] (most - m) = q at *
        clear hgc
        go_wp2_with fail
        go_roundw
        case rel => exact ⟨k + 1, m + q, by omega, by go_num, rfl, by omega, by omega, by rw [← HC.out, HCL.out], (hx.new _).step hx'⟩
        case measure => simp [intOf]; omega
    · obtain rfl : k = t.us.length := by omega
      go_wp2_with fail
      go_ret
      refine ⟨ret_int ?_, hx⟩
      rw [← HC.out, countL_end]
theorem count_any (t : Tm) : CountSpec t := Tm.ind count_step t
/-! ### superposeref.SizeOf -/
def SizeSpec (t : Tm) : Prop := ∀ (S : Nat → Prop) (x : Value) (w : World) (most : Int), TmV w S t x → 0 ≤ most → most ≤ 1000000 →
    Calls Try.prog 37 #[x, .int .i64 most] w fun e w' => e = .returned (.int .i64 (count t most)) ∧ Ext w w'
set_option maxHeartbeats 400000 in
theorem size_step (t : Tm) (ih : ∀ u ∈ t.us, SizeSpec u) : SizeSpec t := by
  rintro S x w most ⟨a, cap, rfl, h1, h2, h3⟩ hm0 hm1
  unfold maxLen at h2
  go_enter Try.func37, Try.ntmps37
  go_wp2_with fail
  go_loopw [5, 6] (fun n i wr => ∃ (k : Nat) (m : Int), k ≤ t.us.length ∧ i = .int .i64 k ∧ n = .int .i64 m ∧ 1 ≤ m ∧ m ≤ most + 1 ∧ countL (t.us.drop k) m most = count t most ∧ Ext (w.alloc (.cells #[.int .i64 t.v, .int .i64 t.f, .slice a t.us.length cap] 28)) wr) (fun _ i _ => t.us.length - (intOf i).toNat)
  case atStart => exact ⟨0, 1, by omega, rfl, rfl, by omega, by omega, (count_eq t most).symm, Ext.rfl' _⟩
  case round =>
    obtain ⟨k, m, hk, rfl, rfl, hm2, hm3, hc, hx⟩ := hrel
    have HC := hid hc; clear hc
    have hx0 := (Ext.one _ _).step hx
    have b2 : wr.cell? ⟨w.heap.size, 2, none⟩ = some (.slice a t.us.length cap) := hx.boxed 2
    by_cases hlt : k < t.us.length
    · obtain ⟨b, o, rfl⟩ := h3.some_ (by omega)
      obtain ⟨c1, c2, a1, cap1, c3, l1, l2, s1⟩ := ((h3.ext hx0).readAt hlt).2
      have IH := hid (ih _ (List.getElem_mem hlt)); clear ih
      by_cases hle : m ≤ most
      · go_wp2_with fail
        refine (IH.out S _ _ (most - m) ⟨a1, cap1, rfl, l1, l2, s1⟩ (by omega) (by omega)).mono ?_
        rintro e w' ⟨rfl, hx'⟩
        obtain ⟨hq1, hq2⟩ := count_le t.us[k] (most - m) (by omega)
        have HCL := hid (countL_go hlt hle)
        generalize hgc : count t.us[k] (most - m) = q at *
        clear hgc
        go_wp2_with fail
        go_roundw
        case rel => exact ⟨k + 1, m + q, by omega, by go_num, rfl, by omega, by omega, by rw [← HC.out, HCL.out], hx.step hx'⟩
        case measure => simp [intOf]; omega
      · go_wp2_with fail
        go_ret
        refine ⟨ret_int ?_, hx0⟩
        rw [← HC.out, countL_stop (by omega)]
    · obtain rfl : k = t.us.length := by omega
      go_wp2_with fail
      go_ret
      refine ⟨ret_int ?_, hx0⟩
      rw [← HC.out, countL_end]
theorem size_any (t : Tm) : SizeSpec t := Tm.ind size_step t
/-! ### term.form -/
def FormSpec (g : List Int) (t : Tm) : Prop := ∀ (S S' : Nat → Prop) (y x : Value) (w : World), SgV w S' g y → TmV w S t x →
    Calls Try.prog 70 #[y, x] w fun e w' => e = .returned (.int .i64 (form g t)) ∧ Ext w w'
set_option maxHeartbeats 400000 in
theorem form_step (g : List Int) (t : Tm) (ih : ∀ u ∈ t.us, FormSpec g u) : FormSpec g t := by
  rintro S S' y x w ⟨ga, gc, rfl, g1, g2, g3⟩ ⟨a, cap, rfl, h1, h2, h3⟩
  unfold maxLen at h2 g2
  go_enter Try.func70, Try.ntmps70
  go_wp2_with fail
  go_loopw [11] (fun i wr => ∃ (k : Nat), k ≤ t.us.length ∧ i = .int .i64 k ∧ formL g t.us = formL g (t.us.drop k) ∧ Ext ((w.alloc (.cells #[.slice ga g.length gc] 24)).alloc (.cells #[.int .i64 t.v, .int .i64 t.f, .slice a t.us.length cap] 28)) wr) (fun i _ => t.us.length - (intOf i).toNat)
  case atStart => exact ⟨0, by omega, rfl, rfl, Ext.rfl' _⟩
  case round =>
    obtain ⟨k, hk, rfl, hc, hx⟩ := hrel
    have HC := hid hc; clear hc
    have hx0 := (Ext.two _ _ _).step hx
    have b0 : wr.cell? ⟨w.heap.size, 0, none⟩ = some (.slice ga g.length gc) := hx.boxed2 0
    obtain ⟨hz0, hz1⟩ := hx.sz2
    have c0 : wr.cell? ⟨w.heap.size + 1, 0, none⟩ = some (.int .i64 t.v) := hx.boxed2' 0
    have c1 : wr.cell? ⟨w.heap.size + 1, 1, none⟩ = some (.int .i64 t.f) := hx.boxed2' 1
    have c2 : wr.cell? ⟨w.heap.size + 1, 2, none⟩ = some (.slice a t.us.length cap) := hx.boxed2' 2
    by_cases hlt : k < t.us.length
    · obtain ⟨b, o, rfl⟩ := h3.some_ (by omega)
      obtain ⟨d1, d2, a1, cap1, d3, l1, l2, s1⟩ := ((h3.ext hx0).readAt hlt).2
      have IH := hid (ih _ (List.getElem_mem hlt)); clear ih
      go_wp2_with fail
      refine (IH.out S S' _ _ _ ⟨ga, gc, rfl, g1, g2, g3.ext (hx0.new _)⟩ ⟨a1, cap1, rfl, l1, l2, s1.ext (Ext.one _ _)⟩).mono ?_
      rintro e w' ⟨rfl, hx'⟩
      have hfl := hid (show formL g (t.us.drop k) = if form g t.us[k] ≠ 0 then form g t.us[k] else formL g (t.us.drop (k + 1)) by rw [List.drop_eq_getElem_cons hlt, formL])
      generalize hq : form g t.us[k] = q at *
      have HQ := hid hq; clear hq
      by_cases hq0 : q = 0
      · subst hq0
        go_wp2_with fail
        go_roundw
        case rel => exact ⟨k + 1, by omega, by go_num, by rw [HC.out, hfl.out]; rfl, (hx.new _).step hx'⟩
        case measure => simp [intOf]; omega
      · have hq1 : (q != 0) = true := by simpa using hq0
        go_wp2_with fail
        go_ret
        refine ⟨ret_int ?_, (hx0.new _).step hx'⟩
        have : formL g t.us = q := by rw [HC.out, hfl.out, if_pos hq0]
        rw [form_eq, this, if_pos hq0]
    · obtain rfl : k = t.us.length := by omega
      have HF := hid (show form g t = formOne g t.v t.f t.us.length by rw [form_eq, if_neg]; rw [HC.out, List.drop_length, formL]; simp)
      clear ih HC
      by_cases hv : t.v = 0
      · by_cases hf0 : 0 ≤ t.f ∧ t.f < g.length
        · obtain ⟨f1, f2⟩ := hf0
          obtain ⟨b, o, rfl⟩ := g3.some_ (by omega)
          obtain ⟨_, hb, hgc⟩ := g3.at_ (i := t.f.toNat) (by omega)
          have hgc' := hx0.cell (p := ⟨b, o + t.f.toNat * 1, none⟩) hb
          rw [hgc] at hgc'
          simp only [Nat.mul_one] at hgc'
          clear hgc
          have HG := hid (show g.getD t.f.toNat 0 = g[t.f.toNat] from getD_at (by omega) _)
          generalize g[t.f.toNat] = gn at *
          go_wp2_with fail
          go_quiet (fail)
          go_wp2_with fail
          · have hne : (↑t.us.length != gn) = true := by assumption
            go_ret
            refine ⟨ret_int ?_, hx0.draws _⟩
            rw [HF.out, formOne, if_neg (by simpa using hv), if_neg (by omega), HG.out, if_pos (by simpa using hne)]
          · have hne : (↑t.us.length != gn) = false := by assumption
            go_ret
            refine ⟨ret_int ?_, hx0.draws _⟩
            rw [HF.out, formOne, if_neg (by simpa using hv), if_neg (by omega), HG.out, if_neg (by simpa using hne)]
        · have HV := hid (show form g t = 5 by rw [HF.out, formOne, if_neg (by simpa using hv), if_pos (by omega)])
          by_cases f1 : t.f < 0
          · go_wp2_with fail
            go_ret
            exact ⟨ret_int HV.out.symm, hx0⟩
          · have f2 : (g.length : Int) ≤ t.f := by omega
            go_wp2_with fail
            go_ret
            exact ⟨ret_int HV.out.symm, hx0⟩
      · have hv' : (t.v != 0) = true := by simpa using hv
        by_cases h1 : t.v < 1
        · have HV := hid (show form g t = 3 by rw [HF.out, formOne, if_pos hv, if_pos (by omega)])
          go_wp2_with fail
          go_ret
          exact ⟨ret_int HV.out.symm, hx0⟩
        · by_cases h2 : 1000 < t.v
          · have HV := hid (show form g t = 3 by rw [HF.out, formOne, if_pos hv, if_pos (by omega)])
            go_wp2_with fail
            go_ret
            exact ⟨ret_int HV.out.symm, hx0⟩
          · by_cases h3 : 0 < t.us.length
            · have HV := hid (show form g t = 1 by rw [HF.out, formOne, if_pos hv, if_neg (by omega), if_pos (by omega)])
              go_wp2_with fail
              go_ret
              exact ⟨ret_int HV.out.symm, hx0⟩
            · by_cases h4 : t.f = 0
              · have HV := hid (show form g t = 0 by rw [HF.out, formOne, if_pos hv, if_neg (by omega), if_neg (by omega)])
                have h4' : (t.f != 0) = false := by simpa using h4
                clear h4
                go_wp2_with fail
                go_ret
                exact ⟨ret_int HV.out.symm, hx0⟩
              · have HV := hid (show form g t = 1 by rw [HF.out, formOne, if_pos hv, if_neg (by omega), if_pos (by omega)])
                have h4' : (t.f != 0) = true := by simpa using h4
                clear h4
                go_wp2_with fail
                go_ret
                exact ⟨ret_int HV.out.symm, hx0⟩
theorem form_any (g : List Int) (t : Tm) : FormSpec g t := Tm.ind (form_step g) t
end Go.Proofs.Ytmeekpinkfpnhab
