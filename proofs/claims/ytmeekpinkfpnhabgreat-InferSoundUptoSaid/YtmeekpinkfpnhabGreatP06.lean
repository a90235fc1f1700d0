/- Terms, signatures, clauses as pure values. -/
import Derived.Test.YtmeekpinkfpnhabGreatP04
import Derived.Test.YtmeekpinkfpnhabGreatP05
import Derived.Test.YtmeekpinkfpnhabGreatProg
set_option linter.all false
namespace Go.Proofs.YtmeekpinkfpnhabGreat
open Go.RowKit
@[go_sem] theorem ty0_has : hasT Tryz.prog 0 = true := by kernel_rfl
@[go_sem] theorem ty0_agg : aggT Tryz.prog 0 = false := by kernel_rfl
@[go_sem] theorem ty0_sz : szT Tryz.prog 0 = 1 := by kernel_rfl
@[go_sem] theorem ty0_sl : slT Tryz.prog 0 = false := by kernel_rfl
@[go_sem] theorem ty0_str : strT Tryz.prog 0 = false := by kernel_rfl
@[go_sem] theorem ty0_zok : zeroOk Tryz.prog 0 = false := by kernel_rfl
@[go_sem] theorem ty0_by : bytesT Tryz.prog 0 = 0 := by kernel_rfl
@[go_sem] theorem ty0_ar : arT Tryz.prog 0 = none := by kernel_rfl
@[go_sem] theorem ty0_pl : placesL Tryz.prog 0 = none := by kernel_rfl
@[go_sem] theorem ty3_has : hasT Tryz.prog 3 = true := by kernel_rfl
@[go_sem] theorem ty3_agg : aggT Tryz.prog 3 = false := by kernel_rfl
@[go_sem] theorem ty3_sz : szT Tryz.prog 3 = 1 := by kernel_rfl
@[go_sem] theorem ty3_sl : slT Tryz.prog 3 = false := by kernel_rfl
@[go_sem] theorem ty3_str : strT Tryz.prog 3 = false := by kernel_rfl
@[go_sem] theorem ty3_zok : zeroOk Tryz.prog 3 = true := by kernel_rfl
@[go_sem] theorem ty3_by : bytesT Tryz.prog 3 = 8 := by kernel_rfl
@[go_sem] theorem ty3_ar : arT Tryz.prog 3 = none := by kernel_rfl
@[go_sem] theorem ty3_pl : placesL Tryz.prog 3 = none := by kernel_rfl
@[go_sem] theorem ty3_z : zeroAV Tryz.prog 3 = [.d (.v (.int .i64 0))] := by kernel_rfl
@[go_sem] theorem ty4_has : hasT Tryz.prog 4 = true := by kernel_rfl
@[go_sem] theorem ty4_agg : aggT Tryz.prog 4 = false := by kernel_rfl
@[go_sem] theorem ty4_sz : szT Tryz.prog 4 = 1 := by kernel_rfl
@[go_sem] theorem ty4_sl : slT Tryz.prog 4 = false := by kernel_rfl
@[go_sem] theorem ty4_str : strT Tryz.prog 4 = false := by kernel_rfl
@[go_sem] theorem ty4_zok : zeroOk Tryz.prog 4 = true := by kernel_rfl
@[go_sem] theorem ty4_by : bytesT Tryz.prog 4 = 1 := by kernel_rfl
@[go_sem] theorem ty4_ar : arT Tryz.prog 4 = none := by kernel_rfl
@[go_sem] theorem ty4_pl : placesL Tryz.prog 4 = none := by kernel_rfl
@[go_sem] theorem ty4_z : zeroAV Tryz.prog 4 = [.d (.v (.bool false))] := by kernel_rfl
@[go_sem] theorem ty22_has : hasT Tryz.prog 22 = true := by kernel_rfl
@[go_sem] theorem ty22_agg : aggT Tryz.prog 22 = false := by kernel_rfl
@[go_sem] theorem ty22_sz : szT Tryz.prog 22 = 1 := by kernel_rfl
@[go_sem] theorem ty22_sl : slT Tryz.prog 22 = true := by kernel_rfl
@[go_sem] theorem ty22_str : strT Tryz.prog 22 = false := by kernel_rfl
@[go_sem] theorem ty22_zok : zeroOk Tryz.prog 22 = true := by kernel_rfl
@[go_sem] theorem ty22_by : bytesT Tryz.prog 22 = 24 := by kernel_rfl
@[go_sem] theorem ty22_el : elT Tryz.prog 22 = 3 := by kernel_rfl
@[go_sem] theorem ty22_ar : arT Tryz.prog 22 = none := by kernel_rfl
@[go_sem] theorem ty22_pl : placesL Tryz.prog 22 = none := by kernel_rfl
@[go_sem] theorem ty22_z : zeroAV Tryz.prog 22 = [.nil] := by kernel_rfl
@[go_sem] theorem ty24_has : hasT Tryz.prog 24 = true := by kernel_rfl
@[go_sem] theorem ty24_agg : aggT Tryz.prog 24 = true := by kernel_rfl
@[go_sem] theorem ty24_sz : szT Tryz.prog 24 = 1 := by kernel_rfl
@[go_sem] theorem ty24_sl : slT Tryz.prog 24 = false := by kernel_rfl
@[go_sem] theorem ty24_str : strT Tryz.prog 24 = false := by kernel_rfl
@[go_sem] theorem ty24_zok : zeroOk Tryz.prog 24 = true := by kernel_rfl
@[go_sem] theorem ty24_by : bytesT Tryz.prog 24 = 24 := by kernel_rfl
@[go_sem] theorem ty24_ar : arT Tryz.prog 24 = none := by kernel_rfl
@[go_sem] theorem ty24_pl : placesL Tryz.prog 24 = some [(0, 1)] := by kernel_rfl
@[go_sem] theorem ty24_f0 : fldT Tryz.prog 24 0 = some (0, 22) := by kernel_rfl
@[go_sem] theorem ty24_z : zeroAV Tryz.prog 24 = [.nil] := by kernel_rfl
@[go_sem] theorem ty25_has : hasT Tryz.prog 25 = true := by kernel_rfl
@[go_sem] theorem ty25_agg : aggT Tryz.prog 25 = false := by kernel_rfl
@[go_sem] theorem ty25_sz : szT Tryz.prog 25 = 1 := by kernel_rfl
@[go_sem] theorem ty25_sl : slT Tryz.prog 25 = true := by kernel_rfl
@[go_sem] theorem ty25_str : strT Tryz.prog 25 = false := by kernel_rfl
@[go_sem] theorem ty25_zok : zeroOk Tryz.prog 25 = true := by kernel_rfl
@[go_sem] theorem ty25_by : bytesT Tryz.prog 25 = 24 := by kernel_rfl
@[go_sem] theorem ty25_el : elT Tryz.prog 25 = 35 := by kernel_rfl
@[go_sem] theorem ty25_ar : arT Tryz.prog 25 = none := by kernel_rfl
@[go_sem] theorem ty25_pl : placesL Tryz.prog 25 = none := by kernel_rfl
@[go_sem] theorem ty25_z : zeroAV Tryz.prog 25 = [.nil] := by kernel_rfl
@[go_sem] theorem ty26_has : hasT Tryz.prog 26 = true := by kernel_rfl
@[go_sem] theorem ty26_agg : aggT Tryz.prog 26 = false := by kernel_rfl
@[go_sem] theorem ty26_sz : szT Tryz.prog 26 = 1 := by kernel_rfl
@[go_sem] theorem ty26_sl : slT Tryz.prog 26 = true := by kernel_rfl
@[go_sem] theorem ty26_str : strT Tryz.prog 26 = false := by kernel_rfl
@[go_sem] theorem ty26_zok : zeroOk Tryz.prog 26 = true := by kernel_rfl
@[go_sem] theorem ty26_by : bytesT Tryz.prog 26 = 24 := by kernel_rfl
@[go_sem] theorem ty26_el : elT Tryz.prog 26 = 40 := by kernel_rfl
@[go_sem] theorem ty26_ar : arT Tryz.prog 26 = none := by kernel_rfl
@[go_sem] theorem ty26_pl : placesL Tryz.prog 26 = none := by kernel_rfl
@[go_sem] theorem ty26_z : zeroAV Tryz.prog 26 = [.nil] := by kernel_rfl
@[go_sem] theorem ty27_has : hasT Tryz.prog 27 = true := by kernel_rfl
@[go_sem] theorem ty27_agg : aggT Tryz.prog 27 = false := by kernel_rfl
@[go_sem] theorem ty27_sz : szT Tryz.prog 27 = 1 := by kernel_rfl
@[go_sem] theorem ty27_sl : slT Tryz.prog 27 = false := by kernel_rfl
@[go_sem] theorem ty27_str : strT Tryz.prog 27 = false := by kernel_rfl
@[go_sem] theorem ty27_zok : zeroOk Tryz.prog 27 = true := by kernel_rfl
@[go_sem] theorem ty27_by : bytesT Tryz.prog 27 = 8 := by kernel_rfl
@[go_sem] theorem ty27_ar : arT Tryz.prog 27 = none := by kernel_rfl
@[go_sem] theorem ty27_pl : placesL Tryz.prog 27 = none := by kernel_rfl
@[go_sem] theorem ty27_z : zeroAV Tryz.prog 27 = [.d (.v (.int .i64 0))] := by kernel_rfl
@[go_sem] theorem ty35_has : hasT Tryz.prog 35 = true := by kernel_rfl
@[go_sem] theorem ty35_agg : aggT Tryz.prog 35 = false := by kernel_rfl
@[go_sem] theorem ty35_sz : szT Tryz.prog 35 = 1 := by kernel_rfl
@[go_sem] theorem ty35_sl : slT Tryz.prog 35 = true := by kernel_rfl
@[go_sem] theorem ty35_str : strT Tryz.prog 35 = false := by kernel_rfl
@[go_sem] theorem ty35_zok : zeroOk Tryz.prog 35 = true := by kernel_rfl
@[go_sem] theorem ty35_by : bytesT Tryz.prog 35 = 24 := by kernel_rfl
@[go_sem] theorem ty35_el : elT Tryz.prog 35 = 66 := by kernel_rfl
@[go_sem] theorem ty35_ar : arT Tryz.prog 35 = none := by kernel_rfl
@[go_sem] theorem ty35_pl : placesL Tryz.prog 35 = none := by kernel_rfl
@[go_sem] theorem ty35_z : zeroAV Tryz.prog 35 = [.nil] := by kernel_rfl
@[go_sem] theorem ty40_has : hasT Tryz.prog 40 = true := by kernel_rfl
@[go_sem] theorem ty40_agg : aggT Tryz.prog 40 = true := by kernel_rfl
@[go_sem] theorem ty40_sz : szT Tryz.prog 40 = 8 := by kernel_rfl
@[go_sem] theorem ty40_sl : slT Tryz.prog 40 = false := by kernel_rfl
@[go_sem] theorem ty40_str : strT Tryz.prog 40 = false := by kernel_rfl
@[go_sem] theorem ty40_zok : zeroOk Tryz.prog 40 = true := by kernel_rfl
@[go_sem] theorem ty40_by : bytesT Tryz.prog 40 = 72 := by kernel_rfl
@[go_sem] theorem ty40_ar : arT Tryz.prog 40 = none := by kernel_rfl
@[go_sem] theorem ty40_pl : placesL Tryz.prog 40 = some [(0, 1), (1, 1), (2, 1), (3, 1), (4, 1), (5, 1), (6, 1), (7, 1)] := by kernel_rfl
@[go_sem] theorem ty40_f0 : fldT Tryz.prog 40 0 = some (0, 3) := by kernel_rfl
@[go_sem] theorem ty40_f1 : fldT Tryz.prog 40 1 = some (1, 3) := by kernel_rfl
@[go_sem] theorem ty40_f2 : fldT Tryz.prog 40 2 = some (2, 3) := by kernel_rfl
@[go_sem] theorem ty40_f3 : fldT Tryz.prog 40 3 = some (3, 3) := by kernel_rfl
@[go_sem] theorem ty40_f4 : fldT Tryz.prog 40 4 = some (4, 3) := by kernel_rfl
@[go_sem] theorem ty40_f5 : fldT Tryz.prog 40 5 = some (5, 4) := by kernel_rfl
@[go_sem] theorem ty40_f6 : fldT Tryz.prog 40 6 = some (6, 4) := by kernel_rfl
@[go_sem] theorem ty40_f7 : fldT Tryz.prog 40 7 = some (7, 22) := by kernel_rfl
@[go_sem] theorem ty40_z : zeroAV Tryz.prog 40 = [.d (.v (.int .i64 0)), .d (.v (.int .i64 0)), .d (.v (.int .i64 0)), .d (.v (.int .i64 0)), .d (.v (.int .i64 0)), .d (.v (.bool false)), .d (.v (.bool false)), .nil] := by kernel_rfl
@[go_sem] theorem ty51_has : hasT Tryz.prog 51 = true := by kernel_rfl
@[go_sem] theorem ty51_agg : aggT Tryz.prog 51 = false := by kernel_rfl
@[go_sem] theorem ty51_sz : szT Tryz.prog 51 = 1 := by kernel_rfl
@[go_sem] theorem ty51_sl : slT Tryz.prog 51 = true := by kernel_rfl
@[go_sem] theorem ty51_str : strT Tryz.prog 51 = false := by kernel_rfl
@[go_sem] theorem ty51_zok : zeroOk Tryz.prog 51 = true := by kernel_rfl
@[go_sem] theorem ty51_by : bytesT Tryz.prog 51 = 24 := by kernel_rfl
@[go_sem] theorem ty51_el : elT Tryz.prog 51 = 22 := by kernel_rfl
@[go_sem] theorem ty51_ar : arT Tryz.prog 51 = none := by kernel_rfl
@[go_sem] theorem ty51_pl : placesL Tryz.prog 51 = none := by kernel_rfl
@[go_sem] theorem ty51_z : zeroAV Tryz.prog 51 = [.nil] := by kernel_rfl
@[go_sem] theorem ty53_has : hasT Tryz.prog 53 = true := by kernel_rfl
@[go_sem] theorem ty53_agg : aggT Tryz.prog 53 = true := by kernel_rfl
@[go_sem] theorem ty53_sz : szT Tryz.prog 53 = 2 := by kernel_rfl
@[go_sem] theorem ty53_sl : slT Tryz.prog 53 = false := by kernel_rfl
@[go_sem] theorem ty53_str : strT Tryz.prog 53 = false := by kernel_rfl
@[go_sem] theorem ty53_zok : zeroOk Tryz.prog 53 = true := by kernel_rfl
@[go_sem] theorem ty53_by : bytesT Tryz.prog 53 = 32 := by kernel_rfl
@[go_sem] theorem ty53_ar : arT Tryz.prog 53 = none := by kernel_rfl
@[go_sem] theorem ty53_pl : placesL Tryz.prog 53 = some [(0, 1), (1, 1)] := by kernel_rfl
@[go_sem] theorem ty53_f0 : fldT Tryz.prog 53 0 = some (0, 3) := by kernel_rfl
@[go_sem] theorem ty53_f1 : fldT Tryz.prog 53 1 = some (1, 51) := by kernel_rfl
@[go_sem] theorem ty53_z : zeroAV Tryz.prog 53 = [.d (.v (.int .i64 0)), .nil] := by kernel_rfl
@[go_sem] theorem ty58_has : hasT Tryz.prog 58 = true := by kernel_rfl
@[go_sem] theorem ty58_agg : aggT Tryz.prog 58 = false := by kernel_rfl
@[go_sem] theorem ty58_sz : szT Tryz.prog 58 = 1 := by kernel_rfl
@[go_sem] theorem ty58_sl : slT Tryz.prog 58 = false := by kernel_rfl
@[go_sem] theorem ty58_str : strT Tryz.prog 58 = false := by kernel_rfl
@[go_sem] theorem ty58_zok : zeroOk Tryz.prog 58 = true := by kernel_rfl
@[go_sem] theorem ty58_by : bytesT Tryz.prog 58 = 8 := by kernel_rfl
@[go_sem] theorem ty58_ar : arT Tryz.prog 58 = none := by kernel_rfl
@[go_sem] theorem ty58_pl : placesL Tryz.prog 58 = none := by kernel_rfl
@[go_sem] theorem ty58_z : zeroAV Tryz.prog 58 = [.d (.v (.nilFunc))] := by kernel_rfl
@[go_sem] theorem ty61_has : hasT Tryz.prog 61 = true := by kernel_rfl
@[go_sem] theorem ty61_agg : aggT Tryz.prog 61 = false := by kernel_rfl
@[go_sem] theorem ty61_sz : szT Tryz.prog 61 = 1 := by kernel_rfl
@[go_sem] theorem ty61_sl : slT Tryz.prog 61 = true := by kernel_rfl
@[go_sem] theorem ty61_str : strT Tryz.prog 61 = false := by kernel_rfl
@[go_sem] theorem ty61_zok : zeroOk Tryz.prog 61 = true := by kernel_rfl
@[go_sem] theorem ty61_by : bytesT Tryz.prog 61 = 24 := by kernel_rfl
@[go_sem] theorem ty61_el : elT Tryz.prog 61 = 63 := by kernel_rfl
@[go_sem] theorem ty61_ar : arT Tryz.prog 61 = none := by kernel_rfl
@[go_sem] theorem ty61_pl : placesL Tryz.prog 61 = none := by kernel_rfl
@[go_sem] theorem ty61_z : zeroAV Tryz.prog 61 = [.nil] := by kernel_rfl
@[go_sem] theorem ty63_has : hasT Tryz.prog 63 = true := by kernel_rfl
@[go_sem] theorem ty63_agg : aggT Tryz.prog 63 = true := by kernel_rfl
@[go_sem] theorem ty63_sz : szT Tryz.prog 63 = 3 := by kernel_rfl
@[go_sem] theorem ty63_sl : slT Tryz.prog 63 = false := by kernel_rfl
@[go_sem] theorem ty63_str : strT Tryz.prog 63 = false := by kernel_rfl
@[go_sem] theorem ty63_zok : zeroOk Tryz.prog 63 = true := by kernel_rfl
@[go_sem] theorem ty63_by : bytesT Tryz.prog 63 = 40 := by kernel_rfl
@[go_sem] theorem ty63_ar : arT Tryz.prog 63 = none := by kernel_rfl
@[go_sem] theorem ty63_pl : placesL Tryz.prog 63 = some [(0, 1), (1, 1), (2, 1)] := by kernel_rfl
@[go_sem] theorem ty63_f0 : fldT Tryz.prog 63 0 = some (0, 3) := by kernel_rfl
@[go_sem] theorem ty63_f1 : fldT Tryz.prog 63 1 = some (1, 3) := by kernel_rfl
@[go_sem] theorem ty63_f2 : fldT Tryz.prog 63 2 = some (2, 61) := by kernel_rfl
@[go_sem] theorem ty63_z : zeroAV Tryz.prog 63 = [.d (.v (.int .i64 0)), .d (.v (.int .i64 0)), .nil] := by kernel_rfl
@[go_sem] theorem ty66_has : hasT Tryz.prog 66 = true := by kernel_rfl
@[go_sem] theorem ty66_agg : aggT Tryz.prog 66 = true := by kernel_rfl
@[go_sem] theorem ty66_sz : szT Tryz.prog 66 = 7 := by kernel_rfl
@[go_sem] theorem ty66_sl : slT Tryz.prog 66 = false := by kernel_rfl
@[go_sem] theorem ty66_str : strT Tryz.prog 66 = false := by kernel_rfl
@[go_sem] theorem ty66_zok : zeroOk Tryz.prog 66 = true := by kernel_rfl
@[go_sem] theorem ty66_by : bytesT Tryz.prog 66 = 88 := by kernel_rfl
@[go_sem] theorem ty66_ar : arT Tryz.prog 66 = none := by kernel_rfl
@[go_sem] theorem ty66_pl : placesL Tryz.prog 66 = some [(0, 1), (1, 3), (4, 3)] := by kernel_rfl
@[go_sem] theorem ty66_f0 : fldT Tryz.prog 66 0 = some (0, 4) := by kernel_rfl
@[go_sem] theorem ty66_f1 : fldT Tryz.prog 66 1 = some (1, 63) := by kernel_rfl
@[go_sem] theorem ty66_f2 : fldT Tryz.prog 66 2 = some (4, 63) := by kernel_rfl
@[go_sem] theorem ty66_z : zeroAV Tryz.prog 66 = [.d (.v (.bool false)), .d (.v (.int .i64 0)), .d (.v (.int .i64 0)), .nil, .d (.v (.int .i64 0)), .d (.v (.int .i64 0)), .nil] := by kernel_rfl
@[go_sem] theorem ty73_has : hasT Tryz.prog 73 = true := by kernel_rfl
@[go_sem] theorem ty73_agg : aggT Tryz.prog 73 = false := by kernel_rfl
@[go_sem] theorem ty73_sz : szT Tryz.prog 73 = 1 := by kernel_rfl
@[go_sem] theorem ty73_sl : slT Tryz.prog 73 = true := by kernel_rfl
@[go_sem] theorem ty73_str : strT Tryz.prog 73 = false := by kernel_rfl
@[go_sem] theorem ty73_zok : zeroOk Tryz.prog 73 = true := by kernel_rfl
@[go_sem] theorem ty73_by : bytesT Tryz.prog 73 = 24 := by kernel_rfl
@[go_sem] theorem ty73_el : elT Tryz.prog 73 = 82 := by kernel_rfl
@[go_sem] theorem ty73_ar : arT Tryz.prog 73 = none := by kernel_rfl
@[go_sem] theorem ty73_pl : placesL Tryz.prog 73 = none := by kernel_rfl
@[go_sem] theorem ty73_z : zeroAV Tryz.prog 73 = [.nil] := by kernel_rfl
@[go_sem] theorem ty82_has : hasT Tryz.prog 82 = true := by kernel_rfl
@[go_sem] theorem ty82_agg : aggT Tryz.prog 82 = true := by kernel_rfl
@[go_sem] theorem ty82_sz : szT Tryz.prog 82 = 4 := by kernel_rfl
@[go_sem] theorem ty82_sl : slT Tryz.prog 82 = false := by kernel_rfl
@[go_sem] theorem ty82_str : strT Tryz.prog 82 = false := by kernel_rfl
@[go_sem] theorem ty82_zok : zeroOk Tryz.prog 82 = true := by kernel_rfl
@[go_sem] theorem ty82_by : bytesT Tryz.prog 82 = 48 := by kernel_rfl
@[go_sem] theorem ty82_ar : arT Tryz.prog 82 = none := by kernel_rfl
@[go_sem] theorem ty82_pl : placesL Tryz.prog 82 = some [(0, 1), (1, 3)] := by kernel_rfl
@[go_sem] theorem ty82_f0 : fldT Tryz.prog 82 0 = some (0, 3) := by kernel_rfl
@[go_sem] theorem ty82_f1 : fldT Tryz.prog 82 1 = some (1, 63) := by kernel_rfl
@[go_sem] theorem ty82_z : zeroAV Tryz.prog 82 = [.d (.v (.int .i64 0)), .d (.v (.int .i64 0)), .d (.v (.int .i64 0)), .nil] := by kernel_rfl
@[go_sem] theorem ty87_has : hasT Tryz.prog 87 = true := by kernel_rfl
@[go_sem] theorem ty87_agg : aggT Tryz.prog 87 = false := by kernel_rfl
@[go_sem] theorem ty87_sz : szT Tryz.prog 87 = 1 := by kernel_rfl
@[go_sem] theorem ty87_sl : slT Tryz.prog 87 = false := by kernel_rfl
@[go_sem] theorem ty87_str : strT Tryz.prog 87 = false := by kernel_rfl
@[go_sem] theorem ty87_zok : zeroOk Tryz.prog 87 = true := by kernel_rfl
@[go_sem] theorem ty87_by : bytesT Tryz.prog 87 = 8 := by kernel_rfl
@[go_sem] theorem ty87_ar : arT Tryz.prog 87 = none := by kernel_rfl
@[go_sem] theorem ty87_pl : placesL Tryz.prog 87 = none := by kernel_rfl
@[go_sem] theorem ty87_z : zeroAV Tryz.prog 87 = [.d (.v (.nilFunc))] := by kernel_rfl
@[go_sem] theorem ty89_has : hasT Tryz.prog 89 = true := by kernel_rfl
@[go_sem] theorem ty89_agg : aggT Tryz.prog 89 = false := by kernel_rfl
@[go_sem] theorem ty89_sz : szT Tryz.prog 89 = 1 := by kernel_rfl
@[go_sem] theorem ty89_sl : slT Tryz.prog 89 = false := by kernel_rfl
@[go_sem] theorem ty89_str : strT Tryz.prog 89 = false := by kernel_rfl
@[go_sem] theorem ty89_zok : zeroOk Tryz.prog 89 = true := by kernel_rfl
@[go_sem] theorem ty89_by : bytesT Tryz.prog 89 = 8 := by kernel_rfl
@[go_sem] theorem ty89_ar : arT Tryz.prog 89 = none := by kernel_rfl
@[go_sem] theorem ty89_pl : placesL Tryz.prog 89 = none := by kernel_rfl
@[go_sem] theorem ty89_z : zeroAV Tryz.prog 89 = [.d (.v (.nilFunc))] := by kernel_rfl
@[go_sem] theorem ty90_has : hasT Tryz.prog 90 = true := by kernel_rfl
@[go_sem] theorem ty90_agg : aggT Tryz.prog 90 = false := by kernel_rfl
@[go_sem] theorem ty90_sz : szT Tryz.prog 90 = 1 := by kernel_rfl
@[go_sem] theorem ty90_sl : slT Tryz.prog 90 = true := by kernel_rfl
@[go_sem] theorem ty90_str : strT Tryz.prog 90 = false := by kernel_rfl
@[go_sem] theorem ty90_zok : zeroOk Tryz.prog 90 = true := by kernel_rfl
@[go_sem] theorem ty90_by : bytesT Tryz.prog 90 = 24 := by kernel_rfl
@[go_sem] theorem ty90_el : elT Tryz.prog 90 = 4 := by kernel_rfl
@[go_sem] theorem ty90_ar : arT Tryz.prog 90 = none := by kernel_rfl
@[go_sem] theorem ty90_pl : placesL Tryz.prog 90 = none := by kernel_rfl
@[go_sem] theorem ty90_z : zeroAV Tryz.prog 90 = [.nil] := by kernel_rfl
@[go_sem] theorem ty98_has : hasT Tryz.prog 98 = true := by kernel_rfl
@[go_sem] theorem ty98_agg : aggT Tryz.prog 98 = false := by kernel_rfl
@[go_sem] theorem ty98_sz : szT Tryz.prog 98 = 1 := by kernel_rfl
@[go_sem] theorem ty98_sl : slT Tryz.prog 98 = false := by kernel_rfl
@[go_sem] theorem ty98_str : strT Tryz.prog 98 = false := by kernel_rfl
@[go_sem] theorem ty98_zok : zeroOk Tryz.prog 98 = true := by kernel_rfl
@[go_sem] theorem ty98_by : bytesT Tryz.prog 98 = 8 := by kernel_rfl
@[go_sem] theorem ty98_ar : arT Tryz.prog 98 = none := by kernel_rfl
@[go_sem] theorem ty98_pl : placesL Tryz.prog 98 = none := by kernel_rfl
@[go_sem] theorem ty98_z : zeroAV Tryz.prog 98 = [.d (.v (.map none))] := by kernel_rfl
@[go_sem] theorem ty99_has : hasT Tryz.prog 99 = true := by kernel_rfl
@[go_sem] theorem ty99_agg : aggT Tryz.prog 99 = false := by kernel_rfl
@[go_sem] theorem ty99_sz : szT Tryz.prog 99 = 1 := by kernel_rfl
@[go_sem] theorem ty99_sl : slT Tryz.prog 99 = false := by kernel_rfl
@[go_sem] theorem ty99_str : strT Tryz.prog 99 = false := by kernel_rfl
@[go_sem] theorem ty99_zok : zeroOk Tryz.prog 99 = true := by kernel_rfl
@[go_sem] theorem ty99_by : bytesT Tryz.prog 99 = 8 := by kernel_rfl
@[go_sem] theorem ty99_ar : arT Tryz.prog 99 = none := by kernel_rfl
@[go_sem] theorem ty99_pl : placesL Tryz.prog 99 = none := by kernel_rfl
@[go_sem] theorem ty99_z : zeroAV Tryz.prog 99 = [.d (.v (.nilFunc))] := by kernel_rfl
@[go_sem] theorem ty102_has : hasT Tryz.prog 102 = true := by kernel_rfl
@[go_sem] theorem ty102_agg : aggT Tryz.prog 102 = false := by kernel_rfl
@[go_sem] theorem ty102_sz : szT Tryz.prog 102 = 1 := by kernel_rfl
@[go_sem] theorem ty102_sl : slT Tryz.prog 102 = false := by kernel_rfl
@[go_sem] theorem ty102_str : strT Tryz.prog 102 = false := by kernel_rfl
@[go_sem] theorem ty102_zok : zeroOk Tryz.prog 102 = true := by kernel_rfl
@[go_sem] theorem ty102_by : bytesT Tryz.prog 102 = 8 := by kernel_rfl
@[go_sem] theorem ty102_ar : arT Tryz.prog 102 = none := by kernel_rfl
@[go_sem] theorem ty102_pl : placesL Tryz.prog 102 = none := by kernel_rfl
@[go_sem] theorem ty102_z : zeroAV Tryz.prog 102 = [.d (.v (.nilFunc))] := by kernel_rfl
@[go_sem] theorem ty104_has : hasT Tryz.prog 104 = true := by kernel_rfl
@[go_sem] theorem ty104_agg : aggT Tryz.prog 104 = false := by kernel_rfl
@[go_sem] theorem ty104_sz : szT Tryz.prog 104 = 1 := by kernel_rfl
@[go_sem] theorem ty104_sl : slT Tryz.prog 104 = false := by kernel_rfl
@[go_sem] theorem ty104_str : strT Tryz.prog 104 = false := by kernel_rfl
@[go_sem] theorem ty104_zok : zeroOk Tryz.prog 104 = true := by kernel_rfl
@[go_sem] theorem ty104_by : bytesT Tryz.prog 104 = 8 := by kernel_rfl
@[go_sem] theorem ty104_ar : arT Tryz.prog 104 = none := by kernel_rfl
@[go_sem] theorem ty104_pl : placesL Tryz.prog 104 = none := by kernel_rfl
@[go_sem] theorem ty104_z : zeroAV Tryz.prog 104 = [.d (.v (.nilFunc))] := by kernel_rfl
@[go_sem] theorem ty108_has : hasT Tryz.prog 108 = true := by kernel_rfl
@[go_sem] theorem ty108_agg : aggT Tryz.prog 108 = false := by kernel_rfl
@[go_sem] theorem ty108_sz : szT Tryz.prog 108 = 1 := by kernel_rfl
@[go_sem] theorem ty108_sl : slT Tryz.prog 108 = false := by kernel_rfl
@[go_sem] theorem ty108_str : strT Tryz.prog 108 = false := by kernel_rfl
@[go_sem] theorem ty108_zok : zeroOk Tryz.prog 108 = true := by kernel_rfl
@[go_sem] theorem ty108_by : bytesT Tryz.prog 108 = 8 := by kernel_rfl
@[go_sem] theorem ty108_ar : arT Tryz.prog 108 = none := by kernel_rfl
@[go_sem] theorem ty108_pl : placesL Tryz.prog 108 = none := by kernel_rfl
@[go_sem] theorem ty108_z : zeroAV Tryz.prog 108 = [.d (.v (.nilFunc))] := by kernel_rfl
@[go_sem] theorem ty110_has : hasT Tryz.prog 110 = true := by kernel_rfl
@[go_sem] theorem ty110_agg : aggT Tryz.prog 110 = false := by kernel_rfl
@[go_sem] theorem ty110_sz : szT Tryz.prog 110 = 1 := by kernel_rfl
@[go_sem] theorem ty110_sl : slT Tryz.prog 110 = false := by kernel_rfl
@[go_sem] theorem ty110_str : strT Tryz.prog 110 = false := by kernel_rfl
@[go_sem] theorem ty110_zok : zeroOk Tryz.prog 110 = true := by kernel_rfl
@[go_sem] theorem ty110_by : bytesT Tryz.prog 110 = 8 := by kernel_rfl
@[go_sem] theorem ty110_ar : arT Tryz.prog 110 = none := by kernel_rfl
@[go_sem] theorem ty110_pl : placesL Tryz.prog 110 = none := by kernel_rfl
@[go_sem] theorem ty110_z : zeroAV Tryz.prog 110 = [.d (.v (.nilFunc))] := by kernel_rfl
@[go_sem] theorem ty113_has : hasT Tryz.prog 113 = true := by kernel_rfl
@[go_sem] theorem ty113_agg : aggT Tryz.prog 113 = true := by kernel_rfl
@[go_sem] theorem ty113_sz : szT Tryz.prog 113 = 6 := by kernel_rfl
@[go_sem] theorem ty113_sl : slT Tryz.prog 113 = false := by kernel_rfl
@[go_sem] theorem ty113_str : strT Tryz.prog 113 = false := by kernel_rfl
@[go_sem] theorem ty113_zok : zeroOk Tryz.prog 113 = true := by kernel_rfl
@[go_sem] theorem ty113_by : bytesT Tryz.prog 113 = 80 := by kernel_rfl
@[go_sem] theorem ty113_el : elT Tryz.prog 113 = 63 := by kernel_rfl
@[go_sem] theorem ty113_ar : arT Tryz.prog 113 = some 2 := by kernel_rfl
@[go_sem] theorem ty113_pl : placesL Tryz.prog 113 = none := by kernel_rfl
@[go_sem] theorem ty113_z : zeroAV Tryz.prog 113 = [.d (.v (.int .i64 0)), .d (.v (.int .i64 0)), .nil, .d (.v (.int .i64 0)), .d (.v (.int .i64 0)), .nil] := by kernel_rfl
@[go_sem] theorem ty114_has : hasT Tryz.prog 114 = true := by kernel_rfl
@[go_sem] theorem ty114_agg : aggT Tryz.prog 114 = false := by kernel_rfl
@[go_sem] theorem ty114_sz : szT Tryz.prog 114 = 1 := by kernel_rfl
@[go_sem] theorem ty114_sl : slT Tryz.prog 114 = true := by kernel_rfl
@[go_sem] theorem ty114_str : strT Tryz.prog 114 = false := by kernel_rfl
@[go_sem] theorem ty114_zok : zeroOk Tryz.prog 114 = true := by kernel_rfl
@[go_sem] theorem ty114_by : bytesT Tryz.prog 114 = 24 := by kernel_rfl
@[go_sem] theorem ty114_el : elT Tryz.prog 114 = 113 := by kernel_rfl
@[go_sem] theorem ty114_ar : arT Tryz.prog 114 = none := by kernel_rfl
@[go_sem] theorem ty114_pl : placesL Tryz.prog 114 = none := by kernel_rfl
@[go_sem] theorem ty114_z : zeroAV Tryz.prog 114 = [.nil] := by kernel_rfl
@[go_sem] theorem ty126_has : hasT Tryz.prog 126 = true := by kernel_rfl
@[go_sem] theorem ty126_agg : aggT Tryz.prog 126 = false := by kernel_rfl
@[go_sem] theorem ty126_sz : szT Tryz.prog 126 = 1 := by kernel_rfl
@[go_sem] theorem ty126_sl : slT Tryz.prog 126 = false := by kernel_rfl
@[go_sem] theorem ty126_str : strT Tryz.prog 126 = false := by kernel_rfl
@[go_sem] theorem ty126_zok : zeroOk Tryz.prog 126 = true := by kernel_rfl
@[go_sem] theorem ty126_by : bytesT Tryz.prog 126 = 8 := by kernel_rfl
@[go_sem] theorem ty126_ar : arT Tryz.prog 126 = none := by kernel_rfl
@[go_sem] theorem ty126_pl : placesL Tryz.prog 126 = none := by kernel_rfl
@[go_sem] theorem ty126_z : zeroAV Tryz.prog 126 = [.d (.v (.nilFunc))] := by kernel_rfl
@[go_sem] theorem ty128_has : hasT Tryz.prog 128 = true := by kernel_rfl
@[go_sem] theorem ty128_agg : aggT Tryz.prog 128 = false := by kernel_rfl
@[go_sem] theorem ty128_sz : szT Tryz.prog 128 = 1 := by kernel_rfl
@[go_sem] theorem ty128_sl : slT Tryz.prog 128 = false := by kernel_rfl
@[go_sem] theorem ty128_str : strT Tryz.prog 128 = false := by kernel_rfl
@[go_sem] theorem ty128_zok : zeroOk Tryz.prog 128 = true := by kernel_rfl
@[go_sem] theorem ty128_by : bytesT Tryz.prog 128 = 8 := by kernel_rfl
@[go_sem] theorem ty128_ar : arT Tryz.prog 128 = none := by kernel_rfl
@[go_sem] theorem ty128_pl : placesL Tryz.prog 128 = none := by kernel_rfl
@[go_sem] theorem ty128_z : zeroAV Tryz.prog 128 = [.d (.v (.nilFunc))] := by kernel_rfl
@[go_sem] theorem ty130_has : hasT Tryz.prog 130 = true := by kernel_rfl
@[go_sem] theorem ty130_agg : aggT Tryz.prog 130 = false := by kernel_rfl
@[go_sem] theorem ty130_sz : szT Tryz.prog 130 = 1 := by kernel_rfl
@[go_sem] theorem ty130_sl : slT Tryz.prog 130 = false := by kernel_rfl
@[go_sem] theorem ty130_str : strT Tryz.prog 130 = false := by kernel_rfl
@[go_sem] theorem ty130_zok : zeroOk Tryz.prog 130 = true := by kernel_rfl
@[go_sem] theorem ty130_by : bytesT Tryz.prog 130 = 8 := by kernel_rfl
@[go_sem] theorem ty130_ar : arT Tryz.prog 130 = none := by kernel_rfl
@[go_sem] theorem ty130_pl : placesL Tryz.prog 130 = none := by kernel_rfl
@[go_sem] theorem ty130_z : zeroAV Tryz.prog 130 = [.d (.v (.nilFunc))] := by kernel_rfl
@[go_sem] theorem ty133_has : hasT Tryz.prog 133 = true := by kernel_rfl
@[go_sem] theorem ty133_agg : aggT Tryz.prog 133 = false := by kernel_rfl
@[go_sem] theorem ty133_sz : szT Tryz.prog 133 = 1 := by kernel_rfl
@[go_sem] theorem ty133_sl : slT Tryz.prog 133 = false := by kernel_rfl
@[go_sem] theorem ty133_str : strT Tryz.prog 133 = false := by kernel_rfl
@[go_sem] theorem ty133_zok : zeroOk Tryz.prog 133 = true := by kernel_rfl
@[go_sem] theorem ty133_by : bytesT Tryz.prog 133 = 8 := by kernel_rfl
@[go_sem] theorem ty133_ar : arT Tryz.prog 133 = none := by kernel_rfl
@[go_sem] theorem ty133_pl : placesL Tryz.prog 133 = none := by kernel_rfl
@[go_sem] theorem ty133_z : zeroAV Tryz.prog 133 = [.d (.v (.map none))] := by kernel_rfl
@[go_sem] theorem ty145_has : hasT Tryz.prog 145 = true := by kernel_rfl
@[go_sem] theorem ty145_agg : aggT Tryz.prog 145 = false := by kernel_rfl
@[go_sem] theorem ty145_sz : szT Tryz.prog 145 = 1 := by kernel_rfl
@[go_sem] theorem ty145_sl : slT Tryz.prog 145 = true := by kernel_rfl
@[go_sem] theorem ty145_str : strT Tryz.prog 145 = false := by kernel_rfl
@[go_sem] theorem ty145_zok : zeroOk Tryz.prog 145 = true := by kernel_rfl
@[go_sem] theorem ty145_by : bytesT Tryz.prog 145 = 24 := by kernel_rfl
@[go_sem] theorem ty145_el : elT Tryz.prog 145 = 90 := by kernel_rfl
@[go_sem] theorem ty145_ar : arT Tryz.prog 145 = none := by kernel_rfl
@[go_sem] theorem ty145_pl : placesL Tryz.prog 145 = none := by kernel_rfl
@[go_sem] theorem ty145_z : zeroAV Tryz.prog 145 = [.nil] := by kernel_rfl
@[go_sem] theorem ty159_has : hasT Tryz.prog 159 = true := by kernel_rfl
@[go_sem] theorem ty159_agg : aggT Tryz.prog 159 = false := by kernel_rfl
@[go_sem] theorem ty159_sz : szT Tryz.prog 159 = 1 := by kernel_rfl
@[go_sem] theorem ty159_sl : slT Tryz.prog 159 = false := by kernel_rfl
@[go_sem] theorem ty159_str : strT Tryz.prog 159 = false := by kernel_rfl
@[go_sem] theorem ty159_zok : zeroOk Tryz.prog 159 = true := by kernel_rfl
@[go_sem] theorem ty159_by : bytesT Tryz.prog 159 = 8 := by kernel_rfl
@[go_sem] theorem ty159_ar : arT Tryz.prog 159 = none := by kernel_rfl
@[go_sem] theorem ty159_pl : placesL Tryz.prog 159 = none := by kernel_rfl
@[go_sem] theorem ty159_z : zeroAV Tryz.prog 159 = [.d (.v (.pointer none))] := by kernel_rfl
@[go_sem] theorem ty161_has : hasT Tryz.prog 161 = true := by kernel_rfl
@[go_sem] theorem ty161_agg : aggT Tryz.prog 161 = true := by kernel_rfl
@[go_sem] theorem ty161_sz : szT Tryz.prog 161 = 1 := by kernel_rfl
@[go_sem] theorem ty161_sl : slT Tryz.prog 161 = false := by kernel_rfl
@[go_sem] theorem ty161_str : strT Tryz.prog 161 = false := by kernel_rfl
@[go_sem] theorem ty161_zok : zeroOk Tryz.prog 161 = true := by kernel_rfl
@[go_sem] theorem ty161_by : bytesT Tryz.prog 161 = 8 := by kernel_rfl
@[go_sem] theorem ty161_ar : arT Tryz.prog 161 = none := by kernel_rfl
@[go_sem] theorem ty161_pl : placesL Tryz.prog 161 = some [(0, 1)] := by kernel_rfl
@[go_sem] theorem ty161_f0 : fldT Tryz.prog 161 0 = some (0, 133) := by kernel_rfl
@[go_sem] theorem ty161_z : zeroAV Tryz.prog 161 = [.d (.v (.map none))] := by kernel_rfl
@[go_sem] theorem ty167_has : hasT Tryz.prog 167 = true := by kernel_rfl
@[go_sem] theorem ty167_agg : aggT Tryz.prog 167 = false := by kernel_rfl
@[go_sem] theorem ty167_sz : szT Tryz.prog 167 = 1 := by kernel_rfl
@[go_sem] theorem ty167_sl : slT Tryz.prog 167 = false := by kernel_rfl
@[go_sem] theorem ty167_str : strT Tryz.prog 167 = false := by kernel_rfl
@[go_sem] theorem ty167_zok : zeroOk Tryz.prog 167 = true := by kernel_rfl
@[go_sem] theorem ty167_by : bytesT Tryz.prog 167 = 8 := by kernel_rfl
@[go_sem] theorem ty167_ar : arT Tryz.prog 167 = none := by kernel_rfl
@[go_sem] theorem ty167_pl : placesL Tryz.prog 167 = none := by kernel_rfl
@[go_sem] theorem ty167_z : zeroAV Tryz.prog 167 = [.d (.v (.pointer none))] := by kernel_rfl
@[go_sem] theorem ty168_has : hasT Tryz.prog 168 = true := by kernel_rfl
@[go_sem] theorem ty168_agg : aggT Tryz.prog 168 = false := by kernel_rfl
@[go_sem] theorem ty168_sz : szT Tryz.prog 168 = 1 := by kernel_rfl
@[go_sem] theorem ty168_sl : slT Tryz.prog 168 = true := by kernel_rfl
@[go_sem] theorem ty168_str : strT Tryz.prog 168 = false := by kernel_rfl
@[go_sem] theorem ty168_zok : zeroOk Tryz.prog 168 = true := by kernel_rfl
@[go_sem] theorem ty168_by : bytesT Tryz.prog 168 = 24 := by kernel_rfl
@[go_sem] theorem ty168_el : elT Tryz.prog 168 = 178 := by kernel_rfl
@[go_sem] theorem ty168_ar : arT Tryz.prog 168 = none := by kernel_rfl
@[go_sem] theorem ty168_pl : placesL Tryz.prog 168 = none := by kernel_rfl
@[go_sem] theorem ty168_z : zeroAV Tryz.prog 168 = [.nil] := by kernel_rfl
@[go_sem] theorem ty170_has : hasT Tryz.prog 170 = true := by kernel_rfl
@[go_sem] theorem ty170_agg : aggT Tryz.prog 170 = false := by kernel_rfl
@[go_sem] theorem ty170_sz : szT Tryz.prog 170 = 1 := by kernel_rfl
@[go_sem] theorem ty170_sl : slT Tryz.prog 170 = false := by kernel_rfl
@[go_sem] theorem ty170_str : strT Tryz.prog 170 = false := by kernel_rfl
@[go_sem] theorem ty170_zok : zeroOk Tryz.prog 170 = true := by kernel_rfl
@[go_sem] theorem ty170_by : bytesT Tryz.prog 170 = 8 := by kernel_rfl
@[go_sem] theorem ty170_ar : arT Tryz.prog 170 = none := by kernel_rfl
@[go_sem] theorem ty170_pl : placesL Tryz.prog 170 = none := by kernel_rfl
@[go_sem] theorem ty170_z : zeroAV Tryz.prog 170 = [.d (.v (.map none))] := by kernel_rfl
@[go_sem] theorem ty172_has : hasT Tryz.prog 172 = true := by kernel_rfl
@[go_sem] theorem ty172_agg : aggT Tryz.prog 172 = true := by kernel_rfl
@[go_sem] theorem ty172_sz : szT Tryz.prog 172 = 4 := by kernel_rfl
@[go_sem] theorem ty172_sl : slT Tryz.prog 172 = false := by kernel_rfl
@[go_sem] theorem ty172_str : strT Tryz.prog 172 = false := by kernel_rfl
@[go_sem] theorem ty172_zok : zeroOk Tryz.prog 172 = true := by kernel_rfl
@[go_sem] theorem ty172_by : bytesT Tryz.prog 172 = 64 := by kernel_rfl
@[go_sem] theorem ty172_ar : arT Tryz.prog 172 = none := by kernel_rfl
@[go_sem] theorem ty172_pl : placesL Tryz.prog 172 = some [(0, 1), (1, 1), (2, 1), (3, 1)] := by kernel_rfl
@[go_sem] theorem ty172_f0 : fldT Tryz.prog 172 0 = some (0, 168) := by kernel_rfl
@[go_sem] theorem ty172_f1 : fldT Tryz.prog 172 1 = some (1, 168) := by kernel_rfl
@[go_sem] theorem ty172_f2 : fldT Tryz.prog 172 2 = some (2, 170) := by kernel_rfl
@[go_sem] theorem ty172_f3 : fldT Tryz.prog 172 3 = some (3, 170) := by kernel_rfl
@[go_sem] theorem ty172_z : zeroAV Tryz.prog 172 = [.nil, .nil, .d (.v (.map none)), .d (.v (.map none))] := by kernel_rfl
@[go_sem] theorem ty174_has : hasT Tryz.prog 174 = true := by kernel_rfl
@[go_sem] theorem ty174_agg : aggT Tryz.prog 174 = true := by kernel_rfl
@[go_sem] theorem ty174_sz : szT Tryz.prog 174 = 2 := by kernel_rfl
@[go_sem] theorem ty174_sl : slT Tryz.prog 174 = false := by kernel_rfl
@[go_sem] theorem ty174_str : strT Tryz.prog 174 = false := by kernel_rfl
@[go_sem] theorem ty174_zok : zeroOk Tryz.prog 174 = true := by kernel_rfl
@[go_sem] theorem ty174_by : bytesT Tryz.prog 174 = 16 := by kernel_rfl
@[go_sem] theorem ty174_el : elT Tryz.prog 174 = 3 := by kernel_rfl
@[go_sem] theorem ty174_ar : arT Tryz.prog 174 = some 2 := by kernel_rfl
@[go_sem] theorem ty174_pl : placesL Tryz.prog 174 = none := by kernel_rfl
@[go_sem] theorem ty174_z : zeroAV Tryz.prog 174 = [.d (.v (.int .i64 0)), .d (.v (.int .i64 0))] := by kernel_rfl
@[go_sem] theorem ty176_has : hasT Tryz.prog 176 = true := by kernel_rfl
@[go_sem] theorem ty176_agg : aggT Tryz.prog 176 = false := by kernel_rfl
@[go_sem] theorem ty176_sz : szT Tryz.prog 176 = 1 := by kernel_rfl
@[go_sem] theorem ty176_sl : slT Tryz.prog 176 = false := by kernel_rfl
@[go_sem] theorem ty176_str : strT Tryz.prog 176 = false := by kernel_rfl
@[go_sem] theorem ty176_zok : zeroOk Tryz.prog 176 = true := by kernel_rfl
@[go_sem] theorem ty176_by : bytesT Tryz.prog 176 = 8 := by kernel_rfl
@[go_sem] theorem ty176_ar : arT Tryz.prog 176 = none := by kernel_rfl
@[go_sem] theorem ty176_pl : placesL Tryz.prog 176 = none := by kernel_rfl
@[go_sem] theorem ty176_z : zeroAV Tryz.prog 176 = [.d (.v (.map none))] := by kernel_rfl
@[go_sem] theorem ty178_has : hasT Tryz.prog 178 = true := by kernel_rfl
@[go_sem] theorem ty178_agg : aggT Tryz.prog 178 = true := by kernel_rfl
@[go_sem] theorem ty178_sz : szT Tryz.prog 178 = 4 := by kernel_rfl
@[go_sem] theorem ty178_sl : slT Tryz.prog 178 = false := by kernel_rfl
@[go_sem] theorem ty178_str : strT Tryz.prog 178 = false := by kernel_rfl
@[go_sem] theorem ty178_zok : zeroOk Tryz.prog 178 = true := by kernel_rfl
@[go_sem] theorem ty178_by : bytesT Tryz.prog 178 = 64 := by kernel_rfl
@[go_sem] theorem ty178_ar : arT Tryz.prog 178 = none := by kernel_rfl
@[go_sem] theorem ty178_pl : placesL Tryz.prog 178 = some [(0, 3), (3, 1)] := by kernel_rfl
@[go_sem] theorem ty178_f0 : fldT Tryz.prog 178 0 = some (0, 63) := by kernel_rfl
@[go_sem] theorem ty178_f1 : fldT Tryz.prog 178 1 = some (3, 22) := by kernel_rfl
@[go_sem] theorem ty178_z : zeroAV Tryz.prog 178 = [.d (.v (.int .i64 0)), .d (.v (.int .i64 0)), .nil, .nil] := by kernel_rfl
@[go_sem] theorem ty182_has : hasT Tryz.prog 182 = true := by kernel_rfl
@[go_sem] theorem ty182_agg : aggT Tryz.prog 182 = false := by kernel_rfl
@[go_sem] theorem ty182_sz : szT Tryz.prog 182 = 1 := by kernel_rfl
@[go_sem] theorem ty182_sl : slT Tryz.prog 182 = false := by kernel_rfl
@[go_sem] theorem ty182_str : strT Tryz.prog 182 = false := by kernel_rfl
@[go_sem] theorem ty182_zok : zeroOk Tryz.prog 182 = true := by kernel_rfl
@[go_sem] theorem ty182_by : bytesT Tryz.prog 182 = 8 := by kernel_rfl
@[go_sem] theorem ty182_ar : arT Tryz.prog 182 = none := by kernel_rfl
@[go_sem] theorem ty182_pl : placesL Tryz.prog 182 = none := by kernel_rfl
@[go_sem] theorem ty182_z : zeroAV Tryz.prog 182 = [.d (.v (.nilFunc))] := by kernel_rfl
theorem enter13 : enterOk Tryz.prog 13 := by intro a w; go_simp
theorem enter15 : enterOk Tryz.prog 15 := by intro a w; go_simp
theorem enter17 : enterOk Tryz.prog 17 := by intro a w; go_simp
theorem enter20 : enterOk Tryz.prog 20 := by intro a w; go_simp
theorem enter21 : enterOk Tryz.prog 21 := by intro a w; go_simp
theorem enter22 : enterOk Tryz.prog 22 := by intro a w; go_simp
theorem enter24 : enterOk Tryz.prog 24 := by intro a w; go_simp
theorem enter25 : enterOk Tryz.prog 25 := by intro a w; go_simp
theorem enter26 : enterOk Tryz.prog 26 := by intro a w; go_simp
theorem enter29 : enterOk Tryz.prog 29 := by intro a w; go_simp
theorem enter30 : enterOk Tryz.prog 30 := by intro a w; go_simp
theorem enter44 : enterOk Tryz.prog 44 := by intro a w; go_simp
theorem enter45 : enterOk Tryz.prog 45 := by intro a w; go_simp
theorem enter46 : enterOk Tryz.prog 46 := by intro a w; go_simp
theorem enter47 : enterOk Tryz.prog 47 := by intro a w; go_simp
theorem enter50 : enterOk Tryz.prog 50 := by intro a w; go_simp
theorem enter51 : enterOk Tryz.prog 51 := by intro a w; go_simp
theorem enter52 : enterOk Tryz.prog 52 := by intro a w; go_simp
theorem enter53 : enterOk Tryz.prog 53 := by intro a w; go_simp
theorem enter54 : enterOk Tryz.prog 54 := by intro a w; go_simp
theorem enter55 : enterOk Tryz.prog 55 := by intro a w; go_simp
theorem enter56 : enterOk Tryz.prog 56 := by intro a w; go_simp
theorem enter57 : enterOk Tryz.prog 57 := by intro a w; go_simp
theorem enter58 : enterOk Tryz.prog 58 := by intro a w; go_simp
theorem enter59 : enterOk Tryz.prog 59 := by intro a w; go_simp
theorem enter60 : enterOk Tryz.prog 60 := by intro a w; go_simp
theorem enter61 : enterOk Tryz.prog 61 := by intro a w; go_simp
theorem enter62 : enterOk Tryz.prog 62 := by intro a w; go_simp
theorem enter63 : enterOk Tryz.prog 63 := by intro a w; go_simp
theorem enter64 : enterOk Tryz.prog 64 := by intro a w; go_simp
theorem enter65 : enterOk Tryz.prog 65 := by intro a w; go_simp
theorem enter66 : enterOk Tryz.prog 66 := by intro a w; go_simp
theorem enter67 : enterOk Tryz.prog 67 := by intro a w; go_simp
theorem enter80 : enterOk Tryz.prog 80 := by intro a w; go_simp
theorem enter81 : enterOk Tryz.prog 81 := by intro a w; go_simp
theorem enter82 : enterOk Tryz.prog 82 := by intro a w; go_simp
theorem enter83 : enterOk Tryz.prog 83 := by intro a w; go_simp
theorem enter84 : enterOk Tryz.prog 84 := by intro a w; go_simp
theorem enter85 : enterOk Tryz.prog 85 := by intro a w; go_simp
theorem enter86 : enterOk Tryz.prog 86 := by intro a w; go_simp
theorem enter87 : enterOk Tryz.prog 87 := by intro a w; go_simp
theorem enter88 : enterOk Tryz.prog 88 := by intro a w; go_simp
theorem enter89 : enterOk Tryz.prog 89 := by intro a w; go_simp
theorem enter90 : enterOk Tryz.prog 90 := by intro a w; go_simp
theorem enter91 : enterOk Tryz.prog 91 := by intro a w; go_simp
theorem enter92 : enterOk Tryz.prog 92 := by intro a w; go_simp
theorem enter94 : enterOk Tryz.prog 94 := by intro a w; go_simp
theorem enter95 : enterOk Tryz.prog 95 := by intro a w; go_simp
theorem enter96 : enterOk Tryz.prog 96 := by intro a w; go_simp
theorem enter97 : enterOk Tryz.prog 97 := by intro a w; go_simp
theorem enter98 : enterOk Tryz.prog 98 := by intro a w; go_simp
theorem enter99 : enterOk Tryz.prog 99 := by intro a w; go_simp
theorem enter100 : enterOk Tryz.prog 100 := by intro a w; go_simp
theorem enter101 : enterOk Tryz.prog 101 := by intro a w; go_simp
theorem enter102 : enterOk Tryz.prog 102 := by intro a w; go_simp
theorem enter103 : enterOk Tryz.prog 103 := by intro a w; go_simp
theorem enter109 : enterOk Tryz.prog 109 := by intro a w; go_simp
theorem enter111 : enterOk Tryz.prog 111 := by intro a w; go_simp
theorem enter112 : enterOk Tryz.prog 112 := by intro a w; go_simp
theorem enter114 : enterOk Tryz.prog 114 := by intro a w; go_simp
theorem enter115 : enterOk Tryz.prog 115 := by intro a w; go_simp
theorem enter116 : enterOk Tryz.prog 116 := by intro a w; go_simp
theorem enter117 : enterOk Tryz.prog 117 := by intro a w; go_simp
theorem enter118 : enterOk Tryz.prog 118 := by intro a w; go_simp
theorem enter119 : enterOk Tryz.prog 119 := by intro a w; go_simp
theorem enter120 : enterOk Tryz.prog 120 := by intro a w; go_simp
theorem enter121 : enterOk Tryz.prog 121 := by intro a w; go_simp
theorem enter122 : enterOk Tryz.prog 122 := by intro a w; go_simp
theorem enter123 : enterOk Tryz.prog 123 := by intro a w; go_simp
theorem enter124 : enterOk Tryz.prog 124 := by intro a w; go_simp
theorem enter125 : enterOk Tryz.prog 125 := by intro a w; go_simp
theorem enter126 : enterOk Tryz.prog 126 := by intro a w; go_simp
theorem enter127 : enterOk Tryz.prog 127 := by intro a w; go_simp
theorem enter128 : enterOk Tryz.prog 128 := by intro a w; go_simp
theorem enter129 : enterOk Tryz.prog 129 := by intro a w; go_simp
theorem enter130 : enterOk Tryz.prog 130 := by intro a w; go_simp
theorem enter131 : enterOk Tryz.prog 131 := by intro a w; go_simp
theorem enter132 : enterOk Tryz.prog 132 := by intro a w; go_simp
theorem enter133 : enterOk Tryz.prog 133 := by intro a w; go_simp
theorem enter134 : enterOk Tryz.prog 134 := by intro a w; go_simp
theorem enter135 : enterOk Tryz.prog 135 := by intro a w; go_simp
theorem enter136 : enterOk Tryz.prog 136 := by intro a w; go_simp
theorem enter137 : enterOk Tryz.prog 137 := by intro a w; go_simp
theorem enter138 : enterOk Tryz.prog 138 := by intro a w; go_simp
theorem enter139 : enterOk Tryz.prog 139 := by intro a w; go_simp
theorem enter140 : enterOk Tryz.prog 140 := by intro a w; go_simp
theorem enter141 : enterOk Tryz.prog 141 := by intro a w; go_simp
theorem enter142 : enterOk Tryz.prog 142 := by intro a w; go_simp
theorem enter145 : enterOk Tryz.prog 145 := by intro a w; go_simp
theorem enter149 : enterOk Tryz.prog 149 := by intro a w; go_simp
theorem enter150 : enterOk Tryz.prog 150 := by intro a w; go_simp
theorem enter153 : enterOk Tryz.prog 153 := by intro a w; go_simp
theorem mixed : Tryz.prog.follows .mixedOrders = true := by kernel_rfl
end Go.Proofs.YtmeekpinkfpnhabGreat
namespace Go.Proofs.YtmeekpinkfpnhabGreat
inductive Tm where
 | mk (v f : Int) (us : List Tm)
def Tm.v : Tm → Int | .mk v _ _ => v
def Tm.f : Tm → Int | .mk _ f _ => f
def Tm.us : Tm → List Tm | .mk _ _ us => us
theorem Tm.eta : ∀ t : Tm, Tm.mk t.v t.f t.us = t | .mk _ _ _ => rfl
theorem Tm.ind {P : Tm → Prop} (h : ∀ t, (∀ u ∈ t.us, P u) → P t) : ∀ t, P t := by
 intro t
 refine Tm.rec (motive_1 := P) (motive_2 := fun us => ∀ u ∈ us, P u) ?_ ?_ ?_ t
 ·intro v f us ih; exact h _ ih
 ·intro u hu; cases hu
 ·intro t ts h1 h2 u hu
  cases hu with
  | head => exact h1
  | tail _ hu => exact h2 u hu
def Tm.size : Tm → Nat
 | .mk _ _ us => 1 + sizes us
where sizes : List Tm → Nat
 | [] => 0
 | t :: ts => t.size + sizes ts
theorem getD_at {α : Type} {l : List α} {i : Nat} (h : i < l.length) (d : α) : l.getD i d = l[i] := by
 rw [List.getD_eq_getElem?_getD, List.getElem?_eq_getElem h]; rfl
mutual
def count : Tm → Int → Int
 | .mk _ _ us, most => countL us 1 most
def countL : List Tm → Int → Int → Int
 | [], n, _ => n
 | x :: xs, n, most => if n > most then n else countL xs (n + count x (most - n)) most
end
theorem count_eq (t : Tm) (most : Int) : count t most = countL t.us 1 most := by cases t; rw [count]; rfl
theorem countL_stop {us : List Tm} {n most : Int} (h : n > most) : countL us n most = n := by
 cases us with
 | nil => rw [countL]
 | cons x xs => rw [countL, if_pos h]
theorem countL_go {us : List Tm} {k : Nat} (hk : k < us.length) {n most : Int} (h : n ≤ most) :
  countL (us.drop k) n most = countL (us.drop (k + 1)) (n + count us[k] (most - n)) most := by
 rw [List.drop_eq_getElem_cons hk, countL, if_neg (by omega)]
theorem countL_end {us : List Tm} {n most : Int} : countL (us.drop us.length) n most = n := by
 rw [List.drop_length, countL]
mutual
theorem count_le : ∀ (t : Tm) (most : Int), 0 ≤ most → 1 ≤ count t most ∧ count t most ≤ most + 1
 | .mk v f us, most, h => by unfold count; exact countL_le us 1 most (by omega) (by omega)
theorem countL_le : ∀ (ts : List Tm) (n most : Int), 1 ≤ n → n ≤ most + 1 → 1 ≤ countL ts n most ∧ countL ts n most ≤ most + 1
 | [], n, most, h1, h2 => by unfold countL; omega
 | x :: xs, n, most, h1, h2 => by
  unfold countL
  split
  ·omega
  ·have := count_le x (most - n) (by omega)
   exact countL_le xs _ most (by omega) (by omega)
end
def formOne (g : List Int) (v f : Int) (n : Nat) : Int :=
 if v ≠ 0 then
  if v < 1 ∨ v > 1000 then 3
  else if n > 0 ∨ f ≠ 0 then 1
  else 0
 else if f < 0 ∨ f ≥ g.length then 5
 else if (n : Int) ≠ g.getD f.toNat 0 then 1
 else 0
mutual
def form (g : List Int) : Tm → Int
 | .mk v f us => if formL g us ≠ 0 then formL g us else formOne g v f us.length
def formL (g : List Int) : List Tm → Int
 | [] => 0
 | x :: xs => if form g x ≠ 0 then form g x else formL g xs
end
theorem form_eq (g : List Int) (t : Tm) : form g t = if formL g t.us ≠ 0 then formL g t.us else formOne g t.v t.f t.us.length := by
 cases t; rw [form]; rfl
def own (g : List Int) (t : Tm) : Int := if count t 120 > 120 then 2 else form g t
def sigOk (g : List Int) : Int := if g.length > 12 then 2 else if g.any (fun n => n < 0 || n > 3) then 3 else 0
def ownL (g : List Int) : List Tm → Int
 | [] => 0
 | x :: xs => if own g x ≠ 0 then own g x else ownL g xs
mutual
def same : Tm → Tm → Bool
 | .mk v f us, .mk v' f' us' => v == v' && f == f' && sameL us us'
def sameL : List Tm → List Tm → Bool
 | [], [] => true
 | x :: xs, y :: ys => same x y && sameL xs ys
 | _, _ => false
end
theorem same_eq (t u : Tm) : same t u = (t.v == u.v && t.f == u.f && sameL t.us u.us) := by cases t; cases u; rw [same]; rfl
mutual
theorem same_iff : ∀ a b : Tm, same a b = true ↔ a = b
 | .mk v f us, .mk v' f' us' => by
  rw [same, Bool.and_eq_true, Bool.and_eq_true, beq_iff_eq, beq_iff_eq, sameL_iff us us']
  constructor
  ·rintro ⟨⟨rfl, rfl⟩, rfl⟩; rfl
  ·intro h; cases h; exact ⟨⟨rfl, rfl⟩, rfl⟩
theorem sameL_iff : ∀ a b : List Tm, sameL a b = true ↔ a = b
 | [], [] => by simp [sameL]
 | [], _ :: _ => by simp [sameL]
 | _ :: _, [] => by simp [sameL]
 | x :: xs, y :: ys => by
  rw [sameL, Bool.and_eq_true, same_iff x y, sameL_iff xs ys]
  constructor
  ·rintro ⟨rfl, rfl⟩; rfl
  ·intro h; cases h; exact ⟨rfl, rfl⟩
end
def formAll (g : List Int) : List Tm → Int
 | [] => 0
 | x :: xs => if formOne g x.v x.f x.us.length ≠ 0 then formOne g x.v x.f x.us.length else formAll g xs
theorem formAll_append (g : List Int) (a b : List Tm) : formAll g (a ++ b) = if formAll g a ≠ 0 then formAll g a else formAll g b := by
 induction a with
 | nil => simp [formAll]
 | cons x xs ih =>
  simp only [List.cons_append, formAll, ih]
  by_cases h : formOne g x.v x.f x.us.length ≠ 0
  ·simp [h]
  ·simp only [ne_eq, Decidable.not_not] at h; simp [h]
theorem same_rfl (t : Tm) : same t t = true := (same_iff t t).2 rfl
theorem sameL_take {a b : List Tm} {i : Nat} (hi : i < a.length) (hi' : i < b.length) (h : sameL (a.take i) (b.take i) = true) (hs : same a[i] b[i] = true) : sameL (a.take (i + 1)) (b.take (i + 1)) = true := by
 rw [sameL_iff] at h ⊢
 rw [same_iff] at hs
 rw [List.take_succ_eq_append_getElem hi, List.take_succ_eq_append_getElem hi', h, hs]
theorem sameL_not {a b : List Tm} {i : Nat} (hi : i < a.length) (hi' : i < b.length) (hs : same a[i] b[i] = false) : sameL a b = false := by
 rw [← Bool.not_eq_true, sameL_iff]
 rintro rfl
 rw [same_rfl] at hs
 cases hs
theorem sameL_len {a b : List Tm} (h : a.length ≠ b.length) : sameL a b = false := by
 rw [← Bool.not_eq_true, sameL_iff]
 rintro rfl
 exact h rfl
mutual
def parts : Tm → List Tm
 | .mk v f us => partsL us ++ [.mk v f us]
def partsL : List Tm → List Tm
 | [] => []
 | x :: xs => parts x ++ partsL xs
end
theorem parts_eq (t : Tm) : parts t = partsL t.us ++ [t] := by cases t; rw [parts]; rfl
theorem partsL_append (a b : List Tm) : partsL (a ++ b) = partsL a ++ partsL b := by
 induction a with
 | nil => simp [partsL]
 | cons x xs ih => simp [partsL, ih]
theorem partsL_take {us : List Tm} {k : Nat} (hk : k < us.length) : partsL (us.take (k + 1)) = partsL (us.take k) ++ parts us[k] := by
 rw [List.take_succ_eq_append_getElem hk, partsL_append]; simp [partsL]
theorem partsL_le {us : List Tm} (k : Nat) : (partsL (us.take k)).length ≤ (partsL us).length := by
 rw [← List.take_append_drop k us, partsL_append]
 rw [List.take_append_drop, List.length_append]; omega
theorem partsL_at {us : List Tm} {k : Nat} (hk : k < us.length) : (partsL (us.take k)).length + (parts us[k]).length ≤ (partsL us).length := by
 have := partsL_le (us := us) (k + 1)
 rw [partsL_take hk, List.length_append] at this
 exact this
mutual
theorem formAll_parts (g : List Int) : ∀ t : Tm, formAll g (parts t) = form g t
 | .mk v f us => by
  rw [parts, formAll_append, formAll_partsL g us, form]
  simp only [formAll, Tm.v, Tm.f, Tm.us]
  by_cases h : formL g us ≠ 0
  ·simp [h]
  ·simp only [ne_eq, Decidable.not_not] at h
   simp only [h, ne_eq, not_true, if_false]
   by_cases h2 : formOne g v f us.length = 0 <;> simp [h2]
theorem formAll_partsL (g : List Int) : ∀ us : List Tm, formAll g (partsL us) = formL g us
 | [] => rfl
 | x :: xs => by
  rw [partsL, formAll_append, formAll_parts g x, formAll_partsL g xs, formL]
end
mutual
theorem count_parts : ∀ (t : Tm) (most : Int), 0 ≤ most → count t most ≤ most → ((parts t).length : Int) = count t most
 | .mk v f us, most, h, h2 => by
  rw [parts, List.length_append]
  rw [count] at h2 ⊢
  have := countL_parts us 1 most (by omega) h2
  simp
  omega
theorem countL_parts : ∀ (us : List Tm) (n most : Int), 0 ≤ n → countL us n most ≤ most → n + (partsL us).length = countL us n most
 | [], n, most, h0, h => by simp [partsL, countL]
 | x :: xs, n, most, h0, h => by
  rw [countL] at h ⊢
  by_cases hn : n > most
  ·rw [if_pos hn] at h; omega
  ·rw [if_neg hn] at h ⊢
   have h1 := count_le x (most - n) (by omega)
   rw [partsL, List.length_append]
   by_cases hx : count x (most - n) ≤ most - n
   ·have := count_parts x (most - n) (by omega) hx
    have := countL_parts xs (n + count x (most - n)) most (by omega) h
    simp
    omega
   ·rw [countL_stop (by omega)] at h
    omega
end
mutual
def pn : Tm → Nat → List (Tm × List Int)
 | .mk v f us, n => pnL us n ++ [(.mk v f us, idxs us n)]
def pnL : List Tm → Nat → List (Tm × List Int)
 | [], _ => []
 | x :: xs, n => pn x n ++ pnL xs (n + (parts x).length)
def idxs : List Tm → Nat → List Int
 | [], _ => []
 | x :: xs, n => ((n : Int) + (parts x).length - 1) :: idxs xs (n + (parts x).length)
end
theorem pn_eq (t : Tm) (n : Nat) : pn t n = pnL t.us n ++ [(t, idxs t.us n)] := by cases t; rw [pn]; rfl
mutual
theorem pn_fst : ∀ (t : Tm) (n : Nat), (pn t n).map (·.1) = parts t
 | .mk v f us, n => by rw [pn, List.map_append, pnL_fst us n, parts]; rfl
theorem pnL_fst : ∀ (us : List Tm) (n : Nat), (pnL us n).map (·.1) = partsL us
 | [], _ => rfl
 | x :: xs, n => by rw [pnL, List.map_append, pn_fst x n, pnL_fst xs, partsL]
end
theorem pn_len (t : Tm) (n : Nat) : (pn t n).length = (parts t).length := by rw [← pn_fst t n, List.length_map]
theorem pnL_len (us : List Tm) (n : Nat) : (pnL us n).length = (partsL us).length := by rw [← pnL_fst us n, List.length_map]
theorem pnL_append (a b : List Tm) (n : Nat) : pnL (a ++ b) n = pnL a n ++ pnL b (n + (partsL a).length) := by
 induction a generalizing n with
 | nil => simp [pnL, partsL]
 | cons x xs ih => simp [pnL, partsL, ih, Nat.add_assoc]
theorem idxs_append (a b : List Tm) (n : Nat) : idxs (a ++ b) n = idxs a n ++ idxs b (n + (partsL a).length) := by
 induction a generalizing n with
 | nil => simp [idxs, partsL]
 | cons x xs ih => simp [idxs, partsL, ih, Nat.add_assoc]
theorem idxs_len (us : List Tm) (n : Nat) : (idxs us n).length = us.length := by
 induction us generalizing n with
 | nil => rfl
 | cons x xs ih => simp [idxs, ih]
theorem pnL_take {us : List Tm} {k : Nat} (hk : k < us.length) (n : Nat) : pnL (us.take (k + 1)) n = pnL (us.take k) n ++ pn us[k] (n + (pnL (us.take k) n).length) := by
 rw [List.take_succ_eq_append_getElem hk, pnL_append, pnL_len]; simp [pnL]
theorem idxs_take {us : List Tm} {k : Nat} (hk : k < us.length) (n : Nat) : idxs (us.take (k + 1)) n = idxs (us.take k) n ++ [((n + (pnL (us.take (k + 1)) n).length : Nat) : Int) - 1] := by
 rw [pnL_len, partsL_take hk, List.length_append, List.take_succ_eq_append_getElem hk, idxs_append]
 simp [idxs]
 omega
end Go.Proofs.YtmeekpinkfpnhabGreat
namespace Go.Proofs.YtmeekpinkfpnhabGreat
open Go.RowKit
abbrev iD (n : Int) : DV := .v (.int .i64 n)
abbrev bD (b : Bool) : DV := .v (.bool b)
abbrev iA (n : Int) : AV := .d (.v (.int .i64 n))
abbrev bA (b : Bool) : AV := .d (.v (.bool b))
theorem Tm.size_eq (t : Tm) : t.size = 1 + Tm.size.sizes t.us := by cases t; rfl
theorem Tm.sizes_at : ∀ (ts : List Tm) (i : Nat) (h : i < ts.length), ts[i].size ≤ Tm.size.sizes ts
 | t :: ts, 0, _ => by simp only [Tm.size.sizes, List.getElem_cons_zero]; omega
 | t :: ts, i + 1, h => by simp only [Tm.size.sizes, List.getElem_cons_succ]; have := Tm.sizes_at ts i (by simpa using h); omega
theorem Tm.sizes_len : ∀ (ts : List Tm), ts.length ≤ Tm.size.sizes ts
 | [] => Nat.le_refl _
 | t :: ts => by simp only [Tm.size.sizes, List.length_cons]; have := Tm.sizes_len ts; have := t.size_eq; omega
theorem Tm.size_at {t : Tm} {i : Nat} (h : i < t.us.length) : t.us[i].size < t.size := by have := Tm.sizes_at t.us i h; rw [t.size_eq]; omega
theorem Tm.len_lt (t : Tm) : t.us.length < t.size := by have := Tm.sizes_len t.us; rw [t.size_eq]; omega
def tmDV (t : Tm) : DV := .st [.v (.int .i64 t.v), .v (.int .i64 t.f), .sl (t.us.attach.map fun u => tmDV u.1)]
termination_by t.size
decreasing_by
 obtain ⟨i, hi, e⟩ := List.mem_iff_getElem.1 u.2
 rw [← e]; exact Tm.size_at hi
theorem tmDV_eq (t : Tm) : tmDV t = .st [.v (.int .i64 t.v), .v (.int .i64 t.f), .sl (t.us.map tmDV)] := by
 rw [tmDV]
 simp only [List.map_subtype, List.unattach_attach]
@[go_sem] theorem tmDV_cells (t : Tm) : (tmDV t).cells = [.v (.int .i64 t.v), .v (.int .i64 t.f), .sl (t.us.map tmDV)] := by rw [tmDV_eq]; rfl
@[go_sem] theorem tmDV_fold (t : Tm) : DV.st [.v (.int .i64 t.v), .v (.int .i64 t.f), .sl (t.us.map tmDV)] = tmDV t := (tmDV_eq t).symm
theorem nth_map {α : Type} (g : α → DV) {l : List α} {k : Nat} (hk : k < l.length) (d : DV) : (l.map g).getD k d = g l[k] := by
 rw [List.getD_eq_getElem?_getD, List.getElem?_map, List.getElem?_eq_getElem hk]; rfl
@[go_sem] theorem allD_nil : allD [] = some [] := rfl
@[go_sem] theorem allD_d (x : DV) (l : List AV) : allD (.d x :: l) = (allD l).map (x :: ·) := by
 rw [allD]; cases allD l <;> rfl
@[go_sem] theorem allD_n (l : List AV) : allD (.nil :: l) = (allD l).map (.sl [] :: ·) := by
 rw [allD]; cases allD l <;> rfl
@[go_sem] theorem allD_own (n : Nm) (xs : List DV) (l : List AV) : allD (.own n xs :: l) = (allD l).map (.sl xs :: ·) := by
 rw [allD]; cases allD l <;> rfl
@[go_sem] theorem map_append' {α β : Type} (f : α → β) (l r : List α) : l.map f ++ r.map f = (l ++ r).map f := List.map_append.symm
def ownEff (e : TypeId) (n : Nm) (xs ys : List DV) : Eff := ⟨.own n ys, [(n, some (.perm e xs.length))], [(n, some (.perm e ys.length))]⟩
def newEff (e : TypeId) (n' : Nm) (ys : List DV) : Eff := ⟨.own n' ys, [(n', none)], [(n', some (.perm e ys.length))]⟩
theorem ret_own {P : Program} {fn : Func} {n : Nm} {e : TypeId} {xs ys : List DV} {h0 : Heap} {k : Nat} {s : St} (h1 : resOkL P fn.ntmps s fn.results.toList) (h2 : resA P s fn.results.toList = .own n ys) (hn : n.1 < k)
  (hp : s.h n = some (.perm e ys.length)) (hfr : ∀ x : Nm, x.1 < k → x ≠ n → s.h x = h0 x) : RetOK P fn (ownEff e n xs ys) h0 k s := by
 refine ⟨h1, none, ?_, fun x hx _ => ?_, fun y hy => (by cases hy), ?_⟩
 ·rw [h2]; exact .refl fun m hm => by simp [ownEff, AV.names] at hm; subst hm; exact hn
 ·by_cases hx2 : x = n
  ·subst hx2; simp [ownEff, Eff.ap, upd, hp]
  ·simp [ownEff, Eff.ap, upd, hx2, hfr x hx hx2]
 ·intro x hx ob ho y hy
  simp only [ownEff, List.mem_cons, List.not_mem_nil, or_false] at hx
  subst hx
  cases ho; cases hy
theorem ret_new {P : Program} {fn : Func} {n' q : Nm} {e : TypeId} {ys : List DV} {h0 : Heap} {k : Nat} {s : St} (h1 : resOkL P fn.ntmps s fn.results.toList) (h2 : resA P s fn.results.toList = .own q ys) (hq : k ≤ q.1) (hn' : n'.1 < k) (h0' : h0 n' = none)
  (hp : s.h q = some (.perm e ys.length)) (hfr : Fr k h0 s.h) : RetOK P fn (newEff e n' ys) h0 k s := by
 have e1 : (newEff e n' ys).ap h0 n' = some (.perm e ys.length) := by simp [newEff, Eff.ap, upd]
 refine ⟨h1, some (n', q), ?_, fun x hx hxn => ?_, ?_, ?_⟩
 ·rw [h2]; exact .own rfl
 ·have hxn := hxn _ rfl
  simp only at hxn
  simp [newEff, Eff.ap, upd, hxn, hfr x hx]
 ·rintro y hy
  cases hy
  exact ⟨hn', hq, h0', ⟨_, by simp only [newEff]; exact List.mem_cons_self .., rfl⟩, _, e1, hp, rfl⟩
 ·intro x hx ob ho y hy
  simp only [newEff, List.mem_cons, List.not_mem_nil, or_false] at hx
  subst hx
  cases ho; cases hy
theorem HRel.hide {P : Program} {w0 w : World} {h h' : Heap} {k : Nat} {m : Mem} {β : Bl} {n : Nm} (H : HRel P w0 h' k m β w) (hh : ∀ x, x ≠ n → h' x = h x) (hn : h n = none) (hnm : ∀ x ob, h x = some ob → n ∉ ob.names) : HRel P w0 h k m (fun x => if x = n then none else β x) w := by
 have hne : ∀ x ob, h x = some ob → x ≠ n := fun x ob ho e => by subst e; rw [hn] at ho; cases ho
 have hb : ∀ x p, (if x = n then none else β x) = some p → x ≠ n ∧ β x = some p := fun x p hx => by
  split at hx
  ·cases hx
  ·exact ⟨by assumption, hx⟩
 refine ⟨H.ext, H.mem, fun x p hx => H.dom x p (hb x p hx).2, fun x p ob hx ho hr => ?_, fun x ob ho => ?_, fun x y p q ob ob' h1 h2 h3 h4 h5 h6 => ?_⟩
 ·obtain ⟨h1, h2⟩ := hb x p hx
  exact H.new x p ob h2 ((hh x h1).trans ho) hr
 ·obtain ⟨p, hp, hob⟩ := H.obj x ob ((hh x (hne x ob ho)).trans ho)
  refine ⟨p, by show (if x = n then none else β x) = _; rw [if_neg (hne x ob ho)]; exact hp, ?_⟩
  have hnn := hnm x ob ho
  cases ob with
  | cells ty cs =>
   obtain ⟨hv, c, c1, c2, c3, c4⟩ := hob
   refine ⟨hv, c, c1, c2, fun i u a hi ha => ⟨(c3 i u a hi ha).1, (c3 i u a hi ha).2.names fun y hy => ?_⟩, c4⟩
   have : y ≠ n := fun e => hnn (by subst e; exact names_mem ha hy)
   show (if y = n then none else β y) = _
   rw [if_neg this]
  | perm ty len => exact hob
  | map es => exact hob
  | iter src n' seen =>
   obtain ⟨h1, q, sn, h2, h3⟩ := hob
   have : src ≠ n := fun e => hnn (by subst e; simp [Ob.names])
   exact ⟨h1, q, sn, by show (if src = n then none else β src) = _; rw [if_neg this]; exact h2, h3⟩
  | bag es0 => exact hob
  | raw b o => exact hob
  | loop l st fn ps assign body d ts =>
   obtain ⟨hv, h1, tmps, h2, h3, h4⟩ := hob
   refine ⟨hv, h1, tmps, h2, h3, fun i u a hi ha => (h4 i u a hi ha).names fun y hy => ?_⟩
   have : y ≠ n := fun e => hnn (by subst e; exact names_mem ha hy)
   show (if y = n then none else β y) = _
   rw [if_neg this]
  | gro e len cs =>
   obtain ⟨hver, hob⟩ := hob
   refine ⟨hver, ?_⟩
   rcases hob with h | ⟨c, c1, c2, c3, c4, c5, c6, c7⟩
   ·exact .inl h
   ·refine .inr ⟨c, c1, c2, c3, c4, c5, fun i v a hi ha => ⟨(c6 i v a hi ha).1, (c6 i v a hi ha).2.names fun y hy => ?_⟩, c7⟩
    have : y ≠ n := fun e => hnn (by subst e; exact names_mem ha hy)
    show (if y = n then none else β y) = _
    rw [if_neg this]
 ·exact H.inj x y p q ob ob' ((hh x (hne x ob h1)).trans h1) ((hh y (hne y ob' h2)).trans h2) (hb x p h3).2 (hb y q h4).2 h5 h6
theorem HRel.obk {P : Program} {w0 w : World} {h : Heap} {k : Nat} {m : Mem} {β : Bl} (H : HRel P w0 h k m β w) {n : Nm} {ob : Ob} (hn : h n = some ob) : ∀ y ∈ ob.names, ∃ p, β y = some p := by
 obtain ⟨q, hq, hob⟩ := H.obj n ob hn
 cases ob with
 | cells ty cs =>
  obtain ⟨_, c, c1, c2, c3, c4⟩ := hob
  intro y hy
  obtain ⟨i, a, hi, ha⟩ := mem_names hy
  have hlt := (List.getElem?_eq_some_iff.1 hi).1
  exact (c3 i _ a (Array.getElem?_eq_getElem (by omega)) hi).2.known y ha
 | iter src n' seen =>
  obtain ⟨_, q, sn, h2, _⟩ := hob
  intro y hy
  simp [Ob.names] at hy; subst hy
  exact ⟨q, h2⟩
 | gro e len cs =>
  intro y hy
  obtain ⟨i, a, hi, ha⟩ := mem_names hy
  have hlt := (List.getElem?_eq_some_iff.1 hi).1
  rcases hob.2 with ⟨_, _, h3⟩ | ⟨c, c1, c2, c3, c4, c5, c6, c7⟩
  ·subst h3; cases hi
  ·have hm : len * szT P e ≤ q.2 * szT P e := Nat.mul_le_mul_right _ c3
   exact (c6 i _ a (Array.getElem?_eq_getElem (by omega)) hi).2.known y ha
 | loop l st fn ps assign body d ts =>
  intro y hy
  obtain ⟨_, _, tmps, _, h3, h4⟩ := hob
  obtain ⟨i, a, hi, ha⟩ := mem_names hy
  have hlt := (List.getElem?_eq_some_iff.1 hi).1
  exact (h4 i _ a (Array.getElem?_eq_getElem (by omega)) hi).known y ha
 | _ => intro y hy; simp [Ob.names] at hy
theorem Tri.data {P : Program} {f : FuncId} {args : List AV} {e : TypeId} {ys : List DV} (h : ∀ n', Tri P f args (newEff e n' ys)) : Tri P f args (pure' (.d (.sl ys))) := by
 intro w0 hh k m β w cargs H _ _ hsz hargs
 have hb : β (k, 0) = none := by
  cases hb : β (k, 0) with
  | none => rfl
  | some p => have := H.dom _ _ hb; simp at this
 have hn : hh (k, 0) = none := by
  cases hn : hh (k, 0) with
  | none => rfl
  | some ob => obtain ⟨p, hp, _⟩ := H.obj _ _ hn; rw [hb] at hp; cases hp
 refine (h (k, 0) w0 hh (k + 1) m β w cargs (H.tick (Nat.le_succ _)) (fun x hx => ?_) (fun x hx => ?_) hsz hargs).mono ?_
 ·simp only [newEff, List.mem_cons, List.not_mem_nil, or_false] at hx; subst hx; exact hn
 ·simp only [newEff, List.mem_cons, List.not_mem_nil, or_false] at hx; subst hx; exact ⟨Nat.lt_succ_self _, fun _ => hb⟩
 rintro en w' ⟨v, m', β', rfl, g1, g2, g3, g4, g5⟩
 have g3 : ∀ n, n ≠ (k, 0) → β n = none → β' n = none := fun n hne => g3 n fun x hx => by
  simp only [newEff, List.mem_cons, List.not_mem_nil, or_false] at hx; subst hx; exact Ne.symm hne
 have hap : ∀ n, n ≠ (k, 0) → (newEff e (k, 0) ys).ap hh n = hh n := fun n hne => by simp [newEff, Eff.ap, upd, hne]
 have H' := g4.hide hap hn fun x ob ho hx => by
  obtain ⟨p, hp⟩ := H.obk ho _ hx
  rw [hb] at hp; cases hp
 refine ⟨v, m', _, rfl, g1, fun n p hp => ?_, fun n _ h0 => ?_, ⟨H'.ext, H'.mem, fun n p hn => ?_, H'.new, H'.obj, H'.inj⟩, ?_⟩
 ·obtain ⟨p', q1, q2⟩ := g2 n p hp
  refine ⟨p', ?_, q2⟩
  show (if n = (k, 0) then none else β' n) = _
  rw [if_neg (fun e => by subst e; rw [hb] at hp; cases hp)]; exact q1
 ·show (if n = (k, 0) then none else β' n) = _
  split
  ·rfl
  ·rename_i hne; exact g3 n hne h0
 ·have hne : n ≠ (k, 0) := fun e => by subst e; simp at hn
  have hn : β' n = some p := by simpa [hne] using hn
  cases h0 : β n with
  | none => rw [g3 n hne h0] at hn; cases hn
  | some q => exact H.dom n q h0
 ·simp only [newEff] at g5
  cases g5 with
  | own hd _ _ _ _ => exact .d hd
def codeAt : List Bool → Code → Option Code
 | [], c => some c
 | false :: p, .seq a _ => codeAt p a
 | true :: p, .seq _ b => codeAt p b
 | false :: p, .cond _ a _ => codeAt p a
 | true :: p, .cond _ _ b => codeAt p b
 | _ :: p, .block _ a => codeAt p a
 | _ :: p, .loop a => codeAt p a
 | _, _ => none
def bodyAt (f : Func) (p : List Bool) : Option Code := f.body.bind (codeAt p)
end Go.Proofs.YtmeekpinkfpnhabGreat
