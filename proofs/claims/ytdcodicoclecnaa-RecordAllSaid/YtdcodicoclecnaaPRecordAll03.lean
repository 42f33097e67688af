/- Texts of the law RecordAll, part 3. No conditions. -/
import Derived.Test.YtdcodicoclecnaaPRecordAll02
import Derived.Test.YtdcodicoclecnaaRows
set_option linter.unusedSimpArgs false
set_option linter.unusedVariables false
/- The functions' bodies, translated. Written by a program; no conditions. -/
namespace Go.Proofs.Ytdcodicoclecnaa
open Go.RowKit Lift

def cspans_within : ACode :=
 (.seq
 (.region false [⟨some 6, .mv (.const (.bool false)), none, []⟩] [])
 (.seq
 (.region false [⟨some 7, .mv (.tmp 0), none, []⟩,
 ⟨some 8, .mv (.tmp 1), none, []⟩,
 ⟨some 9, .bin .geq (.tmp 7) (.tmp 8), none, []⟩,
 ⟨some 10, .mv (.tmp 9), none, []⟩,
 ⟨some 11, .mv (.tmp 0), (some (some 10, true)), []⟩,
 ⟨some 12, .mv (.tmp 2), (some (some 10, true)), []⟩,
 ⟨some 13, .bin .leq (.tmp 11) (.tmp 12), (some (some 10, true)), []⟩,
 ⟨some 14, .pick (.tmp 10) (.tmp 13) (.const (.bool false)), none, []⟩,
 ⟨some 6, .mv (.tmp 14), none, []⟩] [7, 8, 9, 10, 11, 12, 13, 14])
 .ret))
set_option maxRecDepth 100000 in
theorem kspans_within : IsCode Try.prog 161 15 cspans_within [.tmp 6] :=
 ⟨Try.f161, _, [0, 1, 2, 6], Try.func161, rfl, by decide, rfl, by kernel_rfl, by kernel_rfl⟩
def cspans_valid : ACode :=
 (.seq
 (.region false [⟨some 1, .box (.tmp 0), none, []⟩,
 ⟨some 2, .mv (.const (.bool false)), none, []⟩] [])
 (.seq
 (.region false [⟨some 3, .fad 0 (.tmp 1), none, []⟩,
 ⟨some 4, .load1 (.tmp 3), none, []⟩,
 ⟨some 5, .fad 1 (.tmp 1), none, []⟩,
 ⟨some 6, .load1 (.tmp 5), none, []⟩,
 ⟨some 7, .call (.func 161) [(.tmp 4), (.const (.int .i64 (-1000000))), (.tmp 6)], none, []⟩,
 ⟨some 8, .mv (.tmp 7), none, []⟩,
 ⟨some 9, .fad 1 (.tmp 1), (some (some 8, true)), []⟩,
 ⟨some 10, .load1 (.tmp 9), (some (some 8, true)), []⟩,
 ⟨some 11, .bin .leq (.tmp 10) (.const (.int .i64 1000000)), (some (some 8, true)), []⟩,
 ⟨some 12, .pick (.tmp 8) (.tmp 11) (.const (.bool false)), none, []⟩,
 ⟨some 2, .mv (.tmp 12), none, []⟩] [3, 4, 5, 6, 7, 8, 9, 10, 11, 12])
 .ret))
set_option maxRecDepth 100000 in
theorem kspans_valid : IsCode Try.prog 165 13 cspans_valid [.tmp 2] :=
 ⟨Try.f165, _, [0, 1, 2], Try.func165, rfl, by decide, rfl, by kernel_rfl, by kernel_rfl⟩
def cspans_spanned_S1 : ACode :=
 (.seq
 (.region false [⟨some 1, .box (.tmp 0), none, []⟩,
 ⟨some 2, .mv (.const (.bool false)), none, []⟩] [])
 (.seq
 (.region false [⟨some 3, .loadN 2 (.tmp 1), none, []⟩,
 ⟨some 4, .call (.func 165) [(.tmp 3)], none, []⟩,
 ⟨some 5, .un .not (.tmp 4), none, []⟩,
 ⟨some 2, .mv (.tmp 5), none, []⟩] [3, 4, 5])
 .ret))
set_option maxRecDepth 100000 in
theorem kspans_spanned_S1 : IsCode Try.prog 164 6 cspans_spanned_S1 [.tmp 2] :=
 ⟨Try.f164, _, [0, 1, 2], Try.func164, rfl, by decide, rfl, by kernel_rfl, by kernel_rfl⟩
def cslices_IndexFunc_L_L_Japi_Span_Kapi_Span_J : ACode :=
 (.seq
 (.region false [⟨some 4, .mv (.const (.int .i64 0)), none, []⟩] [])
 (.seq
 (.seq
 (.region false [⟨some 6, .mv (.tmp 0), none, []⟩,
 ⟨some 7, .len_ (.tmp 6), none, []⟩,
 ⟨some 8, .mv (.const (.int .i64 0)), none, []⟩] [6])
 (.block 0
 (.loop
 (.seq
 (.region false [⟨some 9, .bin .lss (.tmp 8) (.tmp 7), none, []⟩] [])
 (.seq
 (.cond (.tmp 9)
 .skip
 (.exit 0))
 (.seq
 (.block 1
 (.seq
 (.region false [⟨some 10, .mv (.tmp 8), none, []⟩,
 ⟨some 5, .mv (.tmp 10), none, []⟩] [10])
 (.seq
 (.region false [⟨some 11, .mv (.tmp 1), none, []⟩,
 ⟨some 12, .mv (.tmp 0), none, []⟩,
 ⟨some 13, .mv (.tmp 5), none, []⟩,
 ⟨some 14, .iadS 2 (.tmp 12) (.tmp 13), none, []⟩,
 ⟨some 15, .loadN 2 (.tmp 14), none, []⟩,
 ⟨some 16, .call (.tmp 11) [(.tmp 15)], none, []⟩] [11, 12, 13, 14, 15])
 (.cond (.tmp 16)
 (.seq
 (.region false [⟨some 17, .mv (.tmp 5), none, []⟩,
 ⟨some 4, .mv (.tmp 17), none, []⟩] [17])
 .ret)
 .skip))))
 (.region false [⟨some 18, .bin .add (.tmp 8) (.const (.int .i64 1)), none, []⟩,
 ⟨some 8, .mv (.tmp 18), none, []⟩] [18])))))))
 (.seq
 (.region false [⟨some 4, .mv (.const (.int .i64 (-1))), none, []⟩] [])
 .ret)))
set_option maxRecDepth 100000 in
theorem kslices_IndexFunc_L_L_Japi_Span_Kapi_Span_J : IsCode Try.prog 158 19 cslices_IndexFunc_L_L_Japi_Span_Kapi_Span_J [.tmp 4] :=
 ⟨Try.f158, _, [16, 9, 0, 8, 7, 1, 5, 4], Try.func158, rfl, by decide, rfl, by kernel_rfl, by kernel_rfl⟩
def cslices_ContainsFunc_L_L_Japi_Span_Kapi_Span_J : ACode :=
 (.seq
 (.region false [⟨some 4, .mv (.const (.bool false)), none, []⟩] [])
 (.seq
 (.region false [⟨some 5, .mv (.tmp 0), none, []⟩,
 ⟨some 6, .mv (.tmp 1), none, []⟩,
 ⟨some 7, .call (.func 158) [(.tmp 5), (.tmp 6)], none, []⟩,
 ⟨some 8, .bin .geq (.tmp 7) (.const (.int .i64 0)), none, []⟩,
 ⟨some 4, .mv (.tmp 8), none, []⟩] [5, 6, 7, 8])
 .ret))
set_option maxRecDepth 100000 in
theorem kslices_ContainsFunc_L_L_Japi_Span_Kapi_Span_J : IsCode Try.prog 146 9 cslices_ContainsFunc_L_L_Japi_Span_Kapi_Span_J [.tmp 4] :=
 ⟨Try.f146, _, [0, 1, 4], Try.func146, rfl, by decide, rfl, by kernel_rfl, by kernel_rfl⟩
def cspans_spanned : ACode :=
 (.seq
 (.region false [⟨some 2, .mv (.const (.int .i64 0)), none, []⟩] [])
 (.seq
 (.seq
 (.region false [⟨some 3, .mv (.tmp 0), none, []⟩,
 ⟨some 4, .call (.func 146) [(.tmp 3), (.func 164)], none, []⟩] [3])
 (.cond (.tmp 4)
 (.seq
 (.region false [⟨some 2, .mv (.const (.int .i64 10)), none, []⟩] [])
 .ret)
 .skip))
 (.seq
 (.region false [⟨some 2, .mv (.const (.int .i64 0)), none, []⟩] [])
 .ret)))
set_option maxRecDepth 100000 in
theorem kspans_spanned : IsCode Try.prog 162 5 cspans_spanned [.tmp 2] :=
 ⟨Try.f162, _, [4, 0, 2], Try.func162, rfl, by decide, rfl, by kernel_rfl, by kernel_rfl⟩
def cspans_Check : ACode :=
 (.seq
 (.region false [⟨some 2, .mv (.const (.int .i64 0)), none, []⟩] [])
 (.seq
 (.seq
 (.region false [⟨some 3, .mv (.tmp 0), none, []⟩,
 ⟨some 4, .len_ (.tmp 3), none, []⟩,
 ⟨some 5, .call (.func 161) [(.tmp 4), (.const (.int .i64 1)), (.const (.int .i64 3))], none, []⟩,
 ⟨some 6, .un .not (.tmp 5), none, []⟩] [3, 4, 5])
 (.cond (.tmp 6)
 (.seq
 (.region false [⟨some 2, .mv (.const (.int .i64 10)), none, []⟩] [])
 .ret)
 .skip))
 (.seq
 (.region false [⟨some 7, .mv (.tmp 0), none, []⟩,
 ⟨some 8, .call (.func 162) [(.tmp 7)], none, []⟩,
 ⟨some 2, .mv (.tmp 8), none, []⟩] [7, 8])
 .ret)))
set_option maxRecDepth 100000 in
theorem kspans_Check : IsCode Try.prog 159 9 cspans_Check [.tmp 2] :=
 ⟨Try.f159, _, [6, 0, 2], Try.func159, rfl, by decide, rfl, by kernel_rfl, by kernel_rfl⟩
def cslices_IndexFunc_L_L_Jint_Kint_J : ACode :=
 (.seq
 (.region false [⟨some 4, .mv (.const (.int .i64 0)), none, []⟩] [])
 (.seq
 (.seq
 (.region false [⟨some 6, .mv (.tmp 0), none, []⟩,
 ⟨some 7, .len_ (.tmp 6), none, []⟩,
 ⟨some 8, .mv (.const (.int .i64 0)), none, []⟩] [6])
 (.block 0
 (.loop
 (.seq
 (.region false [⟨some 9, .bin .lss (.tmp 8) (.tmp 7), none, []⟩] [])
 (.seq
 (.cond (.tmp 9)
 .skip
 (.exit 0))
 (.seq
 (.block 1
 (.seq
 (.region false [⟨some 10, .mv (.tmp 8), none, []⟩,
 ⟨some 5, .mv (.tmp 10), none, []⟩] [10])
 (.seq
 (.region false [⟨some 11, .mv (.tmp 1), none, []⟩,
 ⟨some 12, .mv (.tmp 0), none, []⟩,
 ⟨some 13, .mv (.tmp 5), none, []⟩,
 ⟨some 14, .iadS 1 (.tmp 12) (.tmp 13), none, []⟩,
 ⟨some 15, .load1 (.tmp 14), none, []⟩,
 ⟨some 16, .call (.tmp 11) [(.tmp 15)], none, []⟩] [11, 12, 13, 14, 15])
 (.cond (.tmp 16)
 (.seq
 (.region false [⟨some 17, .mv (.tmp 5), none, []⟩,
 ⟨some 4, .mv (.tmp 17), none, []⟩] [17])
 .ret)
 .skip))))
 (.region false [⟨some 18, .bin .add (.tmp 8) (.const (.int .i64 1)), none, []⟩,
 ⟨some 8, .mv (.tmp 18), none, []⟩] [18])))))))
 (.seq
 (.region false [⟨some 4, .mv (.const (.int .i64 (-1))), none, []⟩] [])
 .ret)))
set_option maxRecDepth 100000 in
theorem kslices_IndexFunc_L_L_Jint_Kint_J : IsCode Try.prog 144 19 cslices_IndexFunc_L_L_Jint_Kint_J [.tmp 4] :=
 ⟨Try.f144, _, [16, 9, 0, 8, 7, 1, 5, 4], Try.func144, rfl, by decide, rfl, by kernel_rfl, by kernel_rfl⟩
def cslices_ContainsFunc_L_L_Jint_Kint_J : ACode :=
 (.seq
 (.region false [⟨some 4, .mv (.const (.bool false)), none, []⟩] [])
 (.seq
 (.region false [⟨some 5, .mv (.tmp 0), none, []⟩,
 ⟨some 6, .mv (.tmp 1), none, []⟩,
 ⟨some 7, .call (.func 144) [(.tmp 5), (.tmp 6)], none, []⟩,
 ⟨some 8, .bin .geq (.tmp 7) (.const (.int .i64 0)), none, []⟩,
 ⟨some 4, .mv (.tmp 8), none, []⟩] [5, 6, 7, 8])
 .ret))
set_option maxRecDepth 100000 in
theorem kslices_ContainsFunc_L_L_Jint_Kint_J : IsCode Try.prog 110 9 cslices_ContainsFunc_L_L_Jint_Kint_J [.tmp 4] :=
 ⟨Try.f110, _, [0, 1, 4], Try.func110, rfl, by decide, rfl, by kernel_rfl, by kernel_rfl⟩
end Go.Proofs.Ytdcodicoclecnaa
/- The functions' bodies, translated. Written by a program; no conditions. -/
namespace Go.Proofs.Ytdcodicoclecnaa
open Go.RowKit Lift

def crecord_within : ACode :=
 (.seq
 (.region false [⟨some 6, .mv (.const (.bool false)), none, []⟩] [])
 (.seq
 (.region false [⟨some 7, .mv (.tmp 0), none, []⟩,
 ⟨some 8, .mv (.tmp 1), none, []⟩,
 ⟨some 9, .bin .geq (.tmp 7) (.tmp 8), none, []⟩,
 ⟨some 10, .mv (.tmp 9), none, []⟩,
 ⟨some 11, .mv (.tmp 0), (some (some 10, true)), []⟩,
 ⟨some 12, .mv (.tmp 2), (some (some 10, true)), []⟩,
 ⟨some 13, .bin .leq (.tmp 11) (.tmp 12), (some (some 10, true)), []⟩,
 ⟨some 14, .pick (.tmp 10) (.tmp 13) (.const (.bool false)), none, []⟩,
 ⟨some 6, .mv (.tmp 14), none, []⟩] [7, 8, 9, 10, 11, 12, 13, 14])
 .ret))
set_option maxRecDepth 100000 in
theorem krecord_within : IsCode Try.prog 74 15 crecord_within [.tmp 6] :=
 ⟨Try.f74, _, [0, 1, 2, 6], Try.func74, rfl, by decide, rfl, by kernel_rfl, by kernel_rfl⟩
def cref12_from : ACode :=
 (.seq
 (.region false [⟨some 6, .mv (.const (.bool false)), none, []⟩] [])
 (.seq
 (.region false [⟨some 7, .mv (.tmp 0), none, []⟩,
 ⟨some 8, .mv (.tmp 1), none, []⟩,
 ⟨some 9, .bin .geq (.tmp 7) (.tmp 8), none, []⟩,
 ⟨some 10, .mv (.tmp 9), none, []⟩,
 ⟨some 11, .mv (.tmp 0), (some (some 10, true)), []⟩,
 ⟨some 12, .mv (.tmp 2), (some (some 10, true)), []⟩,
 ⟨some 13, .bin .leq (.tmp 11) (.tmp 12), (some (some 10, true)), []⟩,
 ⟨some 14, .pick (.tmp 10) (.tmp 13) (.const (.bool false)), none, []⟩,
 ⟨some 6, .mv (.tmp 14), none, []⟩] [7, 8, 9, 10, 11, 12, 13, 14])
 .ret))
set_option maxRecDepth 100000 in
theorem kref12_from : IsCode Try.prog 79 15 cref12_from [.tmp 6] :=
 ⟨Try.f79, _, [0, 1, 2, 6], Try.func79, rfl, by decide, rfl, by kernel_rfl, by kernel_rfl⟩
def crecord_bits_in : ACode :=
 (.seq
 (.region false [⟨some 2, .box (.tmp 0), none, []⟩,
 ⟨some 4, .mv (.const (.bool false)), none, []⟩] [])
 (.seq
 (.region true [⟨some 5, .mv (.tmp 1), none, []⟩,
 ⟨some 6, .fad 0 (.tmp 2), none, []⟩,
 ⟨some 7, .fad 7 (.tmp 6), none, [1]⟩,
 ⟨some 8, .load1 (.tmp 7), none, [2, 1]⟩,
 ⟨some 9, .bin .rem (.tmp 5) (.tmp 8), none, [0, 3, 2, 1]⟩,
 ⟨some 10, .fad 0 (.tmp 2), none, []⟩,
 ⟨some 11, .fad 8 (.tmp 10), none, [5]⟩,
 ⟨some 12, .load1 (.tmp 11), none, [6, 5]⟩,
 ⟨some 13, .bin .eql (.tmp 9) (.tmp 12), none, [4, 0, 3, 2, 1, 7, 6, 5]⟩,
 ⟨some 4, .mv (.tmp 13), none, [8, 4, 0, 3, 2, 1, 7, 6, 5]⟩] [5, 6, 7, 8, 9, 10, 11, 12, 13])
 .ret))
set_option maxRecDepth 100000 in
theorem krecord_bits_in : IsCode Try.prog 77 14 crecord_bits_in [.tmp 4] :=
 ⟨Try.f77, _, [0, 1, 2, 4], Try.func77, rfl, by decide, rfl, by kernel_rfl, by kernel_rfl⟩
def crecord_bits_mask : ACode :=
 (.seq
 (.region false [⟨some 1, .box (.tmp 0), none, []⟩,
 ⟨some 2, .mv (.const (.int .i64 0)), none, []⟩] [])
 (.seq
 (.region true [⟨some 3, .fad 0 (.tmp 1), none, []⟩,
 ⟨some 4, .fad 2 (.tmp 3), none, [0]⟩,
 ⟨some 5, .load1 (.tmp 4), none, [1, 0]⟩,
 ⟨some 6, .bin .shl (.const (.int .i64 1)) (.tmp 5), none, [2, 1, 0]⟩,
 ⟨some 7, .bin .sub (.tmp 6) (.const (.int .i64 1)), none, [3, 2, 1, 0]⟩,
 ⟨some 8, .fad 0 (.tmp 1), none, []⟩,
 ⟨some 9, .fad 1 (.tmp 8), none, [5]⟩,
 ⟨some 10, .load1 (.tmp 9), none, [6, 5]⟩,
 ⟨some 11, .bin .shl (.tmp 7) (.tmp 10), none, [4, 3, 2, 1, 0, 7, 6, 5]⟩,
 ⟨some 2, .mv (.tmp 11), none, [8, 4, 3, 2, 1, 0, 7, 6, 5]⟩] [3, 4, 5, 6, 7, 8, 9, 10, 11])
 .ret))
set_option maxRecDepth 100000 in
theorem krecord_bits_mask : IsCode Try.prog 78 12 crecord_bits_mask [.tmp 2] :=
 ⟨Try.f78, _, [0, 1, 2], Try.func78, rfl, by decide, rfl, by kernel_rfl, by kernel_rfl⟩
def crecord_bits_raw : ACode :=
 (.seq
 (.region false [⟨some 2, .box (.tmp 0), none, []⟩,
 ⟨some 4, .mv (.const (.int .i64 0)), none, []⟩] [])
 (.seq
 (.region true [⟨some 6, .mv (.tmp 1), none, []⟩,
 ⟨some 7, .loadN 9 (.tmp 2), none, []⟩,
 ⟨some 8, .call (.func 78) [(.tmp 7)], none, [1]⟩,
 ⟨some 9, .bin .and (.tmp 6) (.tmp 8), none, [0, 2, 1]⟩,
 ⟨some 10, .fad 0 (.tmp 2), none, []⟩,
 ⟨some 11, .fad 1 (.tmp 10), none, [4]⟩,
 ⟨some 12, .load1 (.tmp 11), none, [5, 4]⟩,
 ⟨some 13, .bin .shr (.tmp 9) (.tmp 12), none, [3, 0, 2, 1, 6, 5, 4]⟩,
 ⟨some 5, .mv (.tmp 13), none, [7, 3, 0, 2, 1, 6, 5, 4]⟩] [6, 7, 8, 9, 10, 11, 12, 13])
 (.seq
 (.seq
 (.region false [⟨some 14, .fad 0 (.tmp 2), none, []⟩,
 ⟨some 15, .fad 3 (.tmp 14), none, []⟩,
 ⟨some 16, .load1 (.tmp 15), none, []⟩,
 ⟨some 17, .mv (.tmp 16), none, []⟩,
 ⟨some 18, .mv (.tmp 5), (some (some 17, true)), []⟩,
 ⟨some 19, .fad 0 (.tmp 2), (some (some 17, true)), []⟩,
 ⟨some 20, .fad 2 (.tmp 19), (some (some 17, true)), []⟩,
 ⟨some 21, .load1 (.tmp 20), (some (some 17, true)), []⟩,
 ⟨some 22, .bin .sub (.tmp 21) (.const (.int .i64 1)), (some (some 17, true)), []⟩,
 ⟨some 23, .bin .shr (.tmp 18) (.tmp 22), (some (some 17, true)), []⟩,
 ⟨some 24, .bin .eql (.tmp 23) (.const (.int .i64 1)), (some (some 17, true)), []⟩,
 ⟨some 25, .pick (.tmp 17) (.tmp 24) (.const (.bool false)), none, []⟩] [14, 15, 16, 17, 18, 19, 20, 21, 22, 23, 24])
 (.cond (.tmp 25)
 (.region false [⟨some 26, .mv (.tmp 5), none, []⟩,
 ⟨some 27, .fad 0 (.tmp 2), none, []⟩,
 ⟨some 28, .fad 2 (.tmp 27), none, []⟩,
 ⟨some 29, .load1 (.tmp 28), none, []⟩,
 ⟨some 30, .bin .shl (.const (.int .i64 1)) (.tmp 29), none, []⟩,
 ⟨some 31, .bin .sub (.tmp 26) (.tmp 30), none, []⟩,
 ⟨some 5, .mv (.tmp 31), none, []⟩] [26, 27, 28, 29, 30, 31])
 .skip))
 (.seq
 (.region false [⟨some 32, .mv (.tmp 5), none, []⟩,
 ⟨some 4, .mv (.tmp 32), none, []⟩] [32])
 .ret))))
set_option maxRecDepth 100000 in
theorem krecord_bits_raw : IsCode Try.prog 115 33 crecord_bits_raw [.tmp 4] :=
 ⟨Try.f115, _, [25, 0, 1, 2, 5, 4], Try.func115, rfl, by decide, rfl, by kernel_rfl, by kernel_rfl⟩
def crecord_bits_value : ACode :=
 (.seq
 (.region false [⟨some 2, .box (.tmp 0), none, []⟩,
 ⟨some 4, .mv (.const (.int .i64 0)), none, []⟩] [])
 (.seq
 (.region false [⟨some 5, .fad 0 (.tmp 2), none, []⟩,
 ⟨some 6, .fad 6 (.tmp 5), none, []⟩,
 ⟨some 7, .load1 (.tmp 6), none, []⟩,
 ⟨some 8, .fad 0 (.tmp 2), none, []⟩,
 ⟨some 9, .fad 5 (.tmp 8), none, []⟩,
 ⟨some 10, .load1 (.tmp 9), none, []⟩,
 ⟨some 11, .bin .mul (.tmp 7) (.tmp 10), none, []⟩,
 ⟨some 12, .mv (.tmp 1), none, []⟩,
 ⟨some 13, .fad 0 (.tmp 2), none, []⟩,
 ⟨some 14, .fad 4 (.tmp 13), none, []⟩,
 ⟨some 15, .load1 (.tmp 14), none, []⟩,
 ⟨some 16, .bin .mul (.tmp 12) (.tmp 15), none, []⟩,
 ⟨some 17, .bin .add (.tmp 11) (.tmp 16), none, []⟩,
 ⟨some 4, .mv (.tmp 17), none, []⟩] [5, 6, 7, 8, 9, 10, 11, 12, 13, 14, 15, 16, 17])
 .ret))
set_option maxRecDepth 100000 in
theorem krecord_bits_value : IsCode Try.prog 114 18 crecord_bits_value [.tmp 4] :=
 ⟨Try.f114, _, [0, 2, 1, 4], Try.func114, rfl, by decide, rfl, by kernel_rfl, by kernel_rfl⟩
def crecord_bits_valid : ACode :=
 (.seq
 (.region false [⟨some 2, .box (.tmp 0), none, []⟩,
 ⟨some 4, .mv (.const (.bool false)), none, []⟩] [])
 (.seq
 (.region false [⟨some 5, .fad 0 (.tmp 2), none, []⟩,
 ⟨some 6, .fad 0 (.tmp 5), none, []⟩,
 ⟨some 7, .load1 (.tmp 6), none, []⟩,
 ⟨some 8, .mv (.tmp 1), none, []⟩,
 ⟨some 9, .bin .sub (.tmp 8) (.const (.int .i64 1)), none, []⟩,
 ⟨some 10, .call (.func 74) [(.tmp 7), (.const (.int .i64 1)), (.tmp 9)], none, []⟩,
 ⟨some 11, .mv (.tmp 10), none, []⟩,
 ⟨some 12, .fad 0 (.tmp 2), (some (some 11, true)), []⟩,
 ⟨some 13, .fad 2 (.tmp 12), (some (some 11, true)), []⟩,
 ⟨some 14, .load1 (.tmp 13), (some (some 11, true)), []⟩,
 ⟨some 15, .bin .geq (.tmp 14) (.const (.int .i64 1)), (some (some 11, true)), []⟩,
 ⟨some 16, .pick (.tmp 11) (.tmp 15) (.const (.bool false)), none, []⟩,
 ⟨some 17, .mv (.tmp 16), none, []⟩,
 ⟨some 18, .fad 0 (.tmp 2), (some (some 17, true)), []⟩,
 ⟨some 19, .fad 1 (.tmp 18), (some (some 17, true)), []⟩,
 ⟨some 20, .load1 (.tmp 19), (some (some 17, true)), []⟩,
 ⟨some 21, .fad 0 (.tmp 2), (some (some 17, true)), []⟩,
 ⟨some 22, .fad 2 (.tmp 21), (some (some 17, true)), []⟩,
 ⟨some 23, .load1 (.tmp 22), (some (some 17, true)), []⟩,
 ⟨some 24, .bin .sub (.const (.int .i64 12)) (.tmp 23), (some (some 17, true)), []⟩,
 ⟨some 25, .call (.func 74) [(.tmp 20), (.const (.int .i64 0)), (.tmp 24)], (some (some 17, true)), []⟩,
 ⟨some 26, .pick (.tmp 17) (.tmp 25) (.const (.bool false)), none, []⟩,
 ⟨some 27, .mv (.tmp 26), none, []⟩,
 ⟨some 28, .fad 0 (.tmp 2), (some (some 27, true)), []⟩,
 ⟨some 29, .fad 4 (.tmp 28), (some (some 27, true)), []⟩,
 ⟨some 30, .load1 (.tmp 29), (some (some 27, true)), []⟩,
 ⟨some 31, .call (.func 74) [(.tmp 30), (.const (.int .i64 (-1000))), (.const (.int .i64 1000))], (some (some 27, true)), []⟩,
 ⟨some 32, .pick (.tmp 27) (.tmp 31) (.const (.bool false)), none, []⟩,
 ⟨some 33, .mv (.tmp 32), none, []⟩,
 ⟨some 34, .fad 0 (.tmp 2), (some (some 33, true)), []⟩,
 ⟨some 35, .fad 5 (.tmp 34), (some (some 33, true)), []⟩,
 ⟨some 36, .load1 (.tmp 35), (some (some 33, true)), []⟩,
 ⟨some 37, .call (.func 74) [(.tmp 36), (.const (.int .i64 1)), (.const (.int .i64 1000))], (some (some 33, true)), []⟩,
 ⟨some 38, .pick (.tmp 33) (.tmp 37) (.const (.bool false)), none, []⟩,
 ⟨some 39, .mv (.tmp 38), none, []⟩,
 ⟨some 40, .fad 0 (.tmp 2), (some (some 39, true)), []⟩,
 ⟨some 41, .fad 6 (.tmp 40), (some (some 39, true)), []⟩,
 ⟨some 42, .load1 (.tmp 41), (some (some 39, true)), []⟩,
 ⟨some 43, .call (.func 74) [(.tmp 42), (.const (.int .i64 (-1000000))), (.const (.int .i64 1000000))], (some (some 39, true)), []⟩,
 ⟨some 44, .pick (.tmp 39) (.tmp 43) (.const (.bool false)), none, []⟩,
 ⟨some 45, .mv (.tmp 44), none, []⟩,
 ⟨some 46, .buildSl 1 3 [(.val (.int .i64 0)), (.val (.int .i64 0)), (.val (.int .i64 0))] [(0, 1, (.const (.int .i64 1))), (1, 1, (.const (.int .i64 2))), (2, 1, (.const (.int .i64 4)))], (some (some 45, true)), []⟩,
 ⟨some 47, .fad 0 (.tmp 2), (some (some 45, true)), []⟩,
 ⟨some 48, .fad 7 (.tmp 47), (some (some 45, true)), []⟩,
 ⟨some 49, .load1 (.tmp 48), (some (some 45, true)), []⟩,
 ⟨some 50, .call (.func 75) [(.tmp 46), (.tmp 49)], (some (some 45, true)), []⟩,
 ⟨some 51, .pick (.tmp 45) (.tmp 50) (.const (.bool false)), none, []⟩,
 ⟨some 52, .mv (.tmp 51), none, []⟩,
 ⟨some 53, .fad 0 (.tmp 2), (some (some 52, true)), []⟩,
 ⟨some 54, .fad 8 (.tmp 53), (some (some 52, true)), []⟩,
 ⟨some 55, .load1 (.tmp 54), (some (some 52, true)), []⟩,
 ⟨some 56, .fad 0 (.tmp 2), (some (some 52, true)), []⟩,
 ⟨some 57, .fad 7 (.tmp 56), (some (some 52, true)), []⟩,
 ⟨some 58, .load1 (.tmp 57), (some (some 52, true)), []⟩,
 ⟨some 59, .bin .sub (.tmp 58) (.const (.int .i64 1)), (some (some 52, true)), []⟩,
 ⟨some 60, .call (.func 74) [(.tmp 55), (.const (.int .i64 0)), (.tmp 59)], (some (some 52, true)), []⟩,
 ⟨some 61, .pick (.tmp 52) (.tmp 60) (.const (.bool false)), none, []⟩,
 ⟨some 4, .mv (.tmp 61), none, []⟩] [5, 6, 7, 8, 9, 10, 11, 12, 13, 14, 15, 16, 17, 18, 19, 20, 21, 22, 23, 24, 25, 26, 27, 28, 29, 30, 31, 32, 33, 34, 35, 36, 37, 38, 39, 40, 41, 42, 43, 44, 45, 46, 47, 48, 49, 50, 51, 52, 53, 54, 55, 56, 57, 58, 59, 60, 61])
 .ret))
set_option maxRecDepth 100000 in
theorem krecord_bits_valid : IsCode Try.prog 76 62 crecord_bits_valid [.tmp 4] :=
 ⟨Try.f76, _, [0, 2, 1, 4], Try.func76, rfl, by decide, rfl, by kernel_rfl, by kernel_rfl⟩
def cslices_Index_L_L_Jint_Kint_J : ACode :=
 (.seq
 (.region false [⟨some 4, .mv (.const (.int .i64 0)), none, []⟩] [])
 (.seq
 (.seq
 (.region false [⟨some 6, .mv (.tmp 0), none, []⟩,
 ⟨some 7, .len_ (.tmp 6), none, []⟩,
 ⟨some 8, .mv (.const (.int .i64 0)), none, []⟩] [6])
 (.block 0
 (.loop
 (.seq
 (.region false [⟨some 9, .bin .lss (.tmp 8) (.tmp 7), none, []⟩] [])
 (.seq
 (.cond (.tmp 9)
 .skip
 (.exit 0))
 (.seq
 (.block 1
 (.seq
 (.region false [⟨some 10, .mv (.tmp 8), none, []⟩,
 ⟨some 5, .mv (.tmp 10), none, []⟩] [10])
 (.seq
 (.region false [⟨some 11, .mv (.tmp 1), none, []⟩,
 ⟨some 12, .mv (.tmp 0), none, []⟩,
 ⟨some 13, .mv (.tmp 5), none, []⟩,
 ⟨some 14, .iadS 1 (.tmp 12) (.tmp 13), none, []⟩,
 ⟨some 15, .load1 (.tmp 14), none, []⟩,
 ⟨some 16, .bin .eql (.tmp 11) (.tmp 15), none, []⟩] [11, 12, 13, 14, 15])
 (.cond (.tmp 16)
 (.seq
 (.region false [⟨some 17, .mv (.tmp 5), none, []⟩,
 ⟨some 4, .mv (.tmp 17), none, []⟩] [17])
 .ret)
 .skip))))
 (.region false [⟨some 18, .bin .add (.tmp 8) (.const (.int .i64 1)), none, []⟩,
 ⟨some 8, .mv (.tmp 18), none, []⟩] [18])))))))
 (.seq
 (.region false [⟨some 4, .mv (.const (.int .i64 (-1))), none, []⟩] [])
 .ret)))
set_option maxRecDepth 100000 in
theorem kslices_Index_L_L_Jint_Kint_J : IsCode Try.prog 117 19 cslices_Index_L_L_Jint_Kint_J [.tmp 4] :=
 ⟨Try.f117, _, [16, 9, 0, 8, 7, 1, 5, 4], Try.func117, rfl, by decide, rfl, by kernel_rfl, by kernel_rfl⟩
def cslices_Contains_L_L_Jint_Kint_J : ACode :=
 (.seq
 (.region false [⟨some 4, .mv (.const (.bool false)), none, []⟩] [])
 (.seq
 (.region false [⟨some 5, .mv (.tmp 0), none, []⟩,
 ⟨some 6, .mv (.tmp 1), none, []⟩,
 ⟨some 7, .call (.func 117) [(.tmp 5), (.tmp 6)], none, []⟩,
 ⟨some 8, .bin .geq (.tmp 7) (.const (.int .i64 0)), none, []⟩,
 ⟨some 4, .mv (.tmp 8), none, []⟩] [5, 6, 7, 8])
 .ret))
set_option maxRecDepth 100000 in
theorem kslices_Contains_L_L_Jint_Kint_J : IsCode Try.prog 75 9 cslices_Contains_L_L_Jint_Kint_J [.tmp 4] :=
 ⟨Try.f75, _, [0, 1, 4], Try.func75, rfl, by decide, rfl, by kernel_rfl, by kernel_rfl⟩
def crecord_newTape_S1 : ACode :=
 (.seq
 (.region false [⟨some 2, .mv (.const (.bool false)), none, []⟩] [])
 (.seq
 (.region false [⟨some 3, .mv (.tmp 0), none, []⟩,
 ⟨some 4, .call (.func 74) [(.tmp 3), (.const (.int .i64 0)), (.const (.int .i64 4095))], none, []⟩,
 ⟨some 5, .un .not (.tmp 4), none, []⟩,
 ⟨some 2, .mv (.tmp 5), none, []⟩] [3, 4, 5])
 .ret))
set_option maxRecDepth 100000 in
theorem krecord_newTape_S1 : IsCode Try.prog 116 6 crecord_newTape_S1 [.tmp 2] :=
 ⟨Try.f116, _, [0, 2], Try.func116, rfl, by decide, rfl, by kernel_rfl, by kernel_rfl⟩
end Go.Proofs.Ytdcodicoclecnaa
/- Calls that change objects, checked by computing. No conditions. -/
namespace Go.Proofs.Ytdcodicoclecnaa.Lift
open Go Go.RowKit

theorem aw_condT {rd : Rd} {P : Program} {n : Nat} {pre : List Nat} {Q : AExit → St → Prop} {s : St} {c : Operand} {x y : ACode} (hb : s.F.ev c = .val (.bool true)) (h : AWb rd P n pre x Q s) : AWb rd P n pre (.cond c x y) Q s := aw_cond hb (fun _ => h) (fun h => nomatch h)
theorem aw_condF {rd : Rd} {P : Program} {n : Nat} {pre : List Nat} {Q : AExit → St → Prop} {s : St} {c : Operand} {x y : ACode} (hb : s.F.ev c = .val (.bool false)) (h : AWb rd P n pre y Q s) : AWb rd P n pre (.cond c x y) Q s := aw_cond hb (fun h => nomatch h) (fun _ => h)
def HasAll (hp : Hp) : Hp → Prop
  | [] => True
  | x :: l => hget hp x.1 = some x.2 ∧ HasAll hp l
theorem HasAll.get {hp : Hp} : ∀ {h : Hp}, HasAll hp h → ∀ x ∈ h, hget hp x.1 = some x.2
  | [], _, x, hx => by simp at hx
  | y :: l, h, x, hx => by
    rcases List.mem_cons.1 hx with rfl | hx
    · exact h.1
    · exact HasAll.get h.2 x hx
def newOk (hp h : Hp) (up : Ups) : Bool := up.all fun x => (h.map (·.1)).contains x.1 || (hget hp x.1).isNone
theorem newOk_get {hp h : Hp} {up : Ups} (hk : newOk hp h up = true) : ∀ g ∈ up.map (·.1), g ∉ h.map (·.1) → hget hp g = none := fun g hg hn => by
  obtain ⟨x, hx, rfl⟩ := List.mem_map.1 hg
  have := List.all_eq_true.1 hk x hx
  simp only [Bool.or_eq_true, List.contains_iff_mem, Option.isNone_iff_eq_none] at this
  exact this.resolve_left hn
section
variable {P : Program} {dr : Bool} {b : Nat} {Q : St → Prop} {dst : Option Nat} {anc : List Nat} {l : List AOper} {k : Nat} {s : St} {log : Lg}
theorem acallB {f : FuncId} {first caps args : List D} {d : D} {h : Hp} {up : Ups} (hA : AC P f (first ++ args ++ caps) h up d) (hh : HasAll s.hp h) (hf : newOk s.hp h up = true) (hn : okNew s.hp (b + 8 * k) (up.map (·.1)) = true)
    (hl : okLog dr log anc (h.map (·.1) ++ []) (up.map (·.1)) = true) (hK : ARun P dr b Q l (k + 1) (s.app dst d up) ((k, h.map (·.1) ++ [], up.map (·.1)) :: log)) : ACallK P dr b Q (.fn f first caps) args dst anc l k s log :=
  acallH hA [] (VwL.refl _) (.inl rfl) (by simp) (by simp) hh.get (newOk_get hf) hn hl hK
end
end Go.Proofs.Ytdcodicoclecnaa.Lift
/- Lists of numbers, rows and spans as abstract values. No conditions. -/
namespace Go.Proofs.Ytdcodicoclecnaa
open Go.RowKit Lift

def dI (n : Int) : D := .val (.int .i64 n)
def dB (b : Bool) : D := .val (.bool b)
def ints (l : List Int) : List (List D) := l.map fun n => [.val (.int .i64 n)]
def rows (l : List (List Int)) : List (List D) := l.map fun r => [.list (ints r)]
theorem ints_len (l : List Int) : (ints l).length = l.length := by simp [ints]
theorem rows_len (l : List (List Int)) : (rows l).length = l.length := by simp [rows]
theorem ints_all (l : List Int) : (ints l).all (fun x => x.length == 1) = true := by simp [ints]
theorem rows_all (l : List (List Int)) : (rows l).all (fun x => x.length == 1) = true := by simp [rows]
def icells (l : List Int) : List D := l.map fun n => .val (.int .i64 n)
def rcells (l : List (List Int)) : List D := l.map fun r => .list (ints r)
theorem ints_flat (l : List Int) : (ints l).flatten = icells l := by
  induction l with
  | nil => rfl
  | cons x l ih => simp [ints, icells] at ih ⊢; exact ih
theorem rows_flat (l : List (List Int)) : (rows l).flatten = rcells l := by
  induction l with
  | nil => rfl
  | cons x l ih => simp [rows, rcells] at ih ⊢; exact ih
theorem icells_leaf (l : List Int) : (icells l).all D.leaf = true := by simp [icells, D.leaf]
theorem icells_in (l : List Int) : ∀ d ∈ icells l, In (fun _ => False) d := by
  intro d hd; obtain ⟨x, _, rfl⟩ := List.mem_map.1 hd; exact .val _
theorem rcells_in (l : List (List Int)) : ∀ d ∈ rcells l, In (fun _ => False) d := by
  intro d hd; obtain ⟨x, _, rfl⟩ := List.mem_map.1 hd; exact .list _
theorem icells_len (l : List Int) : (icells l).length = l.length := by simp [icells]
theorem rcells_len (l : List (List Int)) : (rcells l).length = l.length := by simp [rcells]
theorem ints_one (l : List Int) : ∀ e ∈ ints l, e.length = 1 := by simp [ints]
theorem rows_one (l : List (List Int)) : ∀ e ∈ rows l, e.length = 1 := by simp [rows]
theorem ints_gd (l : List Int) (k : Nat) (h : k < l.length) : (ints l)[k]? = some [.val (.int .i64 (l[k]?.getD 0))] := by simp [ints, h]
theorem rows_gd (l : List (List Int)) (k : Nat) (h : k < l.length) : (rows l)[k]? = some [.list (ints (l[k]?.getD []))] := by simp [rows, h]
end Go.Proofs.Ytdcodicoclecnaa
/- Within. No conditions. -/
namespace Go.Proofs.Ytdcodicoclecnaa
open Go.RowKit Lift

def wI (n a b : Int) : Bool := decide (a ≤ n) && decide (n ≤ b)
theorem wI_t {n a b : Int} (h : wI n a b = true) : a ≤ n ∧ n ≤ b := by simpa [wI] using h
theorem wI_f {n a b : Int} (h : wI n a b = false) : n < a ∨ b < n := by simp [wI] at h; omega
end Go.Proofs.Ytdcodicoclecnaa
/- What comes behind a region, hidden while the region is walked. No conditions. -/
namespace Go.Proofs.Ytdcodicoclecnaa.Lift
open Go Go.RowKit

theorem aw_hide {rd : Rd} {P : Program} {n : Nat} {pre : List Nat} {Q : AExit → St → Prop} {s : St} {x : ACode} (h : ∀ K : AExit → St → Prop, K = Q → AWb rd P n pre x K s) : AWb rd P n pre x Q s := h Q rfl
section
variable {K : St → Prop} {Q : AExit → St → Prop} {s : St}
theorem thenQ_n (h : K s) : thenQ K Q .norm s := h
theorem thenQ_e {i : Nat} (h : Q (.ex i) s) : thenQ K Q (.ex i) s := h
theorem blockQ_n {id : Nat} (h : Q .norm s) : blockQ id Q .norm s := h
theorem blockQ_t {id : Nat} (h : Q .norm s) : blockQ id Q (.ex id) s := by simp only [blockQ, if_true]; exact h
theorem blockQ_f {id i : Nat} (hn : i ≠ id) (h : Q (.ex i) s) : blockQ id Q (.ex i) s := by simp only [blockQ]; rw [if_neg hn]; exact h
end
end Go.Proofs.Ytdcodicoclecnaa.Lift
/- Bits in numbers: and, or, shifts, masks. No conditions. -/
namespace Go.Proofs.Ytdcodicoclecnaa
open Go.RowKit Lift

theorem bv_nat (a : Nat) (h : a < 9223372036854775808) : (BitVec.ofInt IntKind.i64.bits (a : Int)).toNat = a := by
  show (BitVec.ofInt 64 (a : Int)).toNat = a
  rw [BitVec.toNat_ofInt]
  have : ((2 ^ 64 : Nat) : Int) = 18446744073709551616 := by decide
  rw [this]; omega
theorem and_nat (a b : Nat) (ha : a < 9223372036854775808) (hb : b < 9223372036854775808) : IntKind.i64.wrap ((BitVec.ofInt IntKind.i64.bits (a : Int) &&& BitVec.ofInt IntKind.i64.bits (b : Int)).toNat) = ((a &&& b : Nat) : Int) := by
  rw [BitVec.toNat_and, bv_nat a ha, bv_nat b hb]
  have : a &&& b ≤ a := Nat.and_le_left
  exact wrap_in (by omega) (by omega)
theorem or_nat (a b : Nat) (ha : a < 9223372036854775808) (hb : b < 9223372036854775808) : IntKind.i64.wrap ((BitVec.ofInt IntKind.i64.bits (a : Int) ||| BitVec.ofInt IntKind.i64.bits (b : Int)).toNat) = ((a ||| b : Nat) : Int) := by
  rw [BitVec.toNat_or, bv_nat a ha, bv_nat b hb]
  have : a ||| b < 2 ^ 63 := Nat.or_lt_two_pow (by omega) (by omega)
  exact wrap_in (by omega) (by omega)
theorem fdiv_pow (a k : Nat) : Int.fdiv (a : Int) (2 ^ k) = ((a / 2 ^ k : Nat) : Int) := by
  rw [Int.fdiv_eq_ediv_of_nonneg _ (by exact Int.le_of_lt (Int.pow_pos (by omega)))]
  simp
theorem pow_mono {a b : Nat} (h : a ≤ b) : 2 ^ a ≤ 2 ^ b := Nat.pow_le_pow_right (by omega) h
theorem shl_nat (a k : Nat) : (a : Int) * 2 ^ k = ((a * 2 ^ k : Nat) : Int) := by simp
def msk (B S : Nat) : Nat := (2 ^ S - 1) * 2 ^ B
theorem msk_test (B S j : Nat) : (msk B S).testBit j = (decide (B ≤ j) && decide (j < B + S)) := by
  unfold msk
  rw [← Nat.shiftLeft_eq, Nat.testBit_shiftLeft, Nat.testBit_two_pow_sub_one]
  by_cases h : B ≤ j
  · simp only [ge_iff_le, h, decide_true, Bool.true_and]
    exact decide_eq_decide.2 (by omega)
  · simp [h]
theorem msk_lt {B S : Nat} (h : B + S ≤ 12) : msk B S < 4096 := by
  refine Nat.lt_pow_two_of_testBit (n := 12) _ fun i hi => ?_
  rw [msk_test]
  simp only [Bool.and_eq_false_iff, decide_eq_false_iff_not]
  right; omega
theorem and_msk (w B S : Nat) : (w &&& msk B S) / 2 ^ B = w / 2 ^ B % 2 ^ S := by
  refine Nat.eq_of_testBit_eq fun j => ?_
  rw [← Nat.shiftRight_eq_div_pow, Nat.testBit_shiftRight, Nat.testBit_and, msk_test, Nat.testBit_mod_two_pow, ← Nat.shiftRight_eq_div_pow, Nat.testBit_shiftRight]
  have h1 : B ≤ B + j := by omega
  by_cases h : j < S
  · have h2 : B + j < B + S := by omega
    simp [h]
  · have h2 : ¬ B + j < B + S := by omega
    simp [h]
theorem and_low (a S : Nat) : a &&& (2 ^ S - 1) = a % 2 ^ S := Nat.and_two_pow_sub_one_eq_mod a S
theorem half_iff (n S : Nat) (hS : 1 ≤ S) (h : n < 2 ^ S) : n / 2 ^ (S - 1) = 1 ↔ 2 ^ (S - 1) ≤ n := by
  obtain ⟨k, rfl⟩ : ∃ k, S = k + 1 := ⟨S - 1, by omega⟩
  rw [Nat.add_sub_cancel]
  rw [Nat.pow_succ] at h
  have hp : 0 < 2 ^ k := Nat.pow_pos (by omega)
  constructor
  · intro h1
    have := Nat.div_mul_le_self n (2 ^ k)
    rw [h1] at this; omega
  · intro h1
    refine Nat.div_eq_of_lt_le (by omega) (by omega)
theorem and_zero_iff (a b : Nat) : a &&& b = 0 ↔ ∀ j, ¬ (a.testBit j = true ∧ b.testBit j = true) := by
  constructor
  · intro h j hj
    have := congrArg (fun x => x.testBit j) h
    simp [Nat.testBit_and, hj.1, hj.2] at this
  · intro h
    refine Nat.eq_of_testBit_eq fun j => ?_
    rw [Nat.testBit_and, Nat.zero_testBit]
    have := h j
    cases h1 : a.testBit j <;> cases h2 : b.testBit j <;> simp_all
end Go.Proofs.Ytdcodicoclecnaa
/- A recorder's layout, its frames and samples, in numbers. No conditions. -/
namespace Go.Proofs.Ytdcodicoclecnaa
open Go.RowKit Lift

structure Fl where
  word : Int
  bit : Int
  size : Int
  sgn : Bool
  num : Int
  den : Int
  add : Int
  every : Int
  phase : Int
structure Lay where
  words : Int
  s0 : Int
  s1 : Int
  s2 : Int
  s3 : Int
  fl : List Fl
def flC (f : Fl) : List D := [dI f.word, dI f.bit, dI f.size, dB f.sgn, dI f.num, dI f.den, dI f.add, dI f.every, dI f.phase]
def flD (f : Fl) : D := .agg (flC f)
def fls (l : List Fl) : List (List D) := l.map flC
def layC (l : Lay) : List D := [dI l.words, dI l.s0, dI l.s1, dI l.s2, dI l.s3, .list (fls l.fl)]
def layD (l : Lay) : D := .agg (layC l)
def fl0 : Fl := ⟨0, 0, 0, false, 0, 0, 0, 0, 0⟩
theorem fls_len (l : List Fl) : (fls l).length = l.length := by simp [fls]
theorem fls_all (l : List Fl) : (fls l).all (fun x => x.length == 9) = true := by simp [fls, flC]
theorem fls_nine (l : List Fl) : ∀ e ∈ fls l, e.length = 9 := by simp [fls, flC]
theorem fls_gd (l : List Fl) (k : Nat) (h : k < l.length) : (fls l)[k]? = some (flC (l[k]?.getD fl0)) := by simp [fls, h]
def flcells (l : List Fl) : List D := l.flatMap flC
theorem fls_flat (l : List Fl) : (fls l).flatten = flcells l := by simp [fls, flcells, List.flatMap]
def sync (l : Lay) : List Int := [l.s0, l.s1, l.s2, l.s3]

structure FOk (w : Int) (f : Fl) : Prop where
  w1 : 1 ≤ f.word
  w2 : f.word ≤ w - 1
  b1 : 0 ≤ f.bit
  s1 : 1 ≤ f.size
  bs : f.bit + f.size ≤ 12
  n1 : -1000 ≤ f.num
  n2 : f.num ≤ 1000
  d1 : 1 ≤ f.den
  d2 : f.den ≤ 1000
  a1 : -1000000 ≤ f.add
  a2 : f.add ≤ 1000000
  ev : f.every = 1 ∨ f.every = 2 ∨ f.every = 4
  p1 : 0 ≤ f.phase
  p2 : f.phase ≤ f.every - 1
def inSub (f : Fl) (s : Int) : Prop := s.tmod f.every = f.phase
instance (f : Fl) (s : Int) : Decidable (inSub f s) := inferInstanceAs (Decidable (_ = _))
def Ovl (f g : Fl) : Prop := f.word = g.word ∧ f.bit < g.bit + g.size ∧ g.bit < f.bit + f.size
structure LayOk (l : Lay) : Prop where
  w1 : 2 ≤ l.words
  w2 : l.words ≤ 32
  nf : l.fl.length ≤ 16
  sy : ∀ k, k < 4 → 0 ≤ (sync l)[k]?.getD 0 ∧ (sync l)[k]?.getD 0 ≤ 4095
  sd : ∀ i, i < 4 → ∀ k, k < i → (sync l)[i]?.getD 0 ≠ (sync l)[k]?.getD 0
  fo : ∀ k, k < l.fl.length → FOk l.words (l.fl[k]?.getD fl0)
  ov : ∀ i, i < l.fl.length → ∀ k, k < i → ∀ s : Nat, s < 4 → inSub (l.fl[i]?.getD fl0) s → inSub (l.fl[k]?.getD fl0) s → ¬ Ovl (l.fl[i]?.getD fl0) (l.fl[k]?.getD fl0)
open Classical in
noncomputable def layE (l : Lay) (E : Int) : Int := if LayOk l then 0 else E
theorem layE_ok {l : Lay} {E : Int} (h : LayOk l) : layE l E = 0 := if_pos h
theorem layE_no {l : Lay} {E : Int} (h : ¬ LayOk l) : layE l E = E := if_neg h

def mskF (f : Fl) : Nat := msk f.bit.toNat f.size.toNat
theorem mskF_test (f : Fl) (j : Nat) : (mskF f).testBit j = (decide (f.bit.toNat ≤ j) && decide (j < f.bit.toNat + f.size.toNat)) := msk_test _ _ _
theorem mskF_lt {w : Int} {f : Fl} (h : FOk w f) : mskF f < 4096 := msk_lt (by have := h.b1; have := h.s1; have := h.bs; omega)
def rawU (f : Fl) (w : Nat) : Nat := w / 2 ^ f.bit.toNat % 2 ^ f.size.toNat
def rawI (f : Fl) (w : Nat) : Int := if f.sgn = true ∧ 2 ^ (f.size.toNat - 1) ≤ rawU f w then (rawU f w : Int) - 2 ^ f.size.toNat else rawU f w
def valI (f : Fl) (r : Int) : Int := f.add * f.den + r * f.num
theorem rawU_lt {w : Int} {f : Fl} (h : FOk w f) (x : Nat) : rawU f x < 4096 := by
  have h1 : rawU f x < 2 ^ f.size.toNat := Nat.mod_lt _ (Nat.pow_pos (by omega))
  have h2 : 2 ^ f.size.toNat ≤ 2 ^ 12 := pow_mono (by have := h.b1; have := h.bs; omega)
  omega
theorem size_pow {w : Int} {f : Fl} (h : FOk w f) : 1 ≤ 2 ^ f.size.toNat ∧ 2 ^ f.size.toNat ≤ 4096 ∧ f.size.toNat ≤ 12 ∧ 1 ≤ f.size.toNat ∧ f.bit.toNat ≤ 12 ∧ f.bit.toNat + f.size.toNat ≤ 12 ∧ 2 ^ f.size.toNat = 2 * 2 ^ (f.size.toNat - 1) := by
  have := h.b1; have := h.bs; have := h.s1
  have h1 : 1 ≤ 2 ^ f.size.toNat := Nat.pow_pos (by omega)
  have h2 : 2 ^ f.size.toNat ≤ 2 ^ 12 := pow_mono (by omega)
  obtain ⟨k, hk⟩ : ∃ k, f.size.toNat = k + 1 := ⟨f.size.toNat - 1, by omega⟩
  refine ⟨h1, h2, by omega, by omega, by omega, by omega, ?_⟩
  rw [hk, Nat.add_sub_cancel, Nat.pow_succ]; omega
theorem rawI_bd {w : Int} {f : Fl} (h : FOk w f) (x : Nat) : -4096 ≤ rawI f x ∧ rawI f x ≤ 4096 := by
  have h1 := rawU_lt h x
  have h2 := size_pow h
  have h3 : ((2 ^ f.size.toNat : Nat) : Int) = (2 : Int) ^ f.size.toNat := by simp
  unfold rawI
  split <;> omega
theorem mulB {a b A B : Int} (h1 : -A ≤ a) (h2 : a ≤ A) (h3 : -B ≤ b) (h4 : b ≤ B) : -(A * B) ≤ a * b ∧ a * b ≤ A * B := by
  have hA : 0 ≤ A := by omega
  have hB : 0 ≤ B := by omega
  have e : (a * b).natAbs ≤ (A * B).natAbs := by
    rw [Int.natAbs_mul, Int.natAbs_mul]
    exact Nat.mul_le_mul (by omega) (by omega)
  have : 0 ≤ A * B := Int.mul_nonneg hA hB
  omega
def wOk (x : Int) : Bool := decide (0 ≤ x) && decide (x ≤ 4095)
def frOk (l : Lay) (fr : List Int) : Prop := (fr.length : Int) = l.words ∧ fr.all wOk = true
instance (l : Lay) (fr : List Int) : Decidable (frOk l fr) := inferInstanceAs (Decidable (_ ∧ _))
def idx4 (l : Lay) (x : Int) : Int := if x = l.s0 then 0 else if x = l.s1 then 1 else if x = l.s2 then 2 else if x = l.s3 then 3 else -1
def subF (l : Lay) (fr : List Int) : Int := if frOk l fr then idx4 l (fr[0]?.getD 0) else -1
theorem idx4_bd (l : Lay) (x : Int) : -1 ≤ idx4 l x ∧ idx4 l x ≤ 3 := by
  unfold idx4
  split
  · omega
  · split
    · omega
    · split
      · omega
      · split <;> omega
theorem subF_bd (l : Lay) (fr : List Int) : -1 ≤ subF l fr ∧ subF l fr ≤ 3 := by
  unfold subF
  split
  · exact idx4_bd _ _
  · omega
theorem subF_ok {l : Lay} {fr : List Int} (h : 0 ≤ subF l fr) : frOk l fr := by
  unfold subF at h
  split at h
  · assumption
  · omega
def smp (l : Lay) (f : Fl) (fr : List Int) : Option Int := if 0 ≤ subF l fr ∧ inSub f (subF l fr) then some (valI f (rawI f (fr[f.word.toNat]?.getD 0).toNat)) else none
def frm (frs : List (List Int)) (k : Nat) : List Int := frs[k]?.getD []
end Go.Proofs.Ytdcodicoclecnaa
/- Bits that fields use, and what is packed, in numbers. No conditions. -/
namespace Go.Proofs.Ytdcodicoclecnaa
open Go.RowKit Lift

def fAt (l : Lay) (k : Nat) : Fl := l.fl[k]?.getD fl0
def orM (s : Int) (l : Lay) (w : Int) : Nat → Nat
  | 0 => 0
  | k + 1 => if inSub (fAt l k) s ∧ (fAt l k).word = w then orM s l w k ||| mskF (fAt l k) else orM s l w k
theorem orM_test (s : Int) (l : Lay) (w : Int) (j : Nat) : ∀ k, (orM s l w k).testBit j = true ↔ ∃ i, i < k ∧ inSub (fAt l i) s ∧ (fAt l i).word = w ∧ (mskF (fAt l i)).testBit j = true
  | 0 => by simp [orM]
  | k + 1 => by
    have ih := orM_test s l w j k
    unfold orM
    split
    · rename_i h
      rw [Nat.testBit_or, Bool.or_eq_true, ih]
      constructor
      · rintro (⟨i, h1, h2⟩ | h3)
        · exact ⟨i, by omega, h2⟩
        · exact ⟨k, by omega, h.1, h.2, h3⟩
      · rintro ⟨i, h1, h2, h3, h4⟩
        rcases (by omega : i < k ∨ i = k) with h' | rfl
        · exact .inl ⟨i, h', h2, h3, h4⟩
        · exact .inr h4
    · rename_i h
      rw [ih]
      constructor
      · rintro ⟨i, h1, h2⟩; exact ⟨i, by omega, h2⟩
      · rintro ⟨i, h1, h2, h3, h4⟩
        rcases (by omega : i < k ∨ i = k) with h' | rfl
        · exact ⟨i, h', h2, h3, h4⟩
        · exact absurd ⟨h2, h3⟩ h
theorem orM_lt (s : Int) (l : Lay) (w : Int) (hf : ∀ k, k < l.fl.length → FOk l.words (fAt l k)) : ∀ k, k ≤ l.fl.length → orM s l w k < 4096
  | 0, _ => by simp [orM]
  | k + 1, h => by
    have ih := orM_lt s l w hf k (by omega)
    unfold orM
    split
    · exact Nat.or_lt_two_pow (n := 12) ih (mskF_lt (hf k h))
    · exact ih
theorem orM_conf {s : Int} {l : Lay} (hf : ∀ k, k < l.fl.length → FOk l.words (fAt l k)) {i : Nat} (hi : i < l.fl.length) : orM s l (fAt l i).word i &&& mskF (fAt l i) = 0 ↔ ∀ k, k < i → inSub (fAt l k) s → ¬ Ovl (fAt l i) (fAt l k) := by
  rw [and_zero_iff]
  constructor
  · rintro h k hk hs ⟨e, h1, h2⟩
    have a1 := (hf i hi).b1
    have a2 := (hf k (by omega)).b1
    have a3 := (hf i hi).s1
    have a4 := (hf k (by omega)).s1
    refine h (max (fAt l i).bit.toNat (fAt l k).bit.toNat) ⟨(orM_test _ _ _ _ _).2 ⟨k, hk, hs, e.symm, ?_⟩, ?_⟩
    · rw [mskF_test, Bool.and_eq_true, decide_eq_true_eq, decide_eq_true_eq]; omega
    · rw [mskF_test, Bool.and_eq_true, decide_eq_true_eq, decide_eq_true_eq]; omega
  · rintro h j ⟨h1, h2⟩
    obtain ⟨k, hk, hs, e, h3⟩ := (orM_test _ _ _ _ _).1 h1
    rw [mskF_test, Bool.and_eq_true, decide_eq_true_eq, decide_eq_true_eq] at h2 h3
    have a1 := (hf i hi).b1
    have a2 := (hf k (by omega)).b1
    exact h k hk hs ⟨e.symm, by omega, by omega⟩
def usd (s : Int) (l : Lay) (k : Nat) : List Int := (List.range l.words.toNat).map fun (w : Nat) => ((orM s l (w : Int) k : Nat) : Int)
theorem usd_len (s : Int) (l : Lay) (k : Nat) : (usd s l k).length = l.words.toNat := by simp [usd]
theorem usd_zero (s : Int) (l : Lay) : usd s l 0 = List.replicate l.words.toNat 0 := by
  unfold usd
  refine List.ext_getElem (by simp) fun i h1 h2 => ?_
  simp [orM]
theorem usd_get (s : Int) (l : Lay) (k w : Nat) (h : w < l.words.toNat) : (usd s l k)[w]?.getD 0 = ((orM s l w k : Nat) : Int) := by simp [usd, h]
theorem usd_no (s : Int) (l : Lay) (k : Nat) (h : ¬ inSub (fAt l k) s) : usd s l (k + 1) = usd s l k := by
  unfold usd
  refine List.map_congr_left fun w _ => ?_
  simp [orM, h]
theorem usd_in (s : Int) (l : Lay) (k : Nat) (h : inSub (fAt l k) s) (h0 : 0 ≤ (fAt l k).word) : usd s l (k + 1) = (usd s l k).set (fAt l k).word.toNat ((orM s l (fAt l k).word k ||| mskF (fAt l k) : Nat) : Int) := by
  unfold usd
  refine List.ext_getElem (by simp) fun i h1 h2 => ?_
  rw [List.getElem_set]
  simp only [List.getElem_map, List.getElem_range]
  split
  · rename_i e
    have : (fAt l k).word = (i : Int) := by omega
    simp [orM, h, this]
  · rename_i e
    have : ¬ (fAt l k).word = (i : Int) := by omega
    simp [orM, this]

/-! ### packing -/
def canF (f : Fl) (n : Int) : Prop := if f.sgn = true then -(2 ^ (f.size.toNat - 1)) ≤ n ∧ n ≤ 2 ^ (f.size.toNat - 1) - 1 else 0 ≤ n ∧ n ≤ 2 ^ f.size.toNat - 1
instance (f : Fl) (n : Int) : Decidable (canF f n) := by unfold canF; infer_instance
def packOk (s : Int) (f : Fl) (n : Int) : Prop := if inSub f s then canF f n else n = 0
instance (s : Int) (f : Fl) (n : Int) : Decidable (packOk s f n) := by unfold packOk; infer_instance
def fmod (f : Fl) (n : Int) : Nat := (n % 2 ^ f.size.toNat).toNat
def fvN (f : Fl) (n : Int) : Nat := fmod f n * 2 ^ f.bit.toNat
def rAt (r : List Int) (k : Nat) : Int := r[k]?.getD 0
def pkW (s : Int) (l : Lay) (r : List Int) (w : Int) : Nat → Nat
  | 0 => 0
  | k + 1 => if inSub (fAt l k) s ∧ (fAt l k).word = w then pkW s l r w k ||| fvN (fAt l k) (rAt r k) else pkW s l r w k
def pk (s : Int) (l : Lay) (r : List Int) (k : Nat) : List Int := (List.range l.words.toNat).map fun (w : Nat) => if w = 0 then (sync l)[s.toNat]?.getD 0 else ((pkW s l r (w : Int) k : Nat) : Int)
end Go.Proofs.Ytdcodicoclecnaa
/- record: the small functions. No conditions. -/
namespace Go.Proofs.Ytdcodicoclecnaa
open Go.RowKit Lift

theorem wI_y {n a b : Int} (h1 : a ≤ n) (h2 : n ≤ b) : wI n a b = true := by simp [wI, h1, h2]
theorem in_flD (S : Nat → Prop) (f : Fl) : In S (flD f) := .agg _ (by intro d hd; simp [flC] at hd; rcases hd with rfl | rfl | rfl | rfl | rfl | rfl | rfl | rfl | rfl <;> exact .val _)
set_option maxRecDepth 100000 in
set_option maxHeartbeats 1000000 in
theorem within_ac (n a b : Int) : AC Try.prog 74 [dI n, dI a, dI b] [] [] (dB (wI n a b)) := by
  refine krecord_within.ac (n0 := 0) (by simp) ⟨.val _, .val _, .val _, trivial⟩ trivial rfl ?_
  unfold crecord_within dI dB wI
  (have hg : (987654321 : Nat) - 987654321 = 0 := rfl; have hr := hg; repeat' (first | apply aw_seq | ((first | apply aw_skip | apply aw_exit); try simp only [thenQ, blockQ, if_true, if_false, Nat.reduceEqDiff, reduceCtorEq]) | apply aw_ret | apply aw_block | apply aw_condT rfl | apply aw_condF rfl | (refine ag_bool (fun hg => ?_) (fun hg => ?_) <;> (try (have hq := hg; simp only [Bool.not_eq_true', Bool.not_eq_false', Bool.and_eq_true, Bool.and_eq_false_iff, Bool.or_eq_true, Bool.or_eq_false_iff, decide_eq_true_eq, decide_eq_false_iff_not, bne_iff_ne, beq_iff_eq, beq_eq_false_iff_ne, bne_eq_false_iff_eq, ne_eq, Int.not_lt, Int.not_le, Decidable.not_not] at hq)) <;> (try (have hr := hg; simp only [decide_eq_true_eq, decide_eq_false_iff_not] at hr)) <;> (try (exfalso; omega)) <;> simp (disch := first | exact okY | omega) only [hr, decide_true, Bool.true_and, AG_tt, AOpRun, aexec, FSt.ev, St.F, ↓eget_h, AGo_ok, Nat.reduceAdd, St.app, putO, eput_c, Nat.reduceBEq, eput_n, cond_false, hups, List.map, ARun_some, eget_c, isSh, Bool.false_eq_true, ↓reduceIte, Option.map, abin, ARun_none, beq_self_eq_true, cond_true, ARun_nil, dropE_c, inL_c, inL_n, dropE_n, decide_false, Bool.false_and, AG_ft]) | ((first | refine aw_region ?_ | refine ago_if (by omega) ?_ | skip); simp (disch := first | exact okY | omega) only [thenQ, List.map, List.length, Nat.zero_add, Nat.reduceMul, envOf, Nat.reduceAdd, ARun_none, AOpRun, aexec, FSt.ev, AGo_ok, St.app, putO, eput_c, Nat.reduceBEq, eput_n, cond_false, hups, ARun_nil, dropE_c, inL_n, dropE_n, St.F, ↓eget_h, eget_c, isSh, Bool.false_eq_true, ↓reduceIte, Option.map, abin, ge_iff_le, ARun_some])))
  all_goals (refine end_q [] [] ?_ ?_ <;> repeat' (first | exact trivial | exact vr_val _))
set_option maxRecDepth 100000 in
set_option maxHeartbeats 1000000 in
theorem from_ac (n a b : Int) : AC Try.prog 79 [dI n, dI a, dI b] [] [] (dB (wI n a b)) := by
  refine kref12_from.ac (n0 := 0) (by simp) ⟨.val _, .val _, .val _, trivial⟩ trivial rfl ?_
  unfold cref12_from dI dB wI
  (have hg : (987654321 : Nat) - 987654321 = 0 := rfl; have hr := hg; repeat' (first | apply aw_seq | ((first | apply aw_skip | apply aw_exit); try simp only [thenQ, blockQ, if_true, if_false, Nat.reduceEqDiff, reduceCtorEq]) | apply aw_ret | apply aw_block | apply aw_condT rfl | apply aw_condF rfl | (refine ag_bool (fun hg => ?_) (fun hg => ?_) <;> (try (have hq := hg; simp only [Bool.not_eq_true', Bool.not_eq_false', Bool.and_eq_true, Bool.and_eq_false_iff, Bool.or_eq_true, Bool.or_eq_false_iff, decide_eq_true_eq, decide_eq_false_iff_not, bne_iff_ne, beq_iff_eq, beq_eq_false_iff_ne, bne_eq_false_iff_eq, ne_eq, Int.not_lt, Int.not_le, Decidable.not_not] at hq)) <;> (try (have hr := hg; simp only [decide_eq_true_eq, decide_eq_false_iff_not] at hr)) <;> (try (exfalso; omega)) <;> simp (disch := first | exact okY | omega) only [hr, decide_true, Bool.true_and, AG_tt, AOpRun, aexec, FSt.ev, St.F, ↓eget_h, AGo_ok, Nat.reduceAdd, St.app, putO, eput_c, Nat.reduceBEq, eput_n, cond_false, hups, List.map, ARun_some, eget_c, isSh, Bool.false_eq_true, ↓reduceIte, Option.map, abin, ARun_none, beq_self_eq_true, cond_true, ARun_nil, dropE_c, inL_c, inL_n, dropE_n, decide_false, Bool.false_and, AG_ft]) | ((first | refine aw_region ?_ | refine ago_if (by omega) ?_ | skip); simp (disch := first | exact okY | omega) only [thenQ, List.map, List.length, Nat.zero_add, Nat.reduceMul, envOf, Nat.reduceAdd, ARun_none, AOpRun, aexec, FSt.ev, AGo_ok, St.app, putO, eput_c, Nat.reduceBEq, eput_n, cond_false, hups, ARun_nil, dropE_c, inL_n, dropE_n, St.F, ↓eget_h, eget_c, isSh, Bool.false_eq_true, ↓reduceIte, Option.map, abin, ge_iff_le, ARun_some])))
  all_goals (refine end_q [] [] ?_ ?_ <;> repeat' (first | exact trivial | exact vr_val _))
set_option maxRecDepth 100000 in
set_option maxHeartbeats 1000000 in
theorem beyond_ac (n : Int) : AC Try.prog 116 [dI n] [] [] (dB (!wI n 0 4095)) := by
  refine krecord_newTape_S1.ac (n0 := 0) (by simp) ⟨.val _, trivial⟩ trivial rfl ?_
  unfold crecord_newTape_S1
  (repeat' (first | apply aw_seq | ((first | apply aw_skip | apply aw_exit); try simp only [thenQ, blockQ, if_true, if_false, Nat.reduceEqDiff, reduceCtorEq]) | apply aw_ret | apply aw_block | apply aw_condT rfl | apply aw_condF rfl | ((first | refine aw_region ?_ | refine acall0 (within_ac _ _ _) ?_ | refine ago_if (by omega) ?_ | skip); simp (disch := first | exact okY | omega) only [thenQ, List.map, dB, List.length, Nat.zero_add, Nat.reduceMul, envOf, dI, ARun_none, AOpRun, aexec, FSt.ev, AGo_ok, St.app, putO, eput_c, Nat.reduceBEq, eput_n, cond_false, hups, ARun_nil, dropE_c, inL_n, dropE_n, Nat.reduceAdd, St.F, ↓eget_h, eget_c, beq_self_eq_true, cond_true, inL_c])))
  all_goals (refine end_q [] [] ?_ ?_ <;> repeat' (first | exact trivial | exact vr_val _))
def inB (f : Fl) (s : Int) : Bool := s.tmod f.every == f.phase
theorem inB_iff (f : Fl) (s : Int) : inB f s = true ↔ inSub f s := by unfold inB inSub; rw [beq_iff_eq]
theorem inB_t {f : Fl} {s : Int} (h : inSub f s) : inB f s = true := (inB_iff f s).2 h
theorem inB_f {f : Fl} {s : Int} (h : ¬ inSub f s) : inB f s = false := by
  cases hb : inB f s with
  | false => rfl
  | true => exact absurd ((inB_iff f s).1 hb) h
set_option maxRecDepth 100000 in
set_option maxHeartbeats 1000000 in
theorem in_sub_ac {w : Int} {f : Fl} (h : FOk w f) (s : Int) : AC Try.prog 77 [flD f, dI s] [] [] (dB (inB f s)) := by
  refine krecord_bits_in.ac (n0 := 0) (by simp) ⟨in_flD _ _, .val _, trivial⟩ trivial rfl ?_
  unfold crecord_bits_in flD flC inB
  have he : ¬ f.every = 0 := by have := h.ev; omega
  (repeat' (first | apply aw_seq | ((first | apply aw_skip | apply aw_exit); try simp only [thenQ, blockQ, if_true, if_false, Nat.reduceEqDiff, reduceCtorEq]) | apply aw_ret | apply aw_block | apply aw_condT rfl | apply aw_condF rfl | ((first | refine aw_region ?_ | refine ago_if (by omega) ?_ | skip); simp (disch := first | exact okY | omega) only [thenQ, List.map, dB, List.length, Nat.zero_add, Nat.reduceAdd, Nat.reduceMul, envOf, dI, ARun_none, AOpRun, aexec, D.isBot, FSt.ev, St.F, ↓eget_h, Bool.false_eq_true, Option.isSome, hget_n, or_self, ↓reduceIte, D.cells, AGo_ok, St.app, putO, eput_c, Nat.reduceBEq, eput_n, cond_false, hups, hput_n, ARun_nil, dropE_c, inL_n, dropE_n, eget_c, Option.map, run1, hget_c, beq_self_eq_true, cond_true, List.getElem?_cons_succ, List.getElem?_cons_zero, isSh, abin, he, inL_c])))
  all_goals (refine end_q [] [] ?_ ?_ <;> repeat' (first | exact trivial | exact vr_val _))
theorem mask_val {w : Int} {f : Fl} (h : FOk w f) : IntKind.i64.wrap (IntKind.i64.wrap (IntKind.i64.wrap (1 * 2 ^ min f.size.toNat IntKind.i64.bits) - 1) * 2 ^ min f.bit.toNat IntKind.i64.bits) = ((mskF f : Nat) : Int) := by
  obtain ⟨h1, h2, h3, h4, h5, h6, h7⟩ := size_pow h
  have e0 : IntKind.i64.bits = 64 := rfl
  have e1 : min f.size.toNat IntKind.i64.bits = f.size.toNat := by rw [e0]; omega
  have e2 : min f.bit.toNat IntKind.i64.bits = f.bit.toNat := by rw [e0]; omega
  rw [e1, e2]
  have e3 : ((2 ^ f.size.toNat : Nat) : Int) = (2 : Int) ^ f.size.toNat := by simp
  have q1 : IntKind.i64.wrap ((2 ^ f.size.toNat : Nat) : Int) = ((2 ^ f.size.toNat : Nat) : Int) := wrap_in (by omega) (by omega)
  have e4 : ((2 ^ f.size.toNat : Nat) : Int) - 1 = ((2 ^ f.size.toNat - 1 : Nat) : Int) := by omega
  have q2 : IntKind.i64.wrap ((2 ^ f.size.toNat - 1 : Nat) : Int) = ((2 ^ f.size.toNat - 1 : Nat) : Int) := wrap_in (by omega) (by omega)
  rw [← e3, Int.one_mul, q1, e4, q2, shl_nat]
  have := mskF_lt h
  exact wrap_in (by unfold mskF msk at this; omega) (by unfold mskF msk at this; omega)
set_option maxRecDepth 100000 in
set_option maxHeartbeats 1000000 in
theorem mask_ac {w : Int} {f : Fl} (h : FOk w f) : AC Try.prog 78 [flD f] [] [] (dI ((mskF f : Nat) : Int)) := by
  refine krecord_bits_mask.ac (n0 := 0) (by simp) ⟨in_flD _ _, trivial⟩ trivial rfl ?_
  unfold crecord_bits_mask flD flC
  have e1 := h.b1
  have e2 := h.s1
  have m := mask_val h
  have e3 : 0 ≤ f.size := by omega
  (repeat' (first | apply aw_seq | ((first | apply aw_skip | apply aw_exit); try simp only [thenQ, blockQ, if_true, if_false, Nat.reduceEqDiff, reduceCtorEq]) | apply aw_ret | apply aw_block | apply aw_condT rfl | apply aw_condF rfl | ((first | refine aw_region ?_ | refine ago_if (by omega) ?_ | skip); simp (disch := first | exact okY | omega) only [thenQ, List.map, dI, List.length, Nat.zero_add, Nat.reduceAdd, Nat.reduceMul, envOf, dB, ARun_none, AOpRun, aexec, D.isBot, FSt.ev, St.F, ↓eget_h, Bool.false_eq_true, Option.isSome, hget_n, or_self, ↓reduceIte, D.cells, AGo_ok, St.app, putO, eput_c, Nat.reduceBEq, eput_n, cond_false, hups, hput_n, ARun_nil, dropE_c, inL_n, dropE_n, eget_c, Option.map, run1, hget_c, beq_self_eq_true, cond_true, List.getElem?_cons_succ, List.getElem?_cons_zero, isSh, ash, e3, abin, e1, m, inL_c])))
  all_goals (refine end_q [] [] ?_ ?_ <;> repeat' (first | exact trivial | exact vr_val _))
set_option maxRecDepth 100000 in
set_option maxHeartbeats 1000000 in
theorem value_ac {w : Int} {f : Fl} (h : FOk w f) (x : Nat) : AC Try.prog 114 [flD f, dI (rawI f x)] [] [] (dI (valI f (rawI f x))) := by
  refine krecord_bits_value.ac (n0 := 0) (by simp) ⟨in_flD _ _, .val _, trivial⟩ trivial rfl ?_
  unfold crecord_bits_value flD flC
  have h1 := rawI_bd h x
  have h2 := mulB h.a1 h.a2 (by have := h.d1; omega : -(1000 : Int) ≤ f.den) h.d2
  have h3 := mulB h1.1 h1.2 h.n1 h.n2
  unfold valI
  generalize rawI f x = r at *
  have e1 : IntKind.i64.wrap (f.add * f.den) = f.add * f.den := wrap_in (by omega) (by omega)
  have e2 : IntKind.i64.wrap (r * f.num) = r * f.num := wrap_in (by omega) (by omega)
  have e3 : IntKind.i64.wrap (f.add * f.den + r * f.num) = f.add * f.den + r * f.num := wrap_in (by omega) (by omega)
  (repeat' (first | apply aw_seq | ((first | apply aw_skip | apply aw_exit); try simp only [thenQ, blockQ, if_true, if_false, Nat.reduceEqDiff, reduceCtorEq]) | apply aw_ret | apply aw_block | apply aw_condT rfl | apply aw_condF rfl | ((first | refine aw_region ?_ | refine ago_if (by omega) ?_ | skip); simp (disch := first | exact okY | omega) only [thenQ, List.map, dI, List.length, Nat.zero_add, Nat.reduceAdd, Nat.reduceMul, envOf, dB, ARun_none, AOpRun, aexec, D.isBot, FSt.ev, St.F, ↓eget_h, Bool.false_eq_true, Option.isSome, hget_n, or_self, ↓reduceIte, D.cells, AGo_ok, St.app, putO, eput_c, Nat.reduceBEq, eput_n, cond_false, hups, hput_n, ARun_nil, dropE_c, inL_n, dropE_n, eget_c, Option.map, run1, hget_c, beq_self_eq_true, cond_true, List.getElem?_cons_succ, List.getElem?_cons_zero, isSh, abin, e1, e2, e3, inL_c])))
  all_goals (refine end_q [] [] ?_ ?_ <;> repeat' (first | exact trivial | exact vr_val _))
set_option maxRecDepth 100000 in
set_option maxHeartbeats 1000000 in
theorem raw_ac {w : Int} {f : Fl} (h : FOk w f) (x : Nat) (hx : x < 4096) : AC Try.prog 115 [flD f, dI (x : Int)] [] [] (dI (rawI f x)) := by
  refine krecord_bits_raw.ac (n0 := 0) (by simp) ⟨in_flD _ _, .val _, trivial⟩ trivial rfl ?_
  unfold crecord_bits_raw flD flC
  obtain ⟨h1, h2, h3, h4, h5, h6, h7⟩ := size_pow h
  have b1 := h.b1
  have s1 := h.s1
  have s0 : 0 ≤ f.size := by omega
  have s2 : 0 ≤ f.size - 1 := by omega
  have e0 : IntKind.i64.bits = 64 := rfl
  have e1 : min f.bit.toNat IntKind.i64.bits = f.bit.toNat := by rw [e0]; omega
  have e2 : min (f.size - 1).toNat IntKind.i64.bits = f.size.toNat - 1 := by rw [e0]; omega
  have e3 : min f.size.toNat IntKind.i64.bits = f.size.toNat := by rw [e0]; omega
  have ml := mskF_lt h
  have a1 := and_nat x (mskF f) (by omega) (by omega)
  have a2 : Int.fdiv (((x &&& mskF f : Nat)) : Int) (2 ^ f.bit.toNat) = ((rawU f x : Nat) : Int) := by
    rw [fdiv_pow]; unfold mskF; rw [and_msk]; rfl
  have hr := rawU_lt h x
  have hr2 : rawU f x < 2 ^ f.size.toNat := Nat.mod_lt _ (by omega)
  have a3 : Int.fdiv ((rawU f x : Nat) : Int) (2 ^ (f.size.toNat - 1)) = ((rawU f x / 2 ^ (f.size.toNat - 1) : Nat) : Int) := fdiv_pow _ _
  have hi := half_iff (rawU f x) f.size.toNat h4 hr2
  have p1 : ((2 ^ f.size.toNat : Nat) : Int) = (2 : Int) ^ f.size.toNat := by simp
  have a4 : IntKind.i64.wrap (1 * 2 ^ f.size.toNat) = 2 ^ f.size.toNat := by rw [Int.one_mul]; exact wrap_in (by omega) (by omega)
  have mk := mask_ac h
  unfold flD flC at mk
  unfold rawI
  cases hs : f.sgn with
  | false =>
    rw [hs] at mk
    rw [if_neg (by rintro ⟨h, _⟩; cases h)]
    (repeat' (first | apply aw_seq | ((first | apply aw_skip | apply aw_exit); try simp only [thenQ, blockQ, if_true, if_false, Nat.reduceEqDiff, reduceCtorEq]) | apply aw_ret | apply aw_block | apply aw_condT rfl | apply aw_condF rfl | ((first | refine aw_region ?_ | refine acall0 (mk) ?_ | refine ago_if (by omega) ?_ | skip); simp (disch := first | exact okY | omega) only [thenQ, List.map, dI, List.length, Nat.zero_add, Nat.reduceAdd, Nat.reduceMul, envOf, dB, ARun_none, AOpRun, aexec, D.isBot, FSt.ev, St.F, ↓eget_h, Bool.false_eq_true, Option.isSome, hget_n, or_self, ↓reduceIte, D.cells, AGo_ok, St.app, putO, eput_c, Nat.reduceBEq, eput_n, cond_false, hups, hput_n, ARun_nil, dropE_c, inL_n, dropE_n, eget_c, hget_c, beq_self_eq_true, cond_true, Nat.reduceLeDiff, List.drop, List.take, isSh, Option.map, abin, a1, run1, List.getElem?_cons_succ, List.getElem?_cons_zero, ash, b1, e1, a2, inL_c, ARun_some, AG_ft])))
    all_goals (refine end_q [] [] ?_ ?_ <;> repeat' (first | exact trivial | exact vr_val _))
  | true =>
    rw [hs] at mk
    by_cases hh : 2 ^ (f.size.toNat - 1) ≤ rawU f x
    · have q : (((rawU f x / 2 ^ (f.size.toNat - 1) : Nat) : Int) == 1) = true := by rw [hi.2 hh]; rfl
      rw [if_pos ⟨rfl, hh⟩]
      have a5 : IntKind.i64.wrap (((rawU f x : Nat) : Int) - 2 ^ f.size.toNat) = ((rawU f x : Nat) : Int) - 2 ^ f.size.toNat := wrap_in (by omega) (by omega)
      (repeat' (first | apply aw_seq | ((first | apply aw_skip | apply aw_exit); try simp only [thenQ, blockQ, if_true, if_false, Nat.reduceEqDiff, reduceCtorEq]) | apply aw_ret | apply aw_block | apply aw_condT rfl | apply aw_condF rfl | ((first | refine aw_region ?_ | refine acall0 (mk) ?_ | refine ago_if (by omega) ?_ | skip); simp (disch := first | exact okY | omega) only [thenQ, List.map, dI, List.length, Nat.zero_add, Nat.reduceAdd, Nat.reduceMul, envOf, dB, ARun_none, AOpRun, aexec, D.isBot, FSt.ev, St.F, ↓eget_h, Bool.false_eq_true, Option.isSome, hget_n, or_self, ↓reduceIte, D.cells, AGo_ok, St.app, putO, eput_c, Nat.reduceBEq, eput_n, cond_false, hups, hput_n, ARun_nil, dropE_c, inL_n, dropE_n, eget_c, hget_c, beq_self_eq_true, cond_true, Nat.reduceLeDiff, List.drop, List.take, isSh, Option.map, abin, a1, run1, List.getElem?_cons_succ, List.getElem?_cons_zero, ash, b1, e1, a2, inL_c, ARun_some, AG_tt, fits, s2, e2, a3, q, s0, e3, a4, a5])))
      all_goals (refine end_q [] [] ?_ ?_ <;> repeat' (first | exact trivial | exact vr_val _))
    · have q : (((rawU f x / 2 ^ (f.size.toNat - 1) : Nat) : Int) == 1) = false := by
        have : ¬ (rawU f x / 2 ^ (f.size.toNat - 1)) = 1 := fun e => hh (hi.1 e)
        simp only [beq_eq_false_iff_ne]
        omega
      rw [if_neg (by rintro ⟨_, h⟩; exact hh h)]
      (repeat' (first | apply aw_seq | ((first | apply aw_skip | apply aw_exit); try simp only [thenQ, blockQ, if_true, if_false, Nat.reduceEqDiff, reduceCtorEq]) | apply aw_ret | apply aw_block | apply aw_condT rfl | apply aw_condF rfl | ((first | refine aw_region ?_ | refine acall0 (mk) ?_ | refine ago_if (by omega) ?_ | skip); simp (disch := first | exact okY | omega) only [thenQ, List.map, dI, List.length, Nat.zero_add, Nat.reduceAdd, Nat.reduceMul, envOf, dB, ARun_none, AOpRun, aexec, D.isBot, FSt.ev, St.F, ↓eget_h, Bool.false_eq_true, Option.isSome, hget_n, or_self, ↓reduceIte, D.cells, AGo_ok, St.app, putO, eput_c, Nat.reduceBEq, eput_n, cond_false, hups, hput_n, ARun_nil, dropE_c, inL_n, dropE_n, eget_c, hget_c, beq_self_eq_true, cond_true, Nat.reduceLeDiff, List.drop, List.take, isSh, Option.map, abin, a1, run1, List.getElem?_cons_succ, List.getElem?_cons_zero, ash, b1, e1, a2, inL_c, ARun_some, AG_tt, fits, s2, e2, a3, q])))
      all_goals (refine end_q [] [] ?_ ?_ <;> repeat' (first | exact trivial | exact vr_val _))
def idxI (l : List Int) (x : Int) : Int := match l.findIdx? (· == x) with
  | some k => (k : Int)
  | none => -1
theorem idx_at {l : List Int} {x : Int} {k : Nat} (hk : k < l.length) (hn : ∀ j, j < k → l[j]?.getD 0 ≠ x) (he : l[k]?.getD 0 = x) : idxI l x = k := by
  unfold idxI
  have : l.findIdx? (· == x) = some k := by
    rw [List.findIdx?_eq_some_iff_getElem]
    refine ⟨hk, by simpa [hk] using he, fun j hj => ?_⟩
    have := hn j hj
    simpa [show j < l.length by omega] using this
  rw [this]
theorem idx_no {l : List Int} {x : Int} (hn : ∀ j, j < l.length → l[j]?.getD 0 ≠ x) : idxI l x = -1 := by
  unfold idxI
  have : l.findIdx? (· == x) = none := by
    rw [List.findIdx?_eq_none_iff]
    intro y hy
    obtain ⟨j, hj, rfl⟩ := List.getElem_of_mem hy
    have := hn j hj
    simpa [hj] using this
  rw [this]
set_option maxRecDepth 100000 in
set_option maxHeartbeats 1000000 in
theorem index_ac (l : List Int) (x : Int) (hl : l.length ≤ 1000) : AC Try.prog 117 [.list (ints l), dI x] [] [] (dI (idxI l x)) := by
  refine kslices_Index_L_L_Jint_Kint_J.ac (n0 := 0) (by simp) ⟨.list _, .val _, trivial⟩ trivial rfl ?_
  unfold cslices_Index_L_L_Jint_Kint_J
  (repeat' (first | apply aw_seq | ((first | apply aw_skip | apply aw_exit); try simp only [thenQ, blockQ, if_true, if_false, Nat.reduceEqDiff, reduceCtorEq]) | apply aw_ret | apply aw_block | apply aw_condT rfl | apply aw_condF rfl | ((first | refine aw_region ?_ | refine ago_if (by omega) ?_ | skip); simp (disch := first | exact okY | omega) only [thenQ, List.map, Int.reduceNeg, dI, List.length, Nat.zero_add, Nat.reduceMul, envOf, ARun_none, AOpRun, aexec, FSt.ev, AGo_ok, St.app, putO, eput_c, Nat.reduceBEq, eput_n, cond_false, hups, ARun_nil, dropE_c, inL_n, dropE_n, Nat.reduceAdd, St.F, ↓eget_h, eget_c, ints_len, inL_c, beq_self_eq_true, cond_true])))
  refine aw_loop (fun k : Nat => ⟨[(0, .list (ints l)), (1, dI x), (7, dI l.length), (8, dI k)], [], 400⟩) (fun k => k ≤ l.length ∧ ∀ j, j < k → l[j]?.getD 0 ≠ x) (fun k => l.length - k) ⟨0, ⟨by omega, fun j hj => by omega⟩, ?_⟩ ?_
  · refine wk_q [] [] ?_ ?_ <;> repeat' (first | exact trivial | exact vr_val _ | exact vr_list _ | apply And.intro)
  rintro k ⟨hk, hin⟩
  by_cases hk2 : k < l.length
  · have g1 := ints_gd l k hk2
    by_cases he : l[k]?.getD 0 = x
    · have q : (x == l[k]?.getD 0) = true := by simp [he]
      rw [idx_at hk2 hin he]
      (have hg : (987654321 : Nat) - 987654321 = 0 := rfl; have hr := hg; repeat' (first | apply aw_seq | ((first | apply aw_skip | apply aw_exit); try simp only [thenQ, blockQ, if_true, if_false, Nat.reduceEqDiff, reduceCtorEq]) | apply aw_ret | apply aw_block | apply aw_condT rfl | apply aw_condF rfl | (refine aw_cond rfl (fun hg => ?_) (fun hg => ?_) <;> (try (have hq := hg; simp only [Bool.not_eq_true', Bool.not_eq_false', Bool.and_eq_true, Bool.and_eq_false_iff, Bool.or_eq_true, Bool.or_eq_false_iff, decide_eq_true_eq, decide_eq_false_iff_not, bne_iff_ne, beq_iff_eq, beq_eq_false_iff_ne, bne_eq_false_iff_eq, ne_eq, Int.not_lt, Int.not_le, Decidable.not_not] at hq)) <;> (try (have hr := hg; simp only [decide_eq_true_eq, decide_eq_false_iff_not] at hr)) <;> (try (exfalso; omega))) | ((first | refine aw_region ?_ | refine ago_if (by omega) ?_ | skip); simp (disch := first | exact okY | omega) only [thenQ, ne_eq, dI, Int.reduceNeg, List.length, Nat.zero_add, Nat.reduceMul, Nat.reduceAdd, ARun_none, AOpRun, aexec, FSt.ev, St.F, eget_c, Nat.reduceBEq, ↓eget_h, cond_false, isSh, Bool.false_eq_true, ↓reduceIte, Option.map, abin, AGo_ok, St.app, putO, eput_c, eput_n, hups, List.map, ARun_nil, dropE_c, inL_n, dropE_n, hr, decide_true, inL_c, beq_self_eq_true, cond_true, Int.natCast_nonneg, ints_all, and_self, opt1, Int.toNat_natCast, g1, run1, List.getElem?_cons_zero, q, blockQ])))
      all_goals (refine end_q [] [] ?_ ?_ <;> repeat' (first | exact trivial | exact vr_val _))
    · have q : (x == l[k]?.getD 0) = false := by simp only [beq_eq_false_iff_ne]; exact fun h => he h.symm
      (have hg : (987654321 : Nat) - 987654321 = 0 := rfl; have hr := hg; repeat' (first | apply aw_seq | ((first | apply aw_skip | apply aw_exit); try simp only [thenQ, blockQ, if_true, if_false, Nat.reduceEqDiff, reduceCtorEq]) | apply aw_ret | apply aw_block | apply aw_condT rfl | apply aw_condF rfl | (refine aw_cond rfl (fun hg => ?_) (fun hg => ?_) <;> (try (have hq := hg; simp only [Bool.not_eq_true', Bool.not_eq_false', Bool.and_eq_true, Bool.and_eq_false_iff, Bool.or_eq_true, Bool.or_eq_false_iff, decide_eq_true_eq, decide_eq_false_iff_not, bne_iff_ne, beq_iff_eq, beq_eq_false_iff_ne, bne_eq_false_iff_eq, ne_eq, Int.not_lt, Int.not_le, Decidable.not_not] at hq)) <;> (try (have hr := hg; simp only [decide_eq_true_eq, decide_eq_false_iff_not] at hr)) <;> (try (exfalso; omega))) | ((first | refine aw_region ?_ | refine ago_if (by omega) ?_ | skip); simp (disch := first | exact okY | omega) only [thenQ, ne_eq, dI, Int.reduceNeg, List.length, Nat.zero_add, Nat.reduceMul, Nat.reduceAdd, ARun_none, AOpRun, aexec, FSt.ev, St.F, eget_c, Nat.reduceBEq, ↓eget_h, cond_false, isSh, Bool.false_eq_true, ↓reduceIte, Option.map, abin, AGo_ok, St.app, putO, eput_c, eput_n, hups, List.map, ARun_nil, dropE_c, inL_n, dropE_n, hr, decide_true, inL_c, beq_self_eq_true, cond_true, Int.natCast_nonneg, ints_all, and_self, opt1, Int.toNat_natCast, g1, run1, List.getElem?_cons_zero, q, fits])))
      refine ⟨k + 1, ⟨by omega, fun j hj => ?_⟩, by omega, by refine wk_q [] [] ?_ ?_ <;> repeat' (first | exact trivial | exact vr_val _ | exact vr_list _ | apply And.intro)⟩
      rcases (by omega : j < k ∨ j = k) with h | rfl
      · exact hin j h
      · exact he
  · obtain rfl : k = l.length := by omega
    rw [idx_no hin]
    (have hg : (987654321 : Nat) - 987654321 = 0 := rfl; have hr := hg; repeat' (first | apply aw_seq | ((first | apply aw_skip | apply aw_exit); try simp only [thenQ, blockQ, if_true, if_false, Nat.reduceEqDiff, reduceCtorEq]) | apply aw_ret | apply aw_block | apply aw_condT rfl | apply aw_condF rfl | (refine aw_cond rfl (fun hg => ?_) (fun hg => ?_) <;> (try (have hq := hg; simp only [Bool.not_eq_true', Bool.not_eq_false', Bool.and_eq_true, Bool.and_eq_false_iff, Bool.or_eq_true, Bool.or_eq_false_iff, decide_eq_true_eq, decide_eq_false_iff_not, bne_iff_ne, beq_iff_eq, beq_eq_false_iff_ne, bne_eq_false_iff_eq, ne_eq, Int.not_lt, Int.not_le, Decidable.not_not] at hq)) <;> (try (have hr := hg; simp only [decide_eq_true_eq, decide_eq_false_iff_not] at hr)) <;> (try (exfalso; omega))) | ((first | refine aw_region ?_ | refine ago_if (by omega) ?_ | skip); simp (disch := first | exact okY | omega) only [thenQ, ne_eq, dI, Int.reduceNeg, List.length, Nat.zero_add, Nat.reduceMul, Nat.reduceAdd, ARun_none, AOpRun, aexec, FSt.ev, St.F, eget_c, Nat.reduceBEq, ↓eget_h, cond_false, isSh, Bool.false_eq_true, ↓reduceIte, Option.map, abin, AGo_ok, St.app, putO, eput_c, eput_n, hups, List.map, ARun_nil, dropE_c, inL_n, dropE_n, hr, decide_false])))
    all_goals (refine end_q [] [] ?_ ?_ <;> repeat' (first | exact trivial | exact vr_val _))
set_option maxRecDepth 100000 in
set_option maxHeartbeats 1000000 in
theorem contains_ac (l : List Int) (x : Int) (hl : l.length ≤ 1000) : AC Try.prog 75 [.list (ints l), dI x] [] [] (dB (decide (0 ≤ idxI l x))) := by
  refine kslices_Contains_L_L_Jint_Kint_J.ac (n0 := 0) (by simp) ⟨.list _, .val _, trivial⟩ trivial rfl ?_
  unfold cslices_Contains_L_L_Jint_Kint_J
  (repeat' (first | apply aw_seq | ((first | apply aw_skip | apply aw_exit); try simp only [thenQ, blockQ, if_true, if_false, Nat.reduceEqDiff, reduceCtorEq]) | apply aw_ret | apply aw_block | apply aw_condT rfl | apply aw_condF rfl | ((first | refine aw_region ?_ | refine acall0 (index_ac l x hl) ?_ | refine ago_if (by omega) ?_ | skip); simp (disch := first | exact okY | omega) only [thenQ, List.map, dB, List.length, Nat.zero_add, Nat.reduceMul, envOf, dI, ARun_none, AOpRun, aexec, FSt.ev, AGo_ok, St.app, putO, eput_c, Nat.reduceBEq, eput_n, cond_false, hups, ARun_nil, dropE_c, inL_n, dropE_n, Nat.reduceAdd, St.F, ↓eget_h, eget_c, isSh, Bool.false_eq_true, ↓reduceIte, Option.map, abin, ge_iff_le, beq_self_eq_true, cond_true, inL_c])))
  all_goals (refine end_q [] [] ?_ ?_ <;> repeat' (first | exact trivial | exact vr_val _))
theorem idx_mem {l : List Int} {x : Int} : 0 ≤ idxI l x ↔ x ∈ l := by
  unfold idxI
  cases h : l.findIdx? (· == x) with
  | none =>
    rw [List.findIdx?_eq_none_iff] at h
    simp only
    constructor
    · intro h'; omega
    · intro hx; have := h x hx; simp at this
  | some k =>
    rw [List.findIdx?_eq_some_iff_getElem] at h
    obtain ⟨hk, he, _⟩ := h
    simp only
    refine ⟨fun _ => ?_, fun _ => by omega⟩
    have : l[k] = x := by simpa using he
    rw [← this]; exact List.getElem_mem hk
set_option maxRecDepth 100000 in
set_option maxHeartbeats 1000000 in
theorem ifunc_ac (l : List Int) (hl : l.length ≤ 1000000) : AC Try.prog 144 [.list (ints l), .fn 116 [] []] [] [] (dI (match l.findIdx? (fun x => !wI x 0 4095) with
    | some k => (k : Int)
    | none => -1)) := by
  refine kslices_IndexFunc_L_L_Jint_Kint_J.ac (n0 := 0) (by simp) ⟨.list _, .fn _ _ _ (by simp) (by simp), trivial⟩ trivial rfl ?_
  unfold cslices_IndexFunc_L_L_Jint_Kint_J
  (repeat' (first | apply aw_seq | ((first | apply aw_skip | apply aw_exit); try simp only [thenQ, blockQ, if_true, if_false, Nat.reduceEqDiff, reduceCtorEq]) | apply aw_ret | apply aw_block | apply aw_condT rfl | apply aw_condF rfl | ((first | refine aw_region ?_ | refine ago_if (by omega) ?_ | skip); simp (disch := first | exact okY | omega) only [thenQ, List.map, Int.reduceNeg, dI, List.length, Nat.zero_add, Nat.reduceMul, envOf, ARun_none, AOpRun, aexec, FSt.ev, AGo_ok, St.app, putO, eput_c, Nat.reduceBEq, eput_n, cond_false, hups, ARun_nil, dropE_c, inL_n, dropE_n, Nat.reduceAdd, St.F, ↓eget_h, eget_c, ints_len, inL_c, beq_self_eq_true, cond_true])))
  refine aw_loop (fun k : Nat => ⟨[(0, .list (ints l)), (1, .fn 116 [] []), (7, dI l.length), (8, dI k)], [], 400⟩) (fun k => k ≤ l.length ∧ ∀ j, j < k → wI (l[j]?.getD 0) 0 4095 = true) (fun k => l.length - k) ⟨0, ⟨by omega, fun j hj => by omega⟩, ?_⟩ ?_
  · refine wk_q [] [] ?_ ?_ <;> repeat' (first | exact trivial | exact vr_val _ | exact vr_list _ | apply vr_fn | apply And.intro)
  rintro k ⟨hk, hin⟩
  by_cases hk2 : k < l.length
  · have g1 := ints_gd l k hk2
    cases he : wI (l[k]?.getD 0) 0 4095 with
    | false =>
      have q : l.findIdx? (fun x => !wI x 0 4095) = some k := by
        rw [List.findIdx?_eq_some_iff_getElem]
        refine ⟨hk2, by have := he; simp [hk2] at this; simp [this], fun j hj => ?_⟩
        have := hin j hj
        simpa [show j < l.length by omega] using this
      rw [q]
      (have hg : (987654321 : Nat) - 987654321 = 0 := rfl; have hr := hg; repeat' (first | apply aw_seq | ((first | apply aw_skip | apply aw_exit); try simp only [thenQ, blockQ, if_true, if_false, Nat.reduceEqDiff, reduceCtorEq]) | apply aw_ret | apply aw_block | apply aw_condT rfl | apply aw_condF rfl | (refine aw_cond rfl (fun hg => ?_) (fun hg => ?_) <;> (try (have hq := hg; simp only [Bool.not_eq_true', Bool.not_eq_false', Bool.and_eq_true, Bool.and_eq_false_iff, Bool.or_eq_true, Bool.or_eq_false_iff, decide_eq_true_eq, decide_eq_false_iff_not, bne_iff_ne, beq_iff_eq, beq_eq_false_iff_ne, bne_eq_false_iff_eq, ne_eq, Int.not_lt, Int.not_le, Decidable.not_not] at hq)) <;> (try (have hr := hg; simp only [decide_eq_true_eq, decide_eq_false_iff_not] at hr)) <;> (try (exfalso; omega))) | ((first | refine aw_region ?_ | refine acall0 (beyond_ac _) ?_ | refine ago_if (by omega) ?_ | skip); simp (disch := first | exact okY | omega) only [thenQ, dI, Int.reduceNeg, List.length, Nat.zero_add, Nat.reduceMul, Nat.reduceAdd, ARun_none, AOpRun, aexec, FSt.ev, St.F, eget_c, Nat.reduceBEq, ↓eget_h, cond_false, isSh, Bool.false_eq_true, ↓reduceIte, Option.map, abin, AGo_ok, St.app, putO, eput_c, eput_n, hups, List.map, ARun_nil, dropE_c, inL_n, dropE_n, hr, decide_true, inL_c, beq_self_eq_true, cond_true, Int.natCast_nonneg, ints_all, and_self, opt1, Int.toNat_natCast, g1, run1, List.getElem?_cons_zero, dB, he, Bool.not_false, blockQ])))
      all_goals (refine end_q [] [] ?_ ?_ <;> repeat' (first | exact trivial | exact vr_val _))
    | true =>
      (have hg : (987654321 : Nat) - 987654321 = 0 := rfl; have hr := hg; repeat' (first | apply aw_seq | ((first | apply aw_skip | apply aw_exit); try simp only [thenQ, blockQ, if_true, if_false, Nat.reduceEqDiff, reduceCtorEq]) | apply aw_ret | apply aw_block | apply aw_condT rfl | apply aw_condF rfl | (refine aw_cond rfl (fun hg => ?_) (fun hg => ?_) <;> (try (have hq := hg; simp only [Bool.not_eq_true', Bool.not_eq_false', Bool.and_eq_true, Bool.and_eq_false_iff, Bool.or_eq_true, Bool.or_eq_false_iff, decide_eq_true_eq, decide_eq_false_iff_not, bne_iff_ne, beq_iff_eq, beq_eq_false_iff_ne, bne_eq_false_iff_eq, ne_eq, Int.not_lt, Int.not_le, Decidable.not_not] at hq)) <;> (try (have hr := hg; simp only [decide_eq_true_eq, decide_eq_false_iff_not] at hr)) <;> (try (exfalso; omega))) | ((first | refine aw_region ?_ | refine acall0 (beyond_ac _) ?_ | refine ago_if (by omega) ?_ | skip); simp (disch := first | exact okY | omega) only [thenQ, dI, Int.reduceNeg, List.length, Nat.zero_add, Nat.reduceMul, Nat.reduceAdd, ARun_none, AOpRun, aexec, FSt.ev, St.F, eget_c, Nat.reduceBEq, ↓eget_h, cond_false, isSh, Bool.false_eq_true, ↓reduceIte, Option.map, abin, AGo_ok, St.app, putO, eput_c, eput_n, hups, List.map, ARun_nil, dropE_c, inL_n, dropE_n, hr, decide_true, inL_c, beq_self_eq_true, cond_true, Int.natCast_nonneg, ints_all, and_self, opt1, Int.toNat_natCast, g1, run1, List.getElem?_cons_zero, dB, he, Bool.not_true, fits])))
      refine ⟨k + 1, ⟨by omega, fun j hj => ?_⟩, by omega, by refine wk_q [] [] ?_ ?_ <;> repeat' (first | exact trivial | exact vr_val _ | exact vr_list _ | apply vr_fn | apply And.intro)⟩
      rcases (by omega : j < k ∨ j = k) with h | rfl
      · exact hin j h
      · exact he
  · obtain rfl : k = l.length := by omega
    have q : l.findIdx? (fun x => !wI x 0 4095) = none := by
      rw [List.findIdx?_eq_none_iff]
      intro y hy
      obtain ⟨j, hj, rfl⟩ := List.getElem_of_mem hy
      have := hin j hj
      simp [hj] at this
      simp [this]
    rw [q]
    (have hg : (987654321 : Nat) - 987654321 = 0 := rfl; have hr := hg; repeat' (first | apply aw_seq | ((first | apply aw_skip | apply aw_exit); try simp only [thenQ, blockQ, if_true, if_false, Nat.reduceEqDiff, reduceCtorEq]) | apply aw_ret | apply aw_block | apply aw_condT rfl | apply aw_condF rfl | (refine aw_cond rfl (fun hg => ?_) (fun hg => ?_) <;> (try (have hq := hg; simp only [Bool.not_eq_true', Bool.not_eq_false', Bool.and_eq_true, Bool.and_eq_false_iff, Bool.or_eq_true, Bool.or_eq_false_iff, decide_eq_true_eq, decide_eq_false_iff_not, bne_iff_ne, beq_iff_eq, beq_eq_false_iff_ne, bne_eq_false_iff_eq, ne_eq, Int.not_lt, Int.not_le, Decidable.not_not] at hq)) <;> (try (have hr := hg; simp only [decide_eq_true_eq, decide_eq_false_iff_not] at hr)) <;> (try (exfalso; omega))) | ((first | refine aw_region ?_ | refine ago_if (by omega) ?_ | skip); simp (disch := first | exact okY | omega) only [thenQ, dI, Int.reduceNeg, List.length, Nat.zero_add, Nat.reduceMul, Nat.reduceAdd, ARun_none, AOpRun, aexec, FSt.ev, St.F, eget_c, Nat.reduceBEq, ↓eget_h, cond_false, isSh, Bool.false_eq_true, ↓reduceIte, Option.map, abin, AGo_ok, St.app, putO, eput_c, eput_n, hups, List.map, ARun_nil, dropE_c, inL_n, dropE_n, hr, decide_false])))
    all_goals (refine end_q [] [] ?_ ?_ <;> repeat' (first | exact trivial | exact vr_val _))
theorem wI_w (x : Int) : wI x 0 4095 = wOk x := rfl
set_option maxRecDepth 100000 in
set_option maxHeartbeats 1000000 in
theorem cfunc_ac (l : List Int) (hl : l.length ≤ 1000000) : AC Try.prog 110 [.list (ints l), .fn 116 [] []] [] [] (dB (!l.all wOk)) := by
  refine kslices_ContainsFunc_L_L_Jint_Kint_J.ac (n0 := 0) (by simp) ⟨.list _, .fn _ _ _ (by simp) (by simp), trivial⟩ trivial rfl ?_
  unfold cslices_ContainsFunc_L_L_Jint_Kint_J
  have hf := ifunc_ac l hl
  cases h : l.findIdx? (fun x => !wI x 0 4095) with
  | none =>
    have ha : l.all wOk = true := by
      rw [List.findIdx?_eq_none_iff] at h
      refine List.all_eq_true.2 fun x hx => ?_
      have := h x hx
      simpa [wI_w] using this
    rw [h] at hf
    rw [ha]
    (repeat' (first | apply aw_seq | ((first | apply aw_skip | apply aw_exit); try simp only [thenQ, blockQ, if_true, if_false, Nat.reduceEqDiff, reduceCtorEq]) | apply aw_ret | apply aw_block | apply aw_condT rfl | apply aw_condF rfl | ((first | refine aw_region ?_ | refine acall0 (hf) ?_ | refine ago_if (by omega) ?_ | skip); simp (disch := first | exact okY | omega) only [thenQ, List.map, dB, Bool.not_true, List.length, Nat.zero_add, Nat.reduceMul, envOf, ARun_none, AOpRun, aexec, FSt.ev, AGo_ok, St.app, putO, eput_c, Nat.reduceBEq, eput_n, cond_false, hups, ARun_nil, dropE_c, inL_n, dropE_n, Nat.reduceAdd, St.F, ↓eget_h, eget_c, dI, Int.reduceNeg, isSh, Bool.false_eq_true, ↓reduceIte, Option.map, abin, beq_self_eq_true, cond_true, inL_c])))
    all_goals (refine end_q [] [] ?_ ?_ <;> repeat' (first | exact trivial | exact vr_val _))
  | some k =>
    have ha : l.all wOk = false := by
      rw [List.findIdx?_eq_some_iff_getElem] at h
      obtain ⟨hk, he, _⟩ := h
      refine List.all_eq_false.2 ⟨l[k], List.getElem_mem hk, by simpa [wI_w] using he⟩
    rw [h] at hf
    rw [ha]
    have q : decide ((k : Int) ≥ 0) = true := decide_eq_true (by omega)
    (repeat' (first | apply aw_seq | ((first | apply aw_skip | apply aw_exit); try simp only [thenQ, blockQ, if_true, if_false, Nat.reduceEqDiff, reduceCtorEq]) | apply aw_ret | apply aw_block | apply aw_condT rfl | apply aw_condF rfl | ((first | refine aw_region ?_ | refine acall0 (hf) ?_ | refine ago_if (by omega) ?_ | skip); simp (disch := first | exact okY | omega) only [thenQ, List.map, dB, Bool.not_false, List.length, Nat.zero_add, Nat.reduceMul, envOf, ARun_none, AOpRun, aexec, FSt.ev, AGo_ok, St.app, putO, eput_c, Nat.reduceBEq, eput_n, cond_false, hups, ARun_nil, dropE_c, inL_n, dropE_n, Nat.reduceAdd, St.F, ↓eget_h, eget_c, dI, isSh, Bool.false_eq_true, ↓reduceIte, Option.map, abin, Int.natCast_nonneg, decide_true, beq_self_eq_true, cond_true, inL_c])))
    all_goals (refine end_q [] [] ?_ ?_ <;> repeat' (first | exact trivial | exact vr_val _))
end Go.Proofs.Ytdcodicoclecnaa
/- Conditions and events over frames, in numbers. No conditions. -/
namespace Go.Proofs.Ytdcodicoclecnaa
open Go.RowKit Lift

structure Cd where
  field : Int
  lim : Int
  above : Bool
def cdC (c : Cd) : List D := [dI c.field, dI c.lim, dB c.above]
def cds (l : List Cd) : List (List D) := l.map cdC
def cd0 : Cd := ⟨0, 0, false⟩
theorem cds_len (l : List Cd) : (cds l).length = l.length := by simp [cds]
theorem cds_all (l : List Cd) : (cds l).all (fun x => x.length == 3) = true := by simp [cds, cdC]
theorem cds_three (l : List Cd) : ∀ e ∈ cds l, e.length = 3 := by simp [cds, cdC]
theorem cds_gd (l : List Cd) (k : Nat) (h : k < l.length) : (cds l)[k]? = some (cdC (l[k]?.getD cd0)) := by simp [cds, h]
def cdcells (l : List Cd) : List D := l.flatMap cdC
theorem cds_flat (l : List Cd) : (cds l).flatten = cdcells l := by simp [cds, cdcells, List.flatMap]
def cndV (c : Cd) (f : Fl) (v : Int) : Bool := if c.above = true then decide (v ≥ c.lim * f.den) else decide (v ≤ c.lim * f.den)

section
variable (l : Lay) (frs : List (List Int)) (c : Cd) (f : Fl)
def hAt : Nat → Nat → Bool
  | 0, _ => false
  | k + 1, j => match smp l f (frm frs k) with
    | some v => if k ≤ j ∧ (j : Int) < k + f.every then cndV c f v else hAt k j
    | none => hAt k j
def lookR (j : Nat) : Nat → Bool
  | 0 => false
  | k + 1 => if (k : Int) ≤ j - f.every then false else match smp l f (frm frs k) with
    | some v => cndV c f v
    | none => lookR j k
variable {l frs c f}
theorem lookR_far {j : Nat} : ∀ {k : Nat}, (k : Int) ≤ j - f.every + 1 → lookR l frs c f j k = false
  | 0, _ => rfl
  | k + 1, h => by unfold lookR; rw [if_pos (by omega)]
theorem hAt_look (hev : 1 ≤ f.every) {j : Nat} : ∀ {k : Nat}, k ≤ j + 1 → hAt l frs c f k j = lookR l frs c f j k
  | 0, _ => rfl
  | k + 1, h => by
    have ih := hAt_look hev (j := j) (k := k) (by omega)
    unfold hAt lookR
    by_cases hk : (k : Int) ≤ j - f.every
    · rw [if_pos hk]
      have h1 : ¬ (k ≤ j ∧ (j : Int) < k + f.every) := by omega
      have h2 : hAt l frs c f k j = false := by rw [ih]; exact lookR_far (by omega)
      cases smp l f (frm frs k) with
      | some v => simp only [if_neg h1]; exact h2
      | none => exact h2
    · rw [if_neg hk]
      have h1 : k ≤ j ∧ (j : Int) < k + f.every := by omega
      cases smp l f (frm frs k) with
      | some v => simp only [if_pos h1]
      | none => exact ih
theorem hAt_late {j : Nat} : ∀ {k : Nat}, j + 1 ≤ k → hAt l frs c f k j = hAt l frs c f (j + 1) j
  | 0, h => by omega
  | k + 1, h => by
    rcases (by omega : j = k ∨ j + 1 ≤ k) with rfl | h'
    · rfl
    · have ih := hAt_late h'
      rw [← ih]
      rw [hAt]
      have h1 : ¬ (k ≤ j ∧ (j : Int) < k + f.every) := by omega
      cases smp l f (frm frs k) with
      | some v => simp only [if_neg h1]
      | none => rfl
variable (l frs c f)
def holdJ (j : Nat) : Bool := lookR l frs c f j (j + 1)
variable {l frs c f}
theorem hAt_hold (hev : 1 ≤ f.every) {j k : Nat} (h : j < k) : hAt l frs c f k j = holdJ l frs c f j := by
  rw [hAt_late h, hAt_look hev (by omega)]; rfl
variable (l frs c f)
def hL (n k : Nat) : List Bool := (List.range n).map fun j => hAt l frs c f k j
end
theorem hL_len {l : Lay} {frs : List (List Int)} {c : Cd} {f : Fl} (n k : Nat) : (hL l frs c f n k).length = n := by simp [hL]

def bools (l : List Bool) : List (List D) := l.map fun b => [dB b]
def bcl (l : List Bool) : List D := l.map dB
theorem bools_len (l : List Bool) : (bools l).length = l.length := by simp [bools]
theorem bools_all (l : List Bool) : (bools l).all (fun x => x.length == 1) = true := by simp [bools]
theorem bools_one (l : List Bool) : ∀ e ∈ bools l, e.length = 1 := by
  intro e he; obtain ⟨b, _, rfl⟩ := List.mem_map.1 he; rfl
theorem bools_gd (l : List Bool) (k : Nat) (h : k < l.length) : (bools l)[k]? = some [dB (l[k]?.getD false)] := by simp [bools, h]
theorem bools_flat (l : List Bool) : (bools l).flatten = bcl l := by
  induction l with
  | nil => rfl
  | cons x l ih => simp [bools, bcl] at ih ⊢; exact ih
theorem bcl_len (l : List Bool) : (bcl l).length = l.length := by simp [bcl]
theorem bcl_leaf (l : List Bool) : (bcl l).all D.leaf = true := by simp [bcl, D.leaf, dB]
theorem bcl_in (l : List Bool) : ∀ d ∈ bcl l, In (fun _ => False) d := by
  intro d hd; obtain ⟨x, _, rfl⟩ := List.mem_map.1 hd; exact .val _
/-! ### events -/
def fOf (l : Lay) (c : Cd) : Fl := l.fl[c.field.toNat]?.getD fl0
def allK (l : Lay) (frs : List (List Int)) (cs : List Cd) (k j : Nat) : Bool := (cs.take k).all fun c => holdJ l frs c (fOf l c) j
def isJ (l : Lay) (frs : List (List Int)) (cs : List Cd) (j : Nat) : Bool := decide (j < frs.length) && cs.all fun c => holdJ l frs c (fOf l c) j
section
variable (is : Nat → Bool) (H : Int)
def evK : Nat → Int × List (Int × Int)
  | 0 => (0, [])
  | i + 1 => if is i = true then evK i else ((i : Int) + 1, if (i : Int) - (evK i).1 ≥ H then (evK i).2 ++ [((evK i).1, (i : Int) - 1)] else (evK i).2)
theorem evK_bd : ∀ i, 0 ≤ (evK is H i).1 ∧ (evK is H i).1 ≤ i ∧ (evK is H i).2.length ≤ i
  | 0 => by simp [evK]
  | i + 1 => by
    have ih := evK_bd i
    unfold evK
    split
    · omega
    · simp only
      split
      · simp; omega
      · omega
theorem ev_in (i : Nat) (h : is i = true) : (evK is H (i + 1)).2 = (evK is H i).2 := by
  rw [evK, if_pos h]
theorem ev_in1 (i : Nat) (h : is i = true) : (evK is H (i + 1)).1 = (evK is H i).1 := by
  rw [evK, if_pos h]
theorem ev_out1 (i : Nat) (h : is i = false) : (evK is H (i + 1)).1 = (i : Int) + 1 := by
  rw [evK, if_neg (by simp [h])]
theorem ev_out (i : Nat) (h : is i = false) : (evK is H (i + 1)).2 = if (i : Int) - (evK is H i).1 ≥ H then (evK is H i).2 ++ [((evK is H i).1, (i : Int) - 1)] else (evK is H i).2 := by
  rw [evK, if_neg (by simp [h])]
def bgK (i : Nat) : Int := if (evK is H i).1 < i then (evK is H i).1 else -1
theorem bg_in (i : Nat) (h : is i = true) : bgK is H (i + 1) = if bgK is H i < 0 then (i : Int) else bgK is H i := by
  have b := evK_bd is H i
  unfold bgK
  rw [ev_in1 is H i h]
  by_cases h1 : (evK is H i).1 < i
  · rw [if_pos (by omega), if_pos h1, if_neg (by omega)]
  · rw [if_pos (by omega), if_neg h1, if_pos (by omega)]; omega
theorem bg_out (i : Nat) (h : is i = false) : bgK is H (i + 1) = -1 := by
  unfold bgK
  rw [ev_out1 is H i h, if_neg (by omega)]
theorem ev_outB (hH : 1 ≤ H) (i : Nat) (h : is i = false) : (evK is H (i + 1)).2 = if bgK is H i ≥ 0 ∧ (i : Int) - bgK is H i ≥ H then (evK is H i).2 ++ [(bgK is H i, (i : Int) - 1)] else (evK is H i).2 := by
  have b := evK_bd is H i
  rw [ev_out is H i h]
  unfold bgK
  by_cases h1 : (evK is H i).1 < i
  · rw [if_pos h1]
    by_cases h2 : (i : Int) - (evK is H i).1 ≥ H
    · rw [if_pos h2, if_pos ⟨b.1, h2⟩]
    · rw [if_neg h2, if_neg (fun h => h2 h.2)]
  · rw [if_neg h1, if_neg (by omega), if_neg (by omega)]

/-! ### what is found -/
end
end Go.Proofs.Ytdcodicoclecnaa
/- Lists of numbers and truth values in memory. No conditions. -/
namespace Go.Proofs.Ytdcodicoclecnaa
open Go.RowKit Lift

theorem ic_gd (l : List Int) (k : Nat) (h : k < l.length) : (icells l)[k]? = some (.val (.int .i64 (l[k]?.getD 0))) := by simp [icells, h]
theorem ic_t (l : List Int) (k : Nat) (v : Int) (h : k < l.length) : (icells l).take k ++ [.val (.int .i64 v)] ++ (icells l).drop (k + 1) = icells (l.set k v) := by
  unfold icells
  rw [List.map_set, ← List.map_take, ← List.map_drop, List.set_eq_take_append_cons_drop, if_pos (by simpa using h)]
  simp
theorem bc_t (l : List Bool) (k : Nat) (v : Bool) (h : k < l.length) : (bcl l).take k ++ [.val (.bool v)] ++ (bcl l).drop (k + 1) = bcl (l.set k v) := by
  unfold bcl
  rw [List.map_set, ← List.map_take, ← List.map_drop, List.set_eq_take_append_cons_drop, if_pos (by simpa using h)]
  simp [dB]
theorem bc_gd (l : List Bool) (k : Nat) (h : k < l.length) : (bcl l)[k]? = some (.val (.bool (l[k]?.getD false))) := by simp [bcl, dB, h]
theorem rep_ic (n : Nat) : (List.replicate n [D.val (.int .i64 0)]).flatten = icells (List.replicate n 0) := by
  induction n with
  | zero => rfl
  | succ n ih => simp only [List.replicate_succ, List.flatten_cons, ih]; rfl
theorem rep_bc (n : Nat) : (List.replicate n [D.val (.bool false)]).flatten = bcl (List.replicate n false) := by
  induction n with
  | zero => rfl
  | succ n ih => simp only [List.replicate_succ, List.flatten_cons, ih]; rfl
theorem ic_take (l : List Int) (n : Nat) (h : l.length = n) : (icells l).take n = icells l := List.take_of_length_le (by rw [icells_len]; omega)
theorem bc_take (l : List Bool) (n : Nat) (h : l.length = n) : (bcl l).take n = bcl l := List.take_of_length_le (by rw [bcl_len]; omega)
theorem ic_app (l : List Int) (v : Int) : icells l ++ [.val (.int .i64 v)] = icells (l ++ [v]) := by simp [icells]
theorem bc_app (l : List Bool) (v : Bool) : bcl l ++ [.val (.bool v)] = bcl (l ++ [v]) := by simp [bcl, dB]
theorem bc_noY (n : Nat) (l : List Bool) : (bcl l).all (noY n) = true := by
  cases n <;> simp [bcl, dB, noY]
theorem layC_in (l : Lay) : ∀ d ∈ layC l, In (fun _ => False) d := by
  intro d hd; simp [layC] at hd; rcases hd with rfl | rfl | rfl | rfl | rfl | rfl <;> first | exact .val _ | exact .list _
theorem in_layD (S : Nat → Prop) (l : Lay) : In S (layD l) := .agg _ (by intro d hd; simp [layC] at hd; rcases hd with rfl | rfl | rfl | rfl | rfl | rfl <;> first | exact .val _ | exact .list _)
theorem own_ints {H : Heap} {V : List Nat} {g off n : Nat} {c : List D} (L : List Int) (hg : g ∈ V) (hH : H g = some c) (hl : L.length = n) (hoff : off + n ≤ c.length) (hc : (c.drop off).take n = icells L) (hin : ∀ d ∈ c, In (fun _ => False) d) : Vw H V (.own g off n 1) (.list (ints L)) :=
  .own g off n 1 c (ints L) hg hH (by omega) (ints_one L) (by rw [ints_len, hl]) (by rw [Nat.mul_one, hc, ints_flat]) hin
theorem vec_ints {H : Heap} {V : List Nat} {g n : Nat} (L : List Int) (hg : g ∈ V) (hH : H g = some (icells L)) (hl : L.length = n) : Vw H V (.vec g n 1) (.list (ints L)) :=
  .vec g n 1 (icells L) (ints L) hg hH (by rw [icells_len]; omega) (ints_one L) (by rw [ints_len, hl]) (by rw [Nat.mul_one, ic_take L n hl, ints_flat]) (icells_in L)
theorem vec_bools {H : Heap} {V : List Nat} {g n : Nat} (L : List Bool) (hg : g ∈ V) (hH : H g = some (bcl L)) (hl : L.length = n) : Vw H V (.vec g n 1) (.list (bools L)) :=
  .vec g n 1 (bcl L) (bools L) hg hH (by rw [bcl_len]; omega) (bools_one L) (by rw [bools_len, hl]) (by rw [Nat.mul_one, bc_take L n hl, bools_flat]) (bcl_in L)
end Go.Proofs.Ytdcodicoclecnaa
/- record: a valid field. No conditions. -/
namespace Go.Proofs.Ytdcodicoclecnaa
open Go.RowKit Lift

def fokB (w : Int) (f : Fl) : Bool := wI f.word 1 (w - 1) && decide (f.size ≥ 1) && wI f.bit 0 (12 - f.size) && wI f.num (-1000) 1000 && wI f.den 1 1000 && wI f.add (-1000000) 1000000 && decide (0 ≤ idxI [1, 2, 4] f.every) && wI f.phase 0 (f.every - 1)
theorem fok_iff {w : Int} {f : Fl} : fokB w f = true ↔ FOk w f := by
  unfold fokB
  simp only [Bool.and_eq_true, wI, decide_eq_true_eq, idx_mem, List.mem_cons, List.not_mem_nil, or_false]
  constructor
  · rintro ⟨⟨⟨⟨⟨⟨⟨⟨a1, a2⟩, a3⟩, a4, a5⟩, a6, a7⟩, a8, a9⟩, a10, a11⟩, a12⟩, a13, a14⟩
    exact ⟨by omega, by omega, by omega, by omega, by omega, by omega, by omega, by omega, by omega, by omega, by omega, a12, by omega, by omega⟩
  · rintro ⟨a1, a2, a3, a4, a5, a6, a7, a8, a9, a10, a11, a12, a13, a14⟩
    exact ⟨⟨⟨⟨⟨⟨⟨⟨a1, a2⟩, a4⟩, a3, by omega⟩, a6, a7⟩, a8, a9⟩, a10, a11⟩, a12⟩, a13, a14⟩
set_option maxRecDepth 100000 in
set_option maxHeartbeats 4000000 in
theorem valid_ac (w : Int) (f : Fl) (hw : 2 ≤ w ∧ w ≤ 32) (hs : f.size ≤ 9223372036854775807) : AC Try.prog 76 [flD f, dI w] [] [] (dB (fokB w f)) := by
  refine krecord_bits_valid.ac (n0 := 0) (by simp) ⟨in_flD _ _, .val _, trivial⟩ trivial rfl ?_
  unfold crecord_bits_valid flD flC
  have vw : Vw (hget [(0, [D.val (.int .i64 f.word), .val (.int .i64 f.bit), .val (.int .i64 f.size), .val (.bool f.sgn), .val (.int .i64 f.num), .val (.int .i64 f.den), .val (.int .i64 f.add), .val (.int .i64 f.every), .val (.int .i64 f.phase)]), (344, [.val (.int .i64 1), .val (.int .i64 2), .val (.int .i64 4)])]) [344] (.vec 344 3 1) (.list (ints [1, 2, 4])) := vec_ints [1, 2, 4] (by simp) rfl rfl
  cases h1 : wI f.word 1 (w - 1) with
  | false =>
    have e : fokB w f = false := by simp [fokB, h1]
    rw [e]
    (repeat' (first | (with_reducible first | refine thenQ_n ?_ | refine blockQ_n ?_ | refine thenQ_e ?_ | refine blockQ_t ?_ | refine blockQ_f (by decide) ?_) | apply aw_seq | apply aw_skip | apply aw_exit | apply aw_ret | apply aw_block | apply aw_condT rfl | apply aw_condF rfl | ((first | refine aw_hide fun K hK => aw_region ?_ | refine acall0 (within_ac _ _ _) ?_ | refine ago_if (by omega) ?_ | skip); simp (disch := first | exact okY | omega) only [List.length, Nat.zero_add, Nat.reduceAdd, Nat.reduceMul, envOf, dI, dB, ARun_none, AOpRun, aexec, D.isBot, FSt.ev, St.F, ↓eget_h, Bool.false_eq_true, Option.isSome, hget_n, or_self, ↓reduceIte, D.cells, AGo_ok, St.app, putO, eput_c, Nat.reduceBEq, eput_n, cond_false, hups, hput_n, List.map, ARun_nil, dropE_c, inL_n, dropE_n, Int.reduceNeg, eget_c, Option.map, run1, hget_c, beq_self_eq_true, cond_true, List.getElem?_cons_zero, isSh, abin, fits, h1, ARun_some, AG_ft, inL_c]) | subst hK))
    all_goals (refine end_q [] [] ?_ ?_ <;> repeat' (first | exact trivial | exact vr_val _))
  | true =>
  cases h2 : decide (f.size ≥ 1) with
  | false =>
    have e : fokB w f = false := by simp only [fokB, h2, Bool.and_false, Bool.false_and]
    rw [e]
    (repeat' (first | (with_reducible first | refine thenQ_n ?_ | refine blockQ_n ?_ | refine thenQ_e ?_ | refine blockQ_t ?_ | refine blockQ_f (by decide) ?_) | apply aw_seq | apply aw_skip | apply aw_exit | apply aw_ret | apply aw_block | apply aw_condT rfl | apply aw_condF rfl | ((first | refine aw_hide fun K hK => aw_region ?_ | refine acall0 (within_ac _ _ _) ?_ | refine ago_if (by omega) ?_ | skip); simp (disch := first | exact okY | omega) only [List.length, Nat.zero_add, Nat.reduceAdd, Nat.reduceMul, envOf, dI, dB, ARun_none, AOpRun, aexec, D.isBot, FSt.ev, St.F, ↓eget_h, Bool.false_eq_true, Option.isSome, hget_n, or_self, ↓reduceIte, D.cells, AGo_ok, St.app, putO, eput_c, Nat.reduceBEq, eput_n, cond_false, hups, hput_n, List.map, ARun_nil, dropE_c, inL_n, dropE_n, Int.reduceNeg, eget_c, Option.map, run1, hget_c, beq_self_eq_true, cond_true, List.getElem?_cons_zero, isSh, abin, fits, h1, ARun_some, AG_tt, List.getElem?_cons_succ, h2, AG_ft, inL_c]) | subst hK))
    all_goals (refine end_q [] [] ?_ ?_ <;> repeat' (first | exact trivial | exact vr_val _))
  | true =>
  have k2 := of_decide_eq_true h2
  cases h3 : wI f.bit 0 (12 - f.size) with
  | false =>
    have e : fokB w f = false := by simp only [fokB, h3, Bool.and_false, Bool.false_and]
    rw [e]
    (repeat' (first | (with_reducible first | refine thenQ_n ?_ | refine blockQ_n ?_ | refine thenQ_e ?_ | refine blockQ_t ?_ | refine blockQ_f (by decide) ?_) | apply aw_seq | apply aw_skip | apply aw_exit | apply aw_ret | apply aw_block | apply aw_condT rfl | apply aw_condF rfl | ((first | refine aw_hide fun K hK => aw_region ?_ | refine acall0 (within_ac _ _ _) ?_ | refine ago_if (by omega) ?_ | skip); simp (disch := first | exact okY | omega) only [List.length, Nat.zero_add, Nat.reduceAdd, Nat.reduceMul, envOf, dI, dB, ARun_none, AOpRun, aexec, D.isBot, FSt.ev, St.F, ↓eget_h, Bool.false_eq_true, Option.isSome, hget_n, or_self, ↓reduceIte, D.cells, AGo_ok, St.app, putO, eput_c, Nat.reduceBEq, eput_n, cond_false, hups, hput_n, List.map, ARun_nil, dropE_c, inL_n, dropE_n, Int.reduceNeg, eget_c, Option.map, run1, hget_c, beq_self_eq_true, cond_true, List.getElem?_cons_zero, isSh, abin, fits, h1, ARun_some, AG_tt, List.getElem?_cons_succ, h2, h3, AG_ft, inL_c]) | subst hK))
    all_goals (refine end_q [] [] ?_ ?_ <;> repeat' (first | exact trivial | exact vr_val _))
  | true =>
  cases h4 : wI f.num (-1000) 1000 with
  | false =>
    have e : fokB w f = false := by simp only [fokB, h4, Bool.and_false, Bool.false_and]
    rw [e]
    (repeat' (first | (with_reducible first | refine thenQ_n ?_ | refine blockQ_n ?_ | refine thenQ_e ?_ | refine blockQ_t ?_ | refine blockQ_f (by decide) ?_) | apply aw_seq | apply aw_skip | apply aw_exit | apply aw_ret | apply aw_block | apply aw_condT rfl | apply aw_condF rfl | ((first | refine aw_hide fun K hK => aw_region ?_ | refine acall0 (within_ac _ _ _) ?_ | refine ago_if (by omega) ?_ | skip); simp (disch := first | exact okY | omega) only [List.length, Nat.zero_add, Nat.reduceAdd, Nat.reduceMul, envOf, dI, dB, ARun_none, AOpRun, aexec, D.isBot, FSt.ev, St.F, ↓eget_h, Bool.false_eq_true, Option.isSome, hget_n, or_self, ↓reduceIte, D.cells, AGo_ok, St.app, putO, eput_c, Nat.reduceBEq, eput_n, cond_false, hups, hput_n, List.map, ARun_nil, dropE_c, inL_n, dropE_n, Int.reduceNeg, eget_c, Option.map, run1, hget_c, beq_self_eq_true, cond_true, List.getElem?_cons_zero, isSh, abin, fits, h1, ARun_some, AG_tt, List.getElem?_cons_succ, h2, h3, h4, AG_ft, inL_c]) | subst hK))
    all_goals (refine end_q [] [] ?_ ?_ <;> repeat' (first | exact trivial | exact vr_val _))
  | true =>
  cases h5 : wI f.den 1 1000 with
  | false =>
    have e : fokB w f = false := by simp only [fokB, h5, Bool.and_false, Bool.false_and]
    rw [e]
    (repeat' (first | (with_reducible first | refine thenQ_n ?_ | refine blockQ_n ?_ | refine thenQ_e ?_ | refine blockQ_t ?_ | refine blockQ_f (by decide) ?_) | apply aw_seq | apply aw_skip | apply aw_exit | apply aw_ret | apply aw_block | apply aw_condT rfl | apply aw_condF rfl | ((first | refine aw_hide fun K hK => aw_region ?_ | refine acall0 (within_ac _ _ _) ?_ | refine ago_if (by omega) ?_ | skip); simp (disch := first | exact okY | omega) only [List.length, Nat.zero_add, Nat.reduceAdd, Nat.reduceMul, envOf, dI, dB, ARun_none, AOpRun, aexec, D.isBot, FSt.ev, St.F, ↓eget_h, Bool.false_eq_true, Option.isSome, hget_n, or_self, ↓reduceIte, D.cells, AGo_ok, St.app, putO, eput_c, Nat.reduceBEq, eput_n, cond_false, hups, hput_n, List.map, ARun_nil, dropE_c, inL_n, dropE_n, Int.reduceNeg, eget_c, Option.map, run1, hget_c, beq_self_eq_true, cond_true, List.getElem?_cons_zero, isSh, abin, fits, h1, ARun_some, AG_tt, List.getElem?_cons_succ, h2, h3, h4, h5, AG_ft, inL_c]) | subst hK))
    all_goals (refine end_q [] [] ?_ ?_ <;> repeat' (first | exact trivial | exact vr_val _))
  | true =>
  cases h6 : wI f.add (-1000000) 1000000 with
  | false =>
    have e : fokB w f = false := by simp only [fokB, h6, Bool.and_false, Bool.false_and]
    rw [e]
    (repeat' (first | (with_reducible first | refine thenQ_n ?_ | refine blockQ_n ?_ | refine thenQ_e ?_ | refine blockQ_t ?_ | refine blockQ_f (by decide) ?_) | apply aw_seq | apply aw_skip | apply aw_exit | apply aw_ret | apply aw_block | apply aw_condT rfl | apply aw_condF rfl | ((first | refine aw_hide fun K hK => aw_region ?_ | refine acall0 (within_ac _ _ _) ?_ | refine ago_if (by omega) ?_ | skip); simp (disch := first | exact okY | omega) only [List.length, Nat.zero_add, Nat.reduceAdd, Nat.reduceMul, envOf, dI, dB, ARun_none, AOpRun, aexec, D.isBot, FSt.ev, St.F, ↓eget_h, Bool.false_eq_true, Option.isSome, hget_n, or_self, ↓reduceIte, D.cells, AGo_ok, St.app, putO, eput_c, Nat.reduceBEq, eput_n, cond_false, hups, hput_n, List.map, ARun_nil, dropE_c, inL_n, dropE_n, Int.reduceNeg, eget_c, Option.map, run1, hget_c, beq_self_eq_true, cond_true, List.getElem?_cons_zero, isSh, abin, fits, h1, ARun_some, AG_tt, List.getElem?_cons_succ, h2, h3, h4, h5, h6, AG_ft, inL_c]) | subst hK))
    all_goals (refine end_q [] [] ?_ ?_ <;> repeat' (first | exact trivial | exact vr_val _))
  | true =>
  cases h7 : decide (0 ≤ idxI [1, 2, 4] f.every) with
  | false =>
    have e : fokB w f = false := by simp only [fokB, h7, Bool.and_false, Bool.false_and]
    rw [e]
    (repeat' (first | (with_reducible first | refine thenQ_n ?_ | refine blockQ_n ?_ | refine thenQ_e ?_ | refine blockQ_t ?_ | refine blockQ_f (by decide) ?_) | apply aw_seq | apply aw_skip | apply aw_exit | apply aw_ret | apply aw_block | apply aw_condT rfl | apply aw_condF rfl | ((first | refine aw_hide fun K hK => aw_region ?_ | refine acall0 (within_ac _ _ _) ?_ | refine acall (contains_ac [1, 2, 4] f.every (by decide)) [344] ⟨vw, .refl _, trivial⟩ (.inr (.val _)) (by simp only [List.mem_cons, List.not_mem_nil, or_false, forall_eq_or_imp, forall_eq]; first | exact ⟨_, rfl⟩ | exact ⟨⟨_, rfl⟩, ⟨_, rfl⟩⟩) (by kernel_rfl) ?_ | refine ago_if (by omega) ?_ | skip); simp (disch := first | exact okY | omega) only [List.length, Nat.zero_add, Nat.reduceAdd, Nat.reduceMul, envOf, dI, dB, ARun_none, AOpRun, aexec, D.isBot, FSt.ev, St.F, ↓eget_h, Bool.false_eq_true, Option.isSome, hget_n, or_self, ↓reduceIte, D.cells, AGo_ok, St.app, putO, eput_c, Nat.reduceBEq, eput_n, cond_false, hups, hput_n, List.map, ARun_nil, dropE_c, inL_n, dropE_n, Int.reduceNeg, eget_c, Option.map, run1, hget_c, beq_self_eq_true, cond_true, List.getElem?_cons_zero, isSh, abin, fits, h1, ARun_some, AG_tt, List.getElem?_cons_succ, h2, h3, h4, h5, h6, fillD, ne_eq, not_true_eq_false, Nat.reduceGT, splice, List.take, List.nil_append, List.drop, List.cons_append, List.append_nil, hput_c, h7, AG_ft, inL_c]) | subst hK))
    all_goals (refine end_q [] [] ?_ ?_ <;> repeat' (first | exact trivial | exact vr_val _))
  | true =>
  have k7 : f.every = 1 ∨ f.every = 2 ∨ f.every = 4 := by
    have := idx_mem.1 (of_decide_eq_true h7)
    simpa using this
  have e : fokB w f = wI f.phase 0 (f.every - 1) := by simp only [fokB, h1, h2, h3, h4, h5, h6, h7, Bool.true_and]
  rw [e]
  (repeat' (first | (with_reducible first | refine thenQ_n ?_ | refine blockQ_n ?_ | refine thenQ_e ?_ | refine blockQ_t ?_ | refine blockQ_f (by decide) ?_) | apply aw_seq | apply aw_skip | apply aw_exit | apply aw_ret | apply aw_block | apply aw_condT rfl | apply aw_condF rfl | ((first | refine aw_hide fun K hK => aw_region ?_ | refine acall0 (within_ac _ _ _) ?_ | refine acall (contains_ac [1, 2, 4] f.every (by decide)) [344] ⟨vw, .refl _, trivial⟩ (.inr (.val _)) (by simp only [List.mem_cons, List.not_mem_nil, or_false, forall_eq_or_imp, forall_eq]; first | exact ⟨_, rfl⟩ | exact ⟨⟨_, rfl⟩, ⟨_, rfl⟩⟩) (by kernel_rfl) ?_ | refine ago_if (by omega) ?_ | skip); simp (disch := first | exact okY | omega) only [List.length, Nat.zero_add, Nat.reduceAdd, Nat.reduceMul, envOf, dI, dB, ARun_none, AOpRun, aexec, D.isBot, FSt.ev, St.F, ↓eget_h, Bool.false_eq_true, Option.isSome, hget_n, or_self, ↓reduceIte, D.cells, AGo_ok, St.app, putO, eput_c, Nat.reduceBEq, eput_n, cond_false, hups, hput_n, List.map, ARun_nil, dropE_c, inL_n, dropE_n, Int.reduceNeg, eget_c, Option.map, run1, hget_c, beq_self_eq_true, cond_true, List.getElem?_cons_zero, isSh, abin, fits, h1, ARun_some, AG_tt, List.getElem?_cons_succ, h2, h3, h4, h5, h6, fillD, ne_eq, not_true_eq_false, Nat.reduceGT, splice, List.take, List.nil_append, List.drop, List.cons_append, List.append_nil, hput_c, h7, inL_c]) | subst hK))
  all_goals (refine end_q [] [] ?_ ?_ <;> repeat' (first | exact trivial | exact vr_val _))
end Go.Proofs.Ytdcodicoclecnaa
