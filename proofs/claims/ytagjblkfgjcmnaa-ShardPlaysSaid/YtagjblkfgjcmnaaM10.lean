/-
  Parts of the proof: Ty. Conditions: none.
-/
import Derived.Test.YtagjblkfgjcmnaaProg
import Derived.Test.YtagjblkfgjcmnaaM9
set_option linter.unusedVariables false
set_option linter.unusedSimpArgs false
set_option linter.unusedSectionVars false
namespace Go.Proofs.Ytagjblkfgjcmnaa
open Go.Sx

theorem tsz2 : tsz Try.prog 2 = some 1 := by kernel_rfl
theorem tagg2 : tagg Try.prog 2 = some false := by kernel_rfl
theorem tarr2 : tarr Try.prog 2 = none := by kernel_rfl
theorem tkind2 : tkind Try.prog 2 = some .oth := by kernel_rfl
theorem tpl2 : tplaces Try.prog 2 = none := by kernel_rfl
theorem tz2 : tzero Try.prog 2 = some [.int .i64 0] := by kernel_rfl
theorem tint2 : tint Try.prog 2 = some (some .i64) := by kernel_rfl
theorem tsz3 : tsz Try.prog 3 = some 1 := by kernel_rfl
theorem tagg3 : tagg Try.prog 3 = some false := by kernel_rfl
theorem tarr3 : tarr Try.prog 3 = none := by kernel_rfl
theorem tkind3 : tkind Try.prog 3 = some .oth := by kernel_rfl
theorem tpl3 : tplaces Try.prog 3 = none := by kernel_rfl
theorem tz3 : tzero Try.prog 3 = some [.int .i64 0] := by kernel_rfl
theorem tby3 : tby Try.prog 3 = some 8 := by kernel_rfl
theorem tint3 : tint Try.prog 3 = some (some .i64) := by kernel_rfl
theorem tsz4 : tsz Try.prog 4 = some 1 := by kernel_rfl
theorem tagg4 : tagg Try.prog 4 = some false := by kernel_rfl
theorem tarr4 : tarr Try.prog 4 = none := by kernel_rfl
theorem tkind4 : tkind Try.prog 4 = some .oth := by kernel_rfl
theorem tpl4 : tplaces Try.prog 4 = none := by kernel_rfl
theorem tz4 : tzero Try.prog 4 = some [.bool false] := by kernel_rfl
theorem tbool4 : tbool Try.prog 4 = some true := by kernel_rfl
theorem tsz5 : tsz Try.prog 5 = some 1 := by kernel_rfl
theorem tagg5 : tagg Try.prog 5 = some false := by kernel_rfl
theorem tarr5 : tarr Try.prog 5 = none := by kernel_rfl
theorem tkind5 : tkind Try.prog 5 = some .oth := by kernel_rfl
theorem tpl5 : tplaces Try.prog 5 = none := by kernel_rfl
theorem tz5 : tzero Try.prog 5 = some [.int .u8 0] := by kernel_rfl
theorem tby5 : tby Try.prog 5 = some 1 := by kernel_rfl
theorem tint5 : tint Try.prog 5 = some (some .u8) := by kernel_rfl
theorem tsz6 : tsz Try.prog 6 = some 1 := by kernel_rfl
theorem tagg6 : tagg Try.prog 6 = some false := by kernel_rfl
theorem tarr6 : tarr Try.prog 6 = none := by kernel_rfl
theorem tkind6 : tkind Try.prog 6 = some .oth := by kernel_rfl
theorem tpl6 : tplaces Try.prog 6 = none := by kernel_rfl
theorem tz6 : tzero Try.prog 6 = some [.int .u8 0] := by kernel_rfl
theorem tint6 : tint Try.prog 6 = some (some .u8) := by kernel_rfl
theorem tsz7 : tsz Try.prog 7 = some 4 := by kernel_rfl
theorem tagg7 : tagg Try.prog 7 = some true := by kernel_rfl
theorem tarr7 : tarr Try.prog 7 = none := by kernel_rfl
theorem tkind7 : tkind Try.prog 7 = some .oth := by kernel_rfl
theorem tfld7x0 : tfld Try.prog 7 0 = some (0, 2) := by kernel_rfl
theorem tfld7x1 : tfld Try.prog 7 1 = some (1, 3) := by kernel_rfl
theorem tfld7x2 : tfld Try.prog 7 2 = some (2, 4) := by kernel_rfl
theorem tfld7x3 : tfld Try.prog 7 3 = some (3, 6) := by kernel_rfl
theorem tpl7 : tplaces Try.prog 7 = some [(0, 1), (1, 1), (2, 1), (3, 1)] := by kernel_rfl
theorem tz7 : tzero Try.prog 7 = some [.int .i64 0, .int .i64 0, .bool false, .int .u8 0] := by kernel_rfl
theorem tsz8 : tsz Try.prog 8 = some 4 := by kernel_rfl
theorem tagg8 : tagg Try.prog 8 = some true := by kernel_rfl
theorem tarr8 : tarr Try.prog 8 = none := by kernel_rfl
theorem tkind8 : tkind Try.prog 8 = some .oth := by kernel_rfl
theorem tfld8x0 : tfld Try.prog 8 0 = some (0, 2) := by kernel_rfl
theorem tfld8x1 : tfld Try.prog 8 1 = some (1, 3) := by kernel_rfl
theorem tfld8x2 : tfld Try.prog 8 2 = some (2, 4) := by kernel_rfl
theorem tfld8x3 : tfld Try.prog 8 3 = some (3, 6) := by kernel_rfl
theorem tpl8 : tplaces Try.prog 8 = some [(0, 1), (1, 1), (2, 1), (3, 1)] := by kernel_rfl
theorem tz8 : tzero Try.prog 8 = some [.int .i64 0, .int .i64 0, .bool false, .int .u8 0] := by kernel_rfl
theorem tsz9 : tsz Try.prog 9 = some 1 := by kernel_rfl
theorem tagg9 : tagg Try.prog 9 = some false := by kernel_rfl
theorem tarr9 : tarr Try.prog 9 = none := by kernel_rfl
theorem tkind9 : tkind Try.prog 9 = some .str := by kernel_rfl
theorem tpl9 : tplaces Try.prog 9 = none := by kernel_rfl
theorem tz9 : tzero Try.prog 9 = some [.string ByteArray.empty] := by kernel_rfl
theorem tsz10 : tsz Try.prog 10 = some 1 := by kernel_rfl
theorem tagg10 : tagg Try.prog 10 = some false := by kernel_rfl
theorem tarr10 : tarr Try.prog 10 = none := by kernel_rfl
theorem tkind10 : tkind Try.prog 10 = some .str := by kernel_rfl
theorem tpl10 : tplaces Try.prog 10 = none := by kernel_rfl
theorem tz10 : tzero Try.prog 10 = some [.string ByteArray.empty] := by kernel_rfl
theorem tsz11 : tsz Try.prog 11 = some 1 := by kernel_rfl
theorem tagg11 : tagg Try.prog 11 = some false := by kernel_rfl
theorem tarr11 : tarr Try.prog 11 = none := by kernel_rfl
theorem tkind11 : tkind Try.prog 11 = some .str := by kernel_rfl
theorem tpl11 : tplaces Try.prog 11 = none := by kernel_rfl
theorem tz11 : tzero Try.prog 11 = some [.string ByteArray.empty] := by kernel_rfl
theorem tsz12 : tsz Try.prog 12 = some 1 := by kernel_rfl
theorem tagg12 : tagg Try.prog 12 = some false := by kernel_rfl
theorem tarr12 : tarr Try.prog 12 = none := by kernel_rfl
theorem tkind12 : tkind Try.prog 12 = some .oth := by kernel_rfl
theorem tpl12 : tplaces Try.prog 12 = none := by kernel_rfl
theorem tz12 : tzero Try.prog 12 = some [.int .u64 0] := by kernel_rfl
theorem tint12 : tint Try.prog 12 = some (some .u64) := by kernel_rfl
theorem tsz13 : tsz Try.prog 13 = some 2 := by kernel_rfl
theorem tagg13 : tagg Try.prog 13 = some true := by kernel_rfl
theorem tarr13 : tarr Try.prog 13 = none := by kernel_rfl
theorem tkind13 : tkind Try.prog 13 = some .oth := by kernel_rfl
theorem tfld13x0 : tfld Try.prog 13 0 = some (0, 9) := by kernel_rfl
theorem tfld13x1 : tfld Try.prog 13 1 = some (1, 12) := by kernel_rfl
theorem tpl13 : tplaces Try.prog 13 = some [(0, 1), (1, 1)] := by kernel_rfl
theorem tz13 : tzero Try.prog 13 = some [.string ByteArray.empty, .int .u64 0] := by kernel_rfl
theorem tsz14 : tsz Try.prog 14 = some 2 := by kernel_rfl
theorem tagg14 : tagg Try.prog 14 = some true := by kernel_rfl
theorem tarr14 : tarr Try.prog 14 = none := by kernel_rfl
theorem tkind14 : tkind Try.prog 14 = some .oth := by kernel_rfl
theorem tfld14x0 : tfld Try.prog 14 0 = some (0, 9) := by kernel_rfl
theorem tfld14x1 : tfld Try.prog 14 1 = some (1, 12) := by kernel_rfl
theorem tpl14 : tplaces Try.prog 14 = some [(0, 1), (1, 1)] := by kernel_rfl
theorem tz14 : tzero Try.prog 14 = some [.string ByteArray.empty, .int .u64 0] := by kernel_rfl
theorem tsz15 : tsz Try.prog 15 = some 1 := by kernel_rfl
theorem tagg15 : tagg Try.prog 15 = some false := by kernel_rfl
theorem tarr15 : tarr Try.prog 15 = none := by kernel_rfl
theorem tkind15 : tkind Try.prog 15 = some .oth := by kernel_rfl
theorem tpl15 : tplaces Try.prog 15 = none := by kernel_rfl
theorem tz15 : tzero Try.prog 15 = some [.pointer none] := by kernel_rfl
theorem tptr15 : tptr Try.prog 15 = some true := by kernel_rfl
theorem tsz16 : tsz Try.prog 16 = some 1 := by kernel_rfl
theorem tagg16 : tagg Try.prog 16 = some false := by kernel_rfl
theorem tarr16 : tarr Try.prog 16 = none := by kernel_rfl
theorem tkind16 : tkind Try.prog 16 = some .oth := by kernel_rfl
theorem tpl16 : tplaces Try.prog 16 = none := by kernel_rfl
theorem tz16 : tzero Try.prog 16 = some [.pointer none] := by kernel_rfl
theorem tptr16 : tptr Try.prog 16 = some true := by kernel_rfl
theorem tsz17 : tsz Try.prog 17 = some 1 := by kernel_rfl
theorem tagg17 : tagg Try.prog 17 = some false := by kernel_rfl
theorem tarr17 : tarr Try.prog 17 = none := by kernel_rfl
theorem tkind17 : tkind Try.prog 17 = some .oth := by kernel_rfl
theorem tpl17 : tplaces Try.prog 17 = none := by kernel_rfl
theorem tz17 : tzero Try.prog 17 = some [.pointer none] := by kernel_rfl
theorem tptr17 : tptr Try.prog 17 = some true := by kernel_rfl
theorem tsz18 : tsz Try.prog 18 = some 1 := by kernel_rfl
theorem tagg18 : tagg Try.prog 18 = some true := by kernel_rfl
theorem tarr18 : tarr Try.prog 18 = none := by kernel_rfl
theorem tkind18 : tkind Try.prog 18 = some .oth := by kernel_rfl
theorem tfld18x0 : tfld Try.prog 18 0 = some (0, 17) := by kernel_rfl
theorem tpl18 : tplaces Try.prog 18 = some [(0, 1)] := by kernel_rfl
theorem tz18 : tzero Try.prog 18 = some [.pointer none] := by kernel_rfl
theorem tsz19 : tsz Try.prog 19 = some 1 := by kernel_rfl
theorem tagg19 : tagg Try.prog 19 = some true := by kernel_rfl
theorem tarr19 : tarr Try.prog 19 = none := by kernel_rfl
theorem tkind19 : tkind Try.prog 19 = some .oth := by kernel_rfl
theorem tfld19x0 : tfld Try.prog 19 0 = some (0, 17) := by kernel_rfl
theorem tpl19 : tplaces Try.prog 19 = some [(0, 1)] := by kernel_rfl
theorem tz19 : tzero Try.prog 19 = some [.pointer none] := by kernel_rfl
theorem tsz20 : tsz Try.prog 20 = some 1 := by kernel_rfl
theorem tagg20 : tagg Try.prog 20 = some false := by kernel_rfl
theorem tarr20 : tarr Try.prog 20 = none := by kernel_rfl
theorem tkind20 : tkind Try.prog 20 = some .oth := by kernel_rfl
theorem tpl20 : tplaces Try.prog 20 = none := by kernel_rfl
theorem tz20 : tzero Try.prog 20 = some [.nilIface] := by kernel_rfl
theorem tsz21 : tsz Try.prog 21 = some 1 := by kernel_rfl
theorem tagg21 : tagg Try.prog 21 = some false := by kernel_rfl
theorem tarr21 : tarr Try.prog 21 = none := by kernel_rfl
theorem tkind21 : tkind Try.prog 21 = some .oth := by kernel_rfl
theorem tpl21 : tplaces Try.prog 21 = none := by kernel_rfl
theorem tz21 : tzero Try.prog 21 = some [.int .i32 0] := by kernel_rfl
theorem tint21 : tint Try.prog 21 = some (some .i32) := by kernel_rfl
theorem tsz22 : tsz Try.prog 22 = some 1 := by kernel_rfl
theorem tagg22 : tagg Try.prog 22 = some false := by kernel_rfl
theorem tarr22 : tarr Try.prog 22 = none := by kernel_rfl
theorem tkind22 : tkind Try.prog 22 = some (.slc 48) := by kernel_rfl
theorem tpl22 : tplaces Try.prog 22 = none := by kernel_rfl
theorem tz22 : tzero Try.prog 22 = some [.slice none 0 0] := by kernel_rfl
theorem tslc22 : tslc Try.prog 22 = some true := by kernel_rfl
theorem tsz24 : tsz Try.prog 24 = some 1 := by kernel_rfl
theorem tagg24 : tagg Try.prog 24 = some false := by kernel_rfl
theorem tarr24 : tarr Try.prog 24 = none := by kernel_rfl
theorem tkind24 : tkind Try.prog 24 = some .oth := by kernel_rfl
theorem tpl24 : tplaces Try.prog 24 = none := by kernel_rfl
theorem tz24 : tzero Try.prog 24 = some [.int .u64 0] := by kernel_rfl
theorem tint24 : tint Try.prog 24 = some (some .u64) := by kernel_rfl
theorem tsz25 : tsz Try.prog 25 = some 1 := by kernel_rfl
theorem tagg25 : tagg Try.prog 25 = some false := by kernel_rfl
theorem tarr25 : tarr Try.prog 25 = none := by kernel_rfl
theorem tkind25 : tkind Try.prog 25 = some .oth := by kernel_rfl
theorem tpl25 : tplaces Try.prog 25 = none := by kernel_rfl
theorem tz25 : tzero Try.prog 25 = some [.pointer none] := by kernel_rfl
theorem tptr25 : tptr Try.prog 25 = some true := by kernel_rfl
theorem tsz26 : tsz Try.prog 26 = some 1 := by kernel_rfl
theorem tagg26 : tagg Try.prog 26 = some false := by kernel_rfl
theorem tarr26 : tarr Try.prog 26 = none := by kernel_rfl
theorem tkind26 : tkind Try.prog 26 = some .oth := by kernel_rfl
theorem tpl26 : tplaces Try.prog 26 = none := by kernel_rfl
theorem tz26 : tzero Try.prog 26 = some [.int .i64 0] := by kernel_rfl
theorem tint26 : tint Try.prog 26 = some (some .i64) := by kernel_rfl
theorem tsz29 : tsz Try.prog 29 = some 1 := by kernel_rfl
theorem tagg29 : tagg Try.prog 29 = some false := by kernel_rfl
theorem tarr29 : tarr Try.prog 29 = none := by kernel_rfl
theorem tkind29 : tkind Try.prog 29 = some .oth := by kernel_rfl
theorem tpl29 : tplaces Try.prog 29 = none := by kernel_rfl
theorem tz29 : tzero Try.prog 29 = some [.pointer none] := by kernel_rfl
theorem tptr29 : tptr Try.prog 29 = some true := by kernel_rfl
theorem tsz31 : tsz Try.prog 31 = some 1 := by kernel_rfl
theorem tagg31 : tagg Try.prog 31 = some false := by kernel_rfl
theorem tarr31 : tarr Try.prog 31 = none := by kernel_rfl
theorem tkind31 : tkind Try.prog 31 = some .oth := by kernel_rfl
theorem tpl31 : tplaces Try.prog 31 = none := by kernel_rfl
theorem tz31 : tzero Try.prog 31 = some [.int .u64 0] := by kernel_rfl
theorem tby31 : tby Try.prog 31 = some 8 := by kernel_rfl
theorem tint31 : tint Try.prog 31 = some (some .u64) := by kernel_rfl
theorem tsz32 : tsz Try.prog 32 = some 4 := by kernel_rfl
theorem tagg32 : tagg Try.prog 32 = some true := by kernel_rfl
theorem tarr32 : tarr Try.prog 32 = none := by kernel_rfl
theorem tkind32 : tkind Try.prog 32 = some (.arr 4 31) := by kernel_rfl
theorem tpl32 : tplaces Try.prog 32 = none := by kernel_rfl
theorem tz32 : tzero Try.prog 32 = some [.int .u64 0, .int .u64 0, .int .u64 0, .int .u64 0] := by kernel_rfl
theorem tsz33 : tsz Try.prog 33 = some 4 := by kernel_rfl
theorem tagg33 : tagg Try.prog 33 = some true := by kernel_rfl
theorem tarr33 : tarr Try.prog 33 = none := by kernel_rfl
theorem tkind33 : tkind Try.prog 33 = some (.arr 4 31) := by kernel_rfl
theorem tpl33 : tplaces Try.prog 33 = none := by kernel_rfl
theorem tz33 : tzero Try.prog 33 = some [.int .u64 0, .int .u64 0, .int .u64 0, .int .u64 0] := by kernel_rfl
theorem tleaf33 : tleaf Try.prog 33 = some [.i, .i, .i, .i] := by kernel_rfl
theorem tsz34 : tsz Try.prog 34 = some 5 := by kernel_rfl
theorem tagg34 : tagg Try.prog 34 = some true := by kernel_rfl
theorem tarr34 : tarr Try.prog 34 = none := by kernel_rfl
theorem tkind34 : tkind Try.prog 34 = some .oth := by kernel_rfl
theorem tfld34x0 : tfld Try.prog 34 0 = some (0, 33) := by kernel_rfl
theorem tfld34x1 : tfld Try.prog 34 1 = some (4, 3) := by kernel_rfl
theorem tpl34 : tplaces Try.prog 34 = some [(0, 4), (4, 1)] := by kernel_rfl
theorem tz34 : tzero Try.prog 34 = some [.int .u64 0, .int .u64 0, .int .u64 0, .int .u64 0, .int .i64 0] := by kernel_rfl
theorem tsz35 : tsz Try.prog 35 = some 5 := by kernel_rfl
theorem tagg35 : tagg Try.prog 35 = some true := by kernel_rfl
theorem tarr35 : tarr Try.prog 35 = none := by kernel_rfl
theorem tkind35 : tkind Try.prog 35 = some .oth := by kernel_rfl
theorem tfld35x0 : tfld Try.prog 35 0 = some (0, 33) := by kernel_rfl
theorem tfld35x1 : tfld Try.prog 35 1 = some (4, 3) := by kernel_rfl
theorem tpl35 : tplaces Try.prog 35 = some [(0, 4), (4, 1)] := by kernel_rfl
theorem tz35 : tzero Try.prog 35 = some [.int .u64 0, .int .u64 0, .int .u64 0, .int .u64 0, .int .i64 0] := by kernel_rfl
theorem tleaf35 : tleaf Try.prog 35 = some [.i, .i, .i, .i, .i] := by kernel_rfl
theorem tsz36 : tsz Try.prog 36 = some 6 := by kernel_rfl
theorem tagg36 : tagg Try.prog 36 = some true := by kernel_rfl
theorem tarr36 : tarr Try.prog 36 = none := by kernel_rfl
theorem tkind36 : tkind Try.prog 36 = some .oth := by kernel_rfl
theorem tfld36x0 : tfld Try.prog 36 0 = some (0, 35) := by kernel_rfl
theorem tfld36x1 : tfld Try.prog 36 1 = some (5, 4) := by kernel_rfl
theorem tpl36 : tplaces Try.prog 36 = some [(0, 5), (5, 1)] := by kernel_rfl
theorem tz36 : tzero Try.prog 36 = some [.int .u64 0, .int .u64 0, .int .u64 0, .int .u64 0, .int .i64 0, .bool false] := by kernel_rfl
theorem tsz37 : tsz Try.prog 37 = some 6 := by kernel_rfl
theorem tagg37 : tagg Try.prog 37 = some true := by kernel_rfl
theorem tarr37 : tarr Try.prog 37 = none := by kernel_rfl
theorem tkind37 : tkind Try.prog 37 = some .oth := by kernel_rfl
theorem tfld37x0 : tfld Try.prog 37 0 = some (0, 35) := by kernel_rfl
theorem tfld37x1 : tfld Try.prog 37 1 = some (5, 4) := by kernel_rfl
theorem tpl37 : tplaces Try.prog 37 = some [(0, 5), (5, 1)] := by kernel_rfl
theorem tz37 : tzero Try.prog 37 = some [.int .u64 0, .int .u64 0, .int .u64 0, .int .u64 0, .int .i64 0, .bool false] := by kernel_rfl
theorem tsz38 : tsz Try.prog 38 = some 1 := by kernel_rfl
theorem tagg38 : tagg Try.prog 38 = some false := by kernel_rfl
theorem tarr38 : tarr Try.prog 38 = none := by kernel_rfl
theorem tkind38 : tkind Try.prog 38 = some (.slc 44) := by kernel_rfl
theorem tpl38 : tplaces Try.prog 38 = none := by kernel_rfl
theorem tz38 : tzero Try.prog 38 = some [.slice none 0 0] := by kernel_rfl
theorem tslc38 : tslc Try.prog 38 = some true := by kernel_rfl
theorem tsz39 : tsz Try.prog 39 = some 8 := by kernel_rfl
theorem tagg39 : tagg Try.prog 39 = some true := by kernel_rfl
theorem tarr39 : tarr Try.prog 39 = none := by kernel_rfl
theorem tkind39 : tkind Try.prog 39 = some .oth := by kernel_rfl
theorem tfld39x0 : tfld Try.prog 39 0 = some (0, 37) := by kernel_rfl
theorem tfld39x1 : tfld Try.prog 39 1 = some (6, 38) := by kernel_rfl
theorem tfld39x2 : tfld Try.prog 39 2 = some (7, 4) := by kernel_rfl
theorem tpl39 : tplaces Try.prog 39 = some [(0, 6), (6, 1), (7, 1)] := by kernel_rfl
theorem tz39 : tzero Try.prog 39 = some [.int .u64 0, .int .u64 0, .int .u64 0, .int .u64 0, .int .i64 0, .bool false, .slice none 0 0, .bool false] := by kernel_rfl
theorem tsz40 : tsz Try.prog 40 = some 8 := by kernel_rfl
theorem tagg40 : tagg Try.prog 40 = some true := by kernel_rfl
theorem tarr40 : tarr Try.prog 40 = none := by kernel_rfl
theorem tkind40 : tkind Try.prog 40 = some .oth := by kernel_rfl
theorem tfld40x0 : tfld Try.prog 40 0 = some (0, 37) := by kernel_rfl
theorem tfld40x1 : tfld Try.prog 40 1 = some (6, 38) := by kernel_rfl
theorem tfld40x2 : tfld Try.prog 40 2 = some (7, 4) := by kernel_rfl
theorem tpl40 : tplaces Try.prog 40 = some [(0, 6), (6, 1), (7, 1)] := by kernel_rfl
theorem tz40 : tzero Try.prog 40 = some [.int .u64 0, .int .u64 0, .int .u64 0, .int .u64 0, .int .i64 0, .bool false, .slice none 0 0, .bool false] := by kernel_rfl
theorem tby40 : tby Try.prog 40 = some 80 := by kernel_rfl
theorem tsz41 : tsz Try.prog 41 = some 4 := by kernel_rfl
theorem tagg41 : tagg Try.prog 41 = some true := by kernel_rfl
theorem tarr41 : tarr Try.prog 41 = none := by kernel_rfl
theorem tkind41 : tkind Try.prog 41 = some .oth := by kernel_rfl
theorem tfld41x0 : tfld Try.prog 41 0 = some (0, 9) := by kernel_rfl
theorem tfld41x1 : tfld Try.prog 41 1 = some (1, 9) := by kernel_rfl
theorem tfld41x2 : tfld Try.prog 41 2 = some (2, 9) := by kernel_rfl
theorem tfld41x3 : tfld Try.prog 41 3 = some (3, 4) := by kernel_rfl
theorem tpl41 : tplaces Try.prog 41 = some [(0, 1), (1, 1), (2, 1), (3, 1)] := by kernel_rfl
theorem tz41 : tzero Try.prog 41 = some [.string ByteArray.empty, .string ByteArray.empty, .string ByteArray.empty, .bool false] := by kernel_rfl
theorem tsz42 : tsz Try.prog 42 = some 4 := by kernel_rfl
theorem tagg42 : tagg Try.prog 42 = some true := by kernel_rfl
theorem tarr42 : tarr Try.prog 42 = none := by kernel_rfl
theorem tkind42 : tkind Try.prog 42 = some .oth := by kernel_rfl
theorem tfld42x0 : tfld Try.prog 42 0 = some (0, 9) := by kernel_rfl
theorem tfld42x1 : tfld Try.prog 42 1 = some (1, 9) := by kernel_rfl
theorem tfld42x2 : tfld Try.prog 42 2 = some (2, 9) := by kernel_rfl
theorem tfld42x3 : tfld Try.prog 42 3 = some (3, 4) := by kernel_rfl
theorem tpl42 : tplaces Try.prog 42 = some [(0, 1), (1, 1), (2, 1), (3, 1)] := by kernel_rfl
theorem tz42 : tzero Try.prog 42 = some [.string ByteArray.empty, .string ByteArray.empty, .string ByteArray.empty, .bool false] := by kernel_rfl
theorem tleaf42 : tleaf Try.prog 42 = some [.s, .s, .s, .b] := by kernel_rfl
theorem tby42 : tby Try.prog 42 = some 56 := by kernel_rfl
theorem tsz43 : tsz Try.prog 43 = some 6 := by kernel_rfl
theorem tagg43 : tagg Try.prog 43 = some true := by kernel_rfl
theorem tarr43 : tarr Try.prog 43 = none := by kernel_rfl
theorem tkind43 : tkind Try.prog 43 = some .oth := by kernel_rfl
theorem tfld43x0 : tfld Try.prog 43 0 = some (0, 42) := by kernel_rfl
theorem tfld43x1 : tfld Try.prog 43 1 = some (4, 4) := by kernel_rfl
theorem tfld43x2 : tfld Try.prog 43 2 = some (5, 5) := by kernel_rfl
theorem tpl43 : tplaces Try.prog 43 = some [(0, 4), (4, 1), (5, 1)] := by kernel_rfl
theorem tz43 : tzero Try.prog 43 = some [.string ByteArray.empty, .string ByteArray.empty, .string ByteArray.empty, .bool false, .bool false, .int .u8 0] := by kernel_rfl
theorem tsz44 : tsz Try.prog 44 = some 6 := by kernel_rfl
theorem tagg44 : tagg Try.prog 44 = some true := by kernel_rfl
theorem tarr44 : tarr Try.prog 44 = none := by kernel_rfl
theorem tkind44 : tkind Try.prog 44 = some .oth := by kernel_rfl
theorem tfld44x0 : tfld Try.prog 44 0 = some (0, 42) := by kernel_rfl
theorem tfld44x1 : tfld Try.prog 44 1 = some (4, 4) := by kernel_rfl
theorem tfld44x2 : tfld Try.prog 44 2 = some (5, 5) := by kernel_rfl
theorem tpl44 : tplaces Try.prog 44 = some [(0, 4), (4, 1), (5, 1)] := by kernel_rfl
theorem tz44 : tzero Try.prog 44 = some [.string ByteArray.empty, .string ByteArray.empty, .string ByteArray.empty, .bool false, .bool false, .int .u8 0] := by kernel_rfl
theorem tby44 : tby Try.prog 44 = some 64 := by kernel_rfl
theorem tsz45 : tsz Try.prog 45 = some 5 := by kernel_rfl
theorem tagg45 : tagg Try.prog 45 = some true := by kernel_rfl
theorem tarr45 : tarr Try.prog 45 = none := by kernel_rfl
theorem tkind45 : tkind Try.prog 45 = some .oth := by kernel_rfl
theorem tfld45x0 : tfld Try.prog 45 0 = some (0, 33) := by kernel_rfl
theorem tfld45x1 : tfld Try.prog 45 1 = some (4, 4) := by kernel_rfl
theorem tpl45 : tplaces Try.prog 45 = some [(0, 4), (4, 1)] := by kernel_rfl
theorem tz45 : tzero Try.prog 45 = some [.int .u64 0, .int .u64 0, .int .u64 0, .int .u64 0, .bool false] := by kernel_rfl
theorem tsz46 : tsz Try.prog 46 = some 5 := by kernel_rfl
theorem tagg46 : tagg Try.prog 46 = some true := by kernel_rfl
theorem tarr46 : tarr Try.prog 46 = none := by kernel_rfl
theorem tkind46 : tkind Try.prog 46 = some .oth := by kernel_rfl
theorem tfld46x0 : tfld Try.prog 46 0 = some (0, 33) := by kernel_rfl
theorem tfld46x1 : tfld Try.prog 46 1 = some (4, 4) := by kernel_rfl
theorem tpl46 : tplaces Try.prog 46 = some [(0, 4), (4, 1)] := by kernel_rfl
theorem tz46 : tzero Try.prog 46 = some [.int .u64 0, .int .u64 0, .int .u64 0, .int .u64 0, .bool false] := by kernel_rfl
theorem tsz47 : tsz Try.prog 47 = some 20 := by kernel_rfl
theorem tagg47 : tagg Try.prog 47 = some true := by kernel_rfl
theorem tarr47 : tarr Try.prog 47 = none := by kernel_rfl
theorem tkind47 : tkind Try.prog 47 = some .oth := by kernel_rfl
theorem tfld47x0 : tfld Try.prog 47 0 = some (0, 5) := by kernel_rfl
theorem tfld47x1 : tfld Try.prog 47 1 = some (1, 40) := by kernel_rfl
theorem tfld47x2 : tfld Try.prog 47 2 = some (9, 44) := by kernel_rfl
theorem tfld47x3 : tfld Try.prog 47 3 = some (15, 46) := by kernel_rfl
theorem tpl47 : tplaces Try.prog 47 = some [(0, 1), (1, 8), (9, 6), (15, 5)] := by kernel_rfl
theorem tz47 : tzero Try.prog 47 = some [.int .u8 0, .int .u64 0, .int .u64 0, .int .u64 0, .int .u64 0, .int .i64 0, .bool false, .slice none 0 0, .bool false, .string ByteArray.empty, .string ByteArray.empty, .string ByteArray.empty, .bool false, .bool false, .int .u8 0, .int .u64 0, .int .u64 0, .int .u64 0, .int .u64 0, .bool false] := by kernel_rfl
theorem tsz48 : tsz Try.prog 48 = some 20 := by kernel_rfl
theorem tagg48 : tagg Try.prog 48 = some true := by kernel_rfl
theorem tarr48 : tarr Try.prog 48 = none := by kernel_rfl
theorem tkind48 : tkind Try.prog 48 = some .oth := by kernel_rfl
theorem tfld48x0 : tfld Try.prog 48 0 = some (0, 5) := by kernel_rfl
theorem tfld48x1 : tfld Try.prog 48 1 = some (1, 40) := by kernel_rfl
theorem tfld48x2 : tfld Try.prog 48 2 = some (9, 44) := by kernel_rfl
theorem tfld48x3 : tfld Try.prog 48 3 = some (15, 46) := by kernel_rfl
theorem tpl48 : tplaces Try.prog 48 = some [(0, 1), (1, 8), (9, 6), (15, 5)] := by kernel_rfl
theorem tz48 : tzero Try.prog 48 = some [.int .u8 0, .int .u64 0, .int .u64 0, .int .u64 0, .int .u64 0, .int .i64 0, .bool false, .slice none 0 0, .bool false, .string ByteArray.empty, .string ByteArray.empty, .string ByteArray.empty, .bool false, .bool false, .int .u8 0, .int .u64 0, .int .u64 0, .int .u64 0, .int .u64 0, .bool false] := by kernel_rfl
theorem tby48 : tby Try.prog 48 = some 192 := by kernel_rfl
theorem tsz49 : tsz Try.prog 49 = some 1 := by kernel_rfl
theorem tagg49 : tagg Try.prog 49 = some false := by kernel_rfl
theorem tarr49 : tarr Try.prog 49 = none := by kernel_rfl
theorem tkind49 : tkind Try.prog 49 = some (.slc 42) := by kernel_rfl
theorem tpl49 : tplaces Try.prog 49 = none := by kernel_rfl
theorem tz49 : tzero Try.prog 49 = some [.slice none 0 0] := by kernel_rfl
theorem tslc49 : tslc Try.prog 49 = some true := by kernel_rfl
theorem tsz50 : tsz Try.prog 50 = some 6 := by kernel_rfl
theorem tagg50 : tagg Try.prog 50 = some true := by kernel_rfl
theorem tarr50 : tarr Try.prog 50 = none := by kernel_rfl
theorem tkind50 : tkind Try.prog 50 = some .oth := by kernel_rfl
theorem tfld50x0 : tfld Try.prog 50 0 = some (0, 35) := by kernel_rfl
theorem tfld50x1 : tfld Try.prog 50 1 = some (5, 49) := by kernel_rfl
theorem tpl50 : tplaces Try.prog 50 = some [(0, 5), (5, 1)] := by kernel_rfl
theorem tz50 : tzero Try.prog 50 = some [.int .u64 0, .int .u64 0, .int .u64 0, .int .u64 0, .int .i64 0, .slice none 0 0] := by kernel_rfl
theorem tsz51 : tsz Try.prog 51 = some 6 := by kernel_rfl
theorem tagg51 : tagg Try.prog 51 = some true := by kernel_rfl
theorem tarr51 : tarr Try.prog 51 = none := by kernel_rfl
theorem tkind51 : tkind Try.prog 51 = some .oth := by kernel_rfl
theorem tfld51x0 : tfld Try.prog 51 0 = some (0, 35) := by kernel_rfl
theorem tfld51x1 : tfld Try.prog 51 1 = some (5, 49) := by kernel_rfl
theorem tpl51 : tplaces Try.prog 51 = some [(0, 5), (5, 1)] := by kernel_rfl
theorem tz51 : tzero Try.prog 51 = some [.int .u64 0, .int .u64 0, .int .u64 0, .int .u64 0, .int .i64 0, .slice none 0 0] := by kernel_rfl
theorem tby51 : tby Try.prog 51 = some 64 := by kernel_rfl
theorem tsz57 : tsz Try.prog 57 = some 4 := by kernel_rfl
theorem tagg57 : tagg Try.prog 57 = some true := by kernel_rfl
theorem tarr57 : tarr Try.prog 57 = none := by kernel_rfl
theorem tkind57 : tkind Try.prog 57 = some (.arr 4 31) := by kernel_rfl
theorem tpl57 : tplaces Try.prog 57 = none := by kernel_rfl
theorem tz57 : tzero Try.prog 57 = some [.int .u64 0, .int .u64 0, .int .u64 0, .int .u64 0] := by kernel_rfl
theorem tleaf57 : tleaf Try.prog 57 = some [.i, .i, .i, .i] := by kernel_rfl
theorem tsz60 : tsz Try.prog 60 = some 5 := by kernel_rfl
theorem tagg60 : tagg Try.prog 60 = some true := by kernel_rfl
theorem tarr60 : tarr Try.prog 60 = none := by kernel_rfl
theorem tkind60 : tkind Try.prog 60 = some .oth := by kernel_rfl
theorem tfld60x0 : tfld Try.prog 60 0 = some (0, 57) := by kernel_rfl
theorem tfld60x1 : tfld Try.prog 60 1 = some (4, 3) := by kernel_rfl
theorem tpl60 : tplaces Try.prog 60 = some [(0, 4), (4, 1)] := by kernel_rfl
theorem tz60 : tzero Try.prog 60 = some [.int .u64 0, .int .u64 0, .int .u64 0, .int .u64 0, .int .i64 0] := by kernel_rfl
theorem tsz61 : tsz Try.prog 61 = some 5 := by kernel_rfl
theorem tagg61 : tagg Try.prog 61 = some true := by kernel_rfl
theorem tarr61 : tarr Try.prog 61 = none := by kernel_rfl
theorem tkind61 : tkind Try.prog 61 = some .oth := by kernel_rfl
theorem tfld61x0 : tfld Try.prog 61 0 = some (0, 57) := by kernel_rfl
theorem tfld61x1 : tfld Try.prog 61 1 = some (4, 3) := by kernel_rfl
theorem tpl61 : tplaces Try.prog 61 = some [(0, 4), (4, 1)] := by kernel_rfl
theorem tz61 : tzero Try.prog 61 = some [.int .u64 0, .int .u64 0, .int .u64 0, .int .u64 0, .int .i64 0] := by kernel_rfl
theorem tleaf61 : tleaf Try.prog 61 = some [.i, .i, .i, .i, .i] := by kernel_rfl
theorem tsz63 : tsz Try.prog 63 = some 1 := by kernel_rfl
theorem tagg63 : tagg Try.prog 63 = some false := by kernel_rfl
theorem tarr63 : tarr Try.prog 63 = none := by kernel_rfl
theorem tkind63 : tkind Try.prog 63 = some (.slc 71) := by kernel_rfl
theorem tpl63 : tplaces Try.prog 63 = none := by kernel_rfl
theorem tz63 : tzero Try.prog 63 = some [.slice none 0 0] := by kernel_rfl
theorem tslc63 : tslc Try.prog 63 = some true := by kernel_rfl
theorem tsz71 : tsz Try.prog 71 = some 4 := by kernel_rfl
theorem tagg71 : tagg Try.prog 71 = some true := by kernel_rfl
theorem tarr71 : tarr Try.prog 71 = none := by kernel_rfl
theorem tkind71 : tkind Try.prog 71 = some .oth := by kernel_rfl
theorem tfld71x0 : tfld Try.prog 71 0 = some (0, 9) := by kernel_rfl
theorem tfld71x1 : tfld Try.prog 71 1 = some (1, 9) := by kernel_rfl
theorem tfld71x2 : tfld Try.prog 71 2 = some (2, 9) := by kernel_rfl
theorem tfld71x3 : tfld Try.prog 71 3 = some (3, 4) := by kernel_rfl
theorem tpl71 : tplaces Try.prog 71 = some [(0, 1), (1, 1), (2, 1), (3, 1)] := by kernel_rfl
theorem tz71 : tzero Try.prog 71 = some [.string ByteArray.empty, .string ByteArray.empty, .string ByteArray.empty, .bool false] := by kernel_rfl
theorem tleaf71 : tleaf Try.prog 71 = some [.s, .s, .s, .b] := by kernel_rfl
theorem tby71 : tby Try.prog 71 = some 56 := by kernel_rfl
theorem tsz75 : tsz Try.prog 75 = some 1 := by kernel_rfl
theorem tagg75 : tagg Try.prog 75 = some false := by kernel_rfl
theorem tarr75 : tarr Try.prog 75 = none := by kernel_rfl
theorem tkind75 : tkind Try.prog 75 = some (.slc 108) := by kernel_rfl
theorem tpl75 : tplaces Try.prog 75 = none := by kernel_rfl
theorem tz75 : tzero Try.prog 75 = some [.slice none 0 0] := by kernel_rfl
theorem tslc75 : tslc Try.prog 75 = some true := by kernel_rfl
theorem tsz76 : tsz Try.prog 76 = some 1 := by kernel_rfl
theorem tagg76 : tagg Try.prog 76 = some false := by kernel_rfl
theorem tarr76 : tarr Try.prog 76 = none := by kernel_rfl
theorem tkind76 : tkind Try.prog 76 = some (.slc 111) := by kernel_rfl
theorem tpl76 : tplaces Try.prog 76 = none := by kernel_rfl
theorem tz76 : tzero Try.prog 76 = some [.slice none 0 0] := by kernel_rfl
theorem tslc76 : tslc Try.prog 76 = some true := by kernel_rfl
theorem tsz77 : tsz Try.prog 77 = some 7 := by kernel_rfl
theorem tagg77 : tagg Try.prog 77 = some true := by kernel_rfl
theorem tarr77 : tarr Try.prog 77 = none := by kernel_rfl
theorem tkind77 : tkind Try.prog 77 = some .oth := by kernel_rfl
theorem tfld77x0 : tfld Try.prog 77 0 = some (0, 3) := by kernel_rfl
theorem tfld77x1 : tfld Try.prog 77 1 = some (1, 75) := by kernel_rfl
theorem tfld77x2 : tfld Try.prog 77 2 = some (2, 76) := by kernel_rfl
theorem tfld77x3 : tfld Try.prog 77 3 = some (3, 57) := by kernel_rfl
theorem tpl77 : tplaces Try.prog 77 = some [(0, 1), (1, 1), (2, 1), (3, 4)] := by kernel_rfl
theorem tz77 : tzero Try.prog 77 = some [.int .i64 0, .slice none 0 0, .slice none 0 0, .int .u64 0, .int .u64 0, .int .u64 0, .int .u64 0] := by kernel_rfl
theorem tsz78 : tsz Try.prog 78 = some 7 := by kernel_rfl
theorem tagg78 : tagg Try.prog 78 = some true := by kernel_rfl
theorem tarr78 : tarr Try.prog 78 = none := by kernel_rfl
theorem tkind78 : tkind Try.prog 78 = some .oth := by kernel_rfl
theorem tfld78x0 : tfld Try.prog 78 0 = some (0, 3) := by kernel_rfl
theorem tfld78x1 : tfld Try.prog 78 1 = some (1, 75) := by kernel_rfl
theorem tfld78x2 : tfld Try.prog 78 2 = some (2, 76) := by kernel_rfl
theorem tfld78x3 : tfld Try.prog 78 3 = some (3, 57) := by kernel_rfl
theorem tpl78 : tplaces Try.prog 78 = some [(0, 1), (1, 1), (2, 1), (3, 4)] := by kernel_rfl
theorem tz78 : tzero Try.prog 78 = some [.int .i64 0, .slice none 0 0, .slice none 0 0, .int .u64 0, .int .u64 0, .int .u64 0, .int .u64 0] := by kernel_rfl
theorem tsz85 : tsz Try.prog 85 = some 1 := by kernel_rfl
theorem tagg85 : tagg Try.prog 85 = some false := by kernel_rfl
theorem tarr85 : tarr Try.prog 85 = none := by kernel_rfl
theorem tkind85 : tkind Try.prog 85 = some (.slc 40) := by kernel_rfl
theorem tpl85 : tplaces Try.prog 85 = none := by kernel_rfl
theorem tz85 : tzero Try.prog 85 = some [.slice none 0 0] := by kernel_rfl
theorem tslc85 : tslc Try.prog 85 = some true := by kernel_rfl
theorem tsz86 : tsz Try.prog 86 = some 1 := by kernel_rfl
theorem tagg86 : tagg Try.prog 86 = some false := by kernel_rfl
theorem tarr86 : tarr Try.prog 86 = none := by kernel_rfl
theorem tkind86 : tkind Try.prog 86 = some (.slc 51) := by kernel_rfl
theorem tpl86 : tplaces Try.prog 86 = none := by kernel_rfl
theorem tz86 : tzero Try.prog 86 = some [.slice none 0 0] := by kernel_rfl
theorem tslc86 : tslc Try.prog 86 = some true := by kernel_rfl
theorem tsz91 : tsz Try.prog 91 = some 1 := by kernel_rfl
theorem tagg91 : tagg Try.prog 91 = some false := by kernel_rfl
theorem tarr91 : tarr Try.prog 91 = none := by kernel_rfl
theorem tkind91 : tkind Try.prog 91 = some .oth := by kernel_rfl
theorem tpl91 : tplaces Try.prog 91 = none := by kernel_rfl
theorem tz91 : tzero Try.prog 91 = some [.pointer none] := by kernel_rfl
theorem tptr91 : tptr Try.prog 91 = some true := by kernel_rfl
theorem tsz94 : tsz Try.prog 94 = some 6 := by kernel_rfl
theorem tagg94 : tagg Try.prog 94 = some true := by kernel_rfl
theorem tarr94 : tarr Try.prog 94 = none := by kernel_rfl
theorem tkind94 : tkind Try.prog 94 = some .oth := by kernel_rfl
theorem tfld94x0 : tfld Try.prog 94 0 = some (0, 35) := by kernel_rfl
theorem tfld94x1 : tfld Try.prog 94 1 = some (5, 49) := by kernel_rfl
theorem tpl94 : tplaces Try.prog 94 = some [(0, 5), (5, 1)] := by kernel_rfl
theorem tz94 : tzero Try.prog 94 = some [.int .u64 0, .int .u64 0, .int .u64 0, .int .u64 0, .int .i64 0, .slice none 0 0] := by kernel_rfl
theorem tsz95 : tsz Try.prog 95 = some 6 := by kernel_rfl
theorem tagg95 : tagg Try.prog 95 = some true := by kernel_rfl
theorem tarr95 : tarr Try.prog 95 = none := by kernel_rfl
theorem tkind95 : tkind Try.prog 95 = some .oth := by kernel_rfl
theorem tfld95x0 : tfld Try.prog 95 0 = some (0, 35) := by kernel_rfl
theorem tfld95x1 : tfld Try.prog 95 1 = some (5, 49) := by kernel_rfl
theorem tpl95 : tplaces Try.prog 95 = some [(0, 5), (5, 1)] := by kernel_rfl
theorem tz95 : tzero Try.prog 95 = some [.int .u64 0, .int .u64 0, .int .u64 0, .int .u64 0, .int .i64 0, .slice none 0 0] := by kernel_rfl
theorem tby95 : tby Try.prog 95 = some 64 := by kernel_rfl
theorem tsz96 : tsz Try.prog 96 = some 1 := by kernel_rfl
theorem tagg96 : tagg Try.prog 96 = some false := by kernel_rfl
theorem tarr96 : tarr Try.prog 96 = none := by kernel_rfl
theorem tkind96 : tkind Try.prog 96 = some .oth := by kernel_rfl
theorem tpl96 : tplaces Try.prog 96 = none := by kernel_rfl
theorem tz96 : tzero Try.prog 96 = some [.map none] := by kernel_rfl
theorem tmap96 : tmap Try.prog 96 = some true := by kernel_rfl
theorem tsz97 : tsz Try.prog 97 = some 6 := by kernel_rfl
theorem tagg97 : tagg Try.prog 97 = some true := by kernel_rfl
theorem tarr97 : tarr Try.prog 97 = none := by kernel_rfl
theorem tkind97 : tkind Try.prog 97 = some .oth := by kernel_rfl
theorem tfld97x0 : tfld Try.prog 97 0 = some (0, 91) := by kernel_rfl
theorem tfld97x1 : tfld Try.prog 97 1 = some (1, 96) := by kernel_rfl
theorem tfld97x2 : tfld Try.prog 97 2 = some (2, 33) := by kernel_rfl
theorem tpl97 : tplaces Try.prog 97 = some [(0, 1), (1, 1), (2, 4)] := by kernel_rfl
theorem tz97 : tzero Try.prog 97 = some [.pointer none, .map none, .int .u64 0, .int .u64 0, .int .u64 0, .int .u64 0] := by kernel_rfl
theorem tsz98 : tsz Try.prog 98 = some 6 := by kernel_rfl
theorem tagg98 : tagg Try.prog 98 = some true := by kernel_rfl
theorem tarr98 : tarr Try.prog 98 = none := by kernel_rfl
theorem tkind98 : tkind Try.prog 98 = some .oth := by kernel_rfl
theorem tfld98x0 : tfld Try.prog 98 0 = some (0, 91) := by kernel_rfl
theorem tfld98x1 : tfld Try.prog 98 1 = some (1, 96) := by kernel_rfl
theorem tfld98x2 : tfld Try.prog 98 2 = some (2, 33) := by kernel_rfl
theorem tpl98 : tplaces Try.prog 98 = some [(0, 1), (1, 1), (2, 4)] := by kernel_rfl
theorem tz98 : tzero Try.prog 98 = some [.pointer none, .map none, .int .u64 0, .int .u64 0, .int .u64 0, .int .u64 0] := by kernel_rfl
theorem tsz101 : tsz Try.prog 101 = some 1 := by kernel_rfl
theorem tagg101 : tagg Try.prog 101 = some false := by kernel_rfl
theorem tarr101 : tarr Try.prog 101 = none := by kernel_rfl
theorem tkind101 : tkind Try.prog 101 = some (.slc 5) := by kernel_rfl
theorem tpl101 : tplaces Try.prog 101 = none := by kernel_rfl
theorem tz101 : tzero Try.prog 101 = some [.slice none 0 0] := by kernel_rfl
theorem tslc101 : tslc Try.prog 101 = some true := by kernel_rfl
theorem tsz104 : tsz Try.prog 104 = some 1 := by kernel_rfl
theorem tagg104 : tagg Try.prog 104 = some false := by kernel_rfl
theorem tarr104 : tarr Try.prog 104 = none := by kernel_rfl
theorem tkind104 : tkind Try.prog 104 = some .oth := by kernel_rfl
theorem tpl104 : tplaces Try.prog 104 = none := by kernel_rfl
theorem tz104 : tzero Try.prog 104 = some [.pointer none] := by kernel_rfl
theorem tptr104 : tptr Try.prog 104 = some true := by kernel_rfl
theorem tsz107 : tsz Try.prog 107 = some 6 := by kernel_rfl
theorem tagg107 : tagg Try.prog 107 = some true := by kernel_rfl
theorem tarr107 : tarr Try.prog 107 = none := by kernel_rfl
theorem tkind107 : tkind Try.prog 107 = some .oth := by kernel_rfl
theorem tfld107x0 : tfld Try.prog 107 0 = some (0, 61) := by kernel_rfl
theorem tfld107x1 : tfld Try.prog 107 1 = some (5, 63) := by kernel_rfl
theorem tpl107 : tplaces Try.prog 107 = some [(0, 5), (5, 1)] := by kernel_rfl
theorem tz107 : tzero Try.prog 107 = some [.int .u64 0, .int .u64 0, .int .u64 0, .int .u64 0, .int .i64 0, .slice none 0 0] := by kernel_rfl
theorem tsz108 : tsz Try.prog 108 = some 6 := by kernel_rfl
theorem tagg108 : tagg Try.prog 108 = some true := by kernel_rfl
theorem tarr108 : tarr Try.prog 108 = none := by kernel_rfl
theorem tkind108 : tkind Try.prog 108 = some .oth := by kernel_rfl
theorem tfld108x0 : tfld Try.prog 108 0 = some (0, 61) := by kernel_rfl
theorem tfld108x1 : tfld Try.prog 108 1 = some (5, 63) := by kernel_rfl
theorem tpl108 : tplaces Try.prog 108 = some [(0, 5), (5, 1)] := by kernel_rfl
theorem tz108 : tzero Try.prog 108 = some [.int .u64 0, .int .u64 0, .int .u64 0, .int .u64 0, .int .i64 0, .slice none 0 0] := by kernel_rfl
theorem tby108 : tby Try.prog 108 = some 64 := by kernel_rfl
theorem tsz110 : tsz Try.prog 110 = some 9 := by kernel_rfl
theorem tagg110 : tagg Try.prog 110 = some true := by kernel_rfl
theorem tarr110 : tarr Try.prog 110 = none := by kernel_rfl
theorem tkind110 : tkind Try.prog 110 = some .oth := by kernel_rfl
theorem tfld110x0 : tfld Try.prog 110 0 = some (0, 61) := by kernel_rfl
theorem tfld110x1 : tfld Try.prog 110 1 = some (5, 71) := by kernel_rfl
theorem tpl110 : tplaces Try.prog 110 = some [(0, 5), (5, 4)] := by kernel_rfl
theorem tz110 : tzero Try.prog 110 = some [.int .u64 0, .int .u64 0, .int .u64 0, .int .u64 0, .int .i64 0, .string ByteArray.empty, .string ByteArray.empty, .string ByteArray.empty, .bool false] := by kernel_rfl
theorem tsz111 : tsz Try.prog 111 = some 9 := by kernel_rfl
theorem tagg111 : tagg Try.prog 111 = some true := by kernel_rfl
theorem tarr111 : tarr Try.prog 111 = none := by kernel_rfl
theorem tkind111 : tkind Try.prog 111 = some .oth := by kernel_rfl
theorem tfld111x0 : tfld Try.prog 111 0 = some (0, 61) := by kernel_rfl
theorem tfld111x1 : tfld Try.prog 111 1 = some (5, 71) := by kernel_rfl
theorem tpl111 : tplaces Try.prog 111 = some [(0, 5), (5, 4)] := by kernel_rfl
theorem tz111 : tzero Try.prog 111 = some [.int .u64 0, .int .u64 0, .int .u64 0, .int .u64 0, .int .i64 0, .string ByteArray.empty, .string ByteArray.empty, .string ByteArray.empty, .bool false] := by kernel_rfl
theorem tby111 : tby Try.prog 111 = some 96 := by kernel_rfl
theorem tsz114 : tsz Try.prog 114 = some 2 := by kernel_rfl
theorem tagg114 : tagg Try.prog 114 = some true := by kernel_rfl
theorem tarr114 : tarr Try.prog 114 = none := by kernel_rfl
theorem tkind114 : tkind Try.prog 114 = some .oth := by kernel_rfl
theorem tfld114x0 : tfld Try.prog 114 0 = some (0, 9) := by kernel_rfl
theorem tfld114x1 : tfld Try.prog 114 1 = some (1, 9) := by kernel_rfl
theorem tpl114 : tplaces Try.prog 114 = some [(0, 1), (1, 1)] := by kernel_rfl
theorem tz114 : tzero Try.prog 114 = some [.string ByteArray.empty, .string ByteArray.empty] := by kernel_rfl
theorem tsz115 : tsz Try.prog 115 = some 2 := by kernel_rfl
theorem tagg115 : tagg Try.prog 115 = some true := by kernel_rfl
theorem tarr115 : tarr Try.prog 115 = none := by kernel_rfl
theorem tkind115 : tkind Try.prog 115 = some .oth := by kernel_rfl
theorem tfld115x0 : tfld Try.prog 115 0 = some (0, 9) := by kernel_rfl
theorem tfld115x1 : tfld Try.prog 115 1 = some (1, 9) := by kernel_rfl
theorem tpl115 : tplaces Try.prog 115 = some [(0, 1), (1, 1)] := by kernel_rfl
theorem tz115 : tzero Try.prog 115 = some [.string ByteArray.empty, .string ByteArray.empty] := by kernel_rfl
theorem tleaf115 : tleaf Try.prog 115 = some [.s, .s] := by kernel_rfl
theorem tsz125 : tsz Try.prog 125 = some 9 := by kernel_rfl
theorem tagg125 : tagg Try.prog 125 = some true := by kernel_rfl
theorem tarr125 : tarr Try.prog 125 = none := by kernel_rfl
theorem tkind125 : tkind Try.prog 125 = some .oth := by kernel_rfl
theorem tfld125x0 : tfld Try.prog 125 0 = some (0, 35) := by kernel_rfl
theorem tfld125x1 : tfld Try.prog 125 1 = some (5, 42) := by kernel_rfl
theorem tpl125 : tplaces Try.prog 125 = some [(0, 5), (5, 4)] := by kernel_rfl
theorem tz125 : tzero Try.prog 125 = some [.int .u64 0, .int .u64 0, .int .u64 0, .int .u64 0, .int .i64 0, .string ByteArray.empty, .string ByteArray.empty, .string ByteArray.empty, .bool false] := by kernel_rfl
theorem tsz126 : tsz Try.prog 126 = some 9 := by kernel_rfl
theorem tagg126 : tagg Try.prog 126 = some true := by kernel_rfl
theorem tarr126 : tarr Try.prog 126 = none := by kernel_rfl
theorem tkind126 : tkind Try.prog 126 = some .oth := by kernel_rfl
theorem tfld126x0 : tfld Try.prog 126 0 = some (0, 35) := by kernel_rfl
theorem tfld126x1 : tfld Try.prog 126 1 = some (5, 42) := by kernel_rfl
theorem tpl126 : tplaces Try.prog 126 = some [(0, 5), (5, 4)] := by kernel_rfl
theorem tz126 : tzero Try.prog 126 = some [.int .u64 0, .int .u64 0, .int .u64 0, .int .u64 0, .int .i64 0, .string ByteArray.empty, .string ByteArray.empty, .string ByteArray.empty, .bool false] := by kernel_rfl
theorem tby126 : tby Try.prog 126 = some 96 := by kernel_rfl
theorem tsz133 : tsz Try.prog 133 = some 1 := by kernel_rfl
theorem tagg133 : tagg Try.prog 133 = some false := by kernel_rfl
theorem tarr133 : tarr Try.prog 133 = none := by kernel_rfl
theorem tkind133 : tkind Try.prog 133 = some .oth := by kernel_rfl
theorem tpl133 : tplaces Try.prog 133 = none := by kernel_rfl
theorem tz133 : tzero Try.prog 133 = some [.chan none] := by kernel_rfl
theorem tsz134 : tsz Try.prog 134 = some 1 := by kernel_rfl
theorem tagg134 : tagg Try.prog 134 = some true := by kernel_rfl
theorem tarr134 : tarr Try.prog 134 = none := by kernel_rfl
theorem tkind134 : tkind Try.prog 134 = some .oth := by kernel_rfl
theorem tfld134x0 : tfld Try.prog 134 0 = some (0, 133) := by kernel_rfl
theorem tpl134 : tplaces Try.prog 134 = some [(0, 1)] := by kernel_rfl
theorem tz134 : tzero Try.prog 134 = some [.chan none] := by kernel_rfl
theorem tsz135 : tsz Try.prog 135 = some 1 := by kernel_rfl
theorem tagg135 : tagg Try.prog 135 = some true := by kernel_rfl
theorem tarr135 : tarr Try.prog 135 = none := by kernel_rfl
theorem tkind135 : tkind Try.prog 135 = some .oth := by kernel_rfl
theorem tfld135x0 : tfld Try.prog 135 0 = some (0, 133) := by kernel_rfl
theorem tpl135 : tplaces Try.prog 135 = some [(0, 1)] := by kernel_rfl
theorem tz135 : tzero Try.prog 135 = some [.chan none] := by kernel_rfl
theorem tsz139 : tsz Try.prog 139 = some 1 := by kernel_rfl
theorem tagg139 : tagg Try.prog 139 = some false := by kernel_rfl
theorem tarr139 : tarr Try.prog 139 = none := by kernel_rfl
theorem tkind139 : tkind Try.prog 139 = some (.slc 126) := by kernel_rfl
theorem tpl139 : tplaces Try.prog 139 = none := by kernel_rfl
theorem tz139 : tzero Try.prog 139 = some [.slice none 0 0] := by kernel_rfl
theorem tslc139 : tslc Try.prog 139 = some true := by kernel_rfl
theorem tsz140 : tsz Try.prog 140 = some 1 := by kernel_rfl
theorem tagg140 : tagg Try.prog 140 = some true := by kernel_rfl
theorem tarr140 : tarr Try.prog 140 = none := by kernel_rfl
theorem tkind140 : tkind Try.prog 140 = some .oth := by kernel_rfl
theorem tfld140x0 : tfld Try.prog 140 0 = some (0, 139) := by kernel_rfl
theorem tpl140 : tplaces Try.prog 140 = some [(0, 1)] := by kernel_rfl
theorem tz140 : tzero Try.prog 140 = some [.slice none 0 0] := by kernel_rfl
theorem tsz141 : tsz Try.prog 141 = some 1 := by kernel_rfl
theorem tagg141 : tagg Try.prog 141 = some true := by kernel_rfl
theorem tarr141 : tarr Try.prog 141 = none := by kernel_rfl
theorem tkind141 : tkind Try.prog 141 = some .oth := by kernel_rfl
theorem tfld141x0 : tfld Try.prog 141 0 = some (0, 139) := by kernel_rfl
theorem tpl141 : tplaces Try.prog 141 = some [(0, 1)] := by kernel_rfl
theorem tz141 : tzero Try.prog 141 = some [.slice none 0 0] := by kernel_rfl
theorem tsz159 : tsz Try.prog 159 = some 1 := by kernel_rfl
theorem tagg159 : tagg Try.prog 159 = some false := by kernel_rfl
theorem tarr159 : tarr Try.prog 159 = none := by kernel_rfl
theorem tkind159 : tkind Try.prog 159 = some (.slc 31) := by kernel_rfl
theorem tpl159 : tplaces Try.prog 159 = none := by kernel_rfl
theorem tz159 : tzero Try.prog 159 = some [.slice none 0 0] := by kernel_rfl
theorem tslc159 : tslc Try.prog 159 = some true := by kernel_rfl
theorem tsz168 : tsz Try.prog 168 = some 1 := by kernel_rfl
theorem tagg168 : tagg Try.prog 168 = some false := by kernel_rfl
theorem tarr168 : tarr Try.prog 168 = none := by kernel_rfl
theorem tkind168 : tkind Try.prog 168 = some (.slc 3) := by kernel_rfl
theorem tpl168 : tplaces Try.prog 168 = none := by kernel_rfl
theorem tz168 : tzero Try.prog 168 = some [.slice none 0 0] := by kernel_rfl
theorem tslc168 : tslc Try.prog 168 = some true := by kernel_rfl
theorem tsz173 : tsz Try.prog 173 = some 4 := by kernel_rfl
theorem tagg173 : tagg Try.prog 173 = some true := by kernel_rfl
theorem tarr173 : tarr Try.prog 173 = none := by kernel_rfl
theorem tkind173 : tkind Try.prog 173 = some .oth := by kernel_rfl
theorem tfld173x0 : tfld Try.prog 173 0 = some (0, 17) := by kernel_rfl
theorem tfld173x1 : tfld Try.prog 173 1 = some (1, 17) := by kernel_rfl
theorem tfld173x2 : tfld Try.prog 173 2 = some (2, 17) := by kernel_rfl
theorem tfld173x3 : tfld Try.prog 173 3 = some (3, 9) := by kernel_rfl
theorem tpl173 : tplaces Try.prog 173 = some [(0, 1), (1, 1), (2, 1), (3, 1)] := by kernel_rfl
theorem tz173 : tzero Try.prog 173 = some [.pointer none, .pointer none, .pointer none, .string ByteArray.empty] := by kernel_rfl
theorem tsz174 : tsz Try.prog 174 = some 4 := by kernel_rfl
theorem tagg174 : tagg Try.prog 174 = some true := by kernel_rfl
theorem tarr174 : tarr Try.prog 174 = none := by kernel_rfl
theorem tkind174 : tkind Try.prog 174 = some .oth := by kernel_rfl
theorem tfld174x0 : tfld Try.prog 174 0 = some (0, 17) := by kernel_rfl
theorem tfld174x1 : tfld Try.prog 174 1 = some (1, 17) := by kernel_rfl
theorem tfld174x2 : tfld Try.prog 174 2 = some (2, 17) := by kernel_rfl
theorem tfld174x3 : tfld Try.prog 174 3 = some (3, 9) := by kernel_rfl
theorem tpl174 : tplaces Try.prog 174 = some [(0, 1), (1, 1), (2, 1), (3, 1)] := by kernel_rfl
theorem tz174 : tzero Try.prog 174 = some [.pointer none, .pointer none, .pointer none, .string ByteArray.empty] := by kernel_rfl
theorem tsz175 : tsz Try.prog 175 = some 0 := by kernel_rfl
theorem tagg175 : tagg Try.prog 175 = some true := by kernel_rfl
theorem tarr175 : tarr Try.prog 175 = none := by kernel_rfl
theorem tkind175 : tkind Try.prog 175 = some (.arr 0 16) := by kernel_rfl
theorem tpl175 : tplaces Try.prog 175 = none := by kernel_rfl
theorem tz175 : tzero Try.prog 175 = some [] := by kernel_rfl
theorem tsz176 : tsz Try.prog 176 = some 0 := by kernel_rfl
theorem tagg176 : tagg Try.prog 176 = some true := by kernel_rfl
theorem tarr176 : tarr Try.prog 176 = none := by kernel_rfl
theorem tkind176 : tkind Try.prog 176 = some .oth := by kernel_rfl
theorem tfld176x0 : tfld Try.prog 176 0 = some (0, 175) := by kernel_rfl
theorem tpl176 : tplaces Try.prog 176 = some [(0, 0)] := by kernel_rfl
theorem tz176 : tzero Try.prog 176 = some [] := by kernel_rfl
theorem tsz177 : tsz Try.prog 177 = some 0 := by kernel_rfl
theorem tagg177 : tagg Try.prog 177 = some true := by kernel_rfl
theorem tarr177 : tarr Try.prog 177 = none := by kernel_rfl
theorem tkind177 : tkind Try.prog 177 = some .oth := by kernel_rfl
theorem tfld177x0 : tfld Try.prog 177 0 = some (0, 175) := by kernel_rfl
theorem tpl177 : tplaces Try.prog 177 = some [(0, 0)] := by kernel_rfl
theorem tz177 : tzero Try.prog 177 = some [] := by kernel_rfl
theorem tsz178 : tsz Try.prog 178 = some 1 := by kernel_rfl
theorem tagg178 : tagg Try.prog 178 = some false := by kernel_rfl
theorem tarr178 : tarr Try.prog 178 = none := by kernel_rfl
theorem tkind178 : tkind Try.prog 178 = some .oth := by kernel_rfl
theorem tpl178 : tplaces Try.prog 178 = none := by kernel_rfl
theorem tz178 : tzero Try.prog 178 = some [.int .u32 0] := by kernel_rfl
theorem tint178 : tint Try.prog 178 = some (some .u32) := by kernel_rfl
theorem tsz179 : tsz Try.prog 179 = some 1 := by kernel_rfl
theorem tagg179 : tagg Try.prog 179 = some false := by kernel_rfl
theorem tarr179 : tarr Try.prog 179 = none := by kernel_rfl
theorem tkind179 : tkind Try.prog 179 = some .oth := by kernel_rfl
theorem tpl179 : tplaces Try.prog 179 = none := by kernel_rfl
theorem tz179 : tzero Try.prog 179 = some [.int .u8 0] := by kernel_rfl
theorem tint179 : tint Try.prog 179 = some (some .u8) := by kernel_rfl
theorem tsz180 : tsz Try.prog 180 = some 1 := by kernel_rfl
theorem tagg180 : tagg Try.prog 180 = some false := by kernel_rfl
theorem tarr180 : tarr Try.prog 180 = none := by kernel_rfl
theorem tkind180 : tkind Try.prog 180 = some .oth := by kernel_rfl
theorem tpl180 : tplaces Try.prog 180 = none := by kernel_rfl
theorem tz180 : tzero Try.prog 180 = some [.int .u8 0] := by kernel_rfl
theorem tint180 : tint Try.prog 180 = some (some .u8) := by kernel_rfl
theorem tsz182 : tsz Try.prog 182 = some 1 := by kernel_rfl
theorem tagg182 : tagg Try.prog 182 = some false := by kernel_rfl
theorem tarr182 : tarr Try.prog 182 = none := by kernel_rfl
theorem tkind182 : tkind Try.prog 182 = some .oth := by kernel_rfl
theorem tpl182 : tplaces Try.prog 182 = none := by kernel_rfl
theorem tz182 : tzero Try.prog 182 = some [.pointer none] := by kernel_rfl
theorem tptr182 : tptr Try.prog 182 = some true := by kernel_rfl
theorem tsz183 : tsz Try.prog 183 = some 1 := by kernel_rfl
theorem tagg183 : tagg Try.prog 183 = some false := by kernel_rfl
theorem tarr183 : tarr Try.prog 183 = none := by kernel_rfl
theorem tkind183 : tkind Try.prog 183 = some .oth := by kernel_rfl
theorem tpl183 : tplaces Try.prog 183 = none := by kernel_rfl
theorem tz183 : tzero Try.prog 183 = some [.int .i32 0] := by kernel_rfl
theorem tint183 : tint Try.prog 183 = some (some .i32) := by kernel_rfl
theorem tsz184 : tsz Try.prog 184 = some 1 := by kernel_rfl
theorem tagg184 : tagg Try.prog 184 = some false := by kernel_rfl
theorem tarr184 : tarr Try.prog 184 = none := by kernel_rfl
theorem tkind184 : tkind Try.prog 184 = some .oth := by kernel_rfl
theorem tpl184 : tplaces Try.prog 184 = none := by kernel_rfl
theorem tz184 : tzero Try.prog 184 = some [.int .i32 0] := by kernel_rfl
theorem tint184 : tint Try.prog 184 = some (some .i32) := by kernel_rfl
theorem tsz185 : tsz Try.prog 185 = some 11 := by kernel_rfl
theorem tagg185 : tagg Try.prog 185 = some true := by kernel_rfl
theorem tarr185 : tarr Try.prog 185 = none := by kernel_rfl
theorem tkind185 : tkind Try.prog 185 = some .oth := by kernel_rfl
theorem tfld185x0 : tfld Try.prog 185 0 = some (0, 12) := by kernel_rfl
theorem tfld185x1 : tfld Try.prog 185 1 = some (1, 12) := by kernel_rfl
theorem tfld185x2 : tfld Try.prog 185 2 = some (2, 178) := by kernel_rfl
theorem tfld185x3 : tfld Try.prog 185 3 = some (3, 179) := by kernel_rfl
theorem tfld185x4 : tfld Try.prog 185 4 = some (4, 5) := by kernel_rfl
theorem tfld185x5 : tfld Try.prog 185 5 = some (5, 5) := by kernel_rfl
theorem tfld185x6 : tfld Try.prog 185 6 = some (6, 180) := by kernel_rfl
theorem tfld185x7 : tfld Try.prog 185 7 = some (7, 181) := by kernel_rfl
theorem tfld185x8 : tfld Try.prog 185 8 = some (8, 182) := by kernel_rfl
theorem tfld185x9 : tfld Try.prog 185 9 = some (9, 183) := by kernel_rfl
theorem tfld185x10 : tfld Try.prog 185 10 = some (10, 184) := by kernel_rfl
theorem tpl185 : tplaces Try.prog 185 = some [(0, 1), (1, 1), (2, 1), (3, 1), (4, 1), (5, 1), (6, 1), (7, 1), (8, 1), (9, 1), (10, 1)] := by kernel_rfl
theorem tz185 : tzero Try.prog 185 = some [.int .u64 0, .int .u64 0, .int .u32 0, .int .u8 0, .int .u8 0, .int .u8 0, .int .u8 0, .nilFunc, .pointer none, .int .i32 0, .int .i32 0] := by kernel_rfl
theorem tsz186 : tsz Try.prog 186 = some 11 := by kernel_rfl
theorem tagg186 : tagg Try.prog 186 = some true := by kernel_rfl
theorem tarr186 : tarr Try.prog 186 = none := by kernel_rfl
theorem tkind186 : tkind Try.prog 186 = some .oth := by kernel_rfl
theorem tfld186x0 : tfld Try.prog 186 0 = some (0, 12) := by kernel_rfl
theorem tfld186x1 : tfld Try.prog 186 1 = some (1, 12) := by kernel_rfl
theorem tfld186x2 : tfld Try.prog 186 2 = some (2, 178) := by kernel_rfl
theorem tfld186x3 : tfld Try.prog 186 3 = some (3, 179) := by kernel_rfl
theorem tfld186x4 : tfld Try.prog 186 4 = some (4, 5) := by kernel_rfl
theorem tfld186x5 : tfld Try.prog 186 5 = some (5, 5) := by kernel_rfl
theorem tfld186x6 : tfld Try.prog 186 6 = some (6, 180) := by kernel_rfl
theorem tfld186x7 : tfld Try.prog 186 7 = some (7, 181) := by kernel_rfl
theorem tfld186x8 : tfld Try.prog 186 8 = some (8, 182) := by kernel_rfl
theorem tfld186x9 : tfld Try.prog 186 9 = some (9, 183) := by kernel_rfl
theorem tfld186x10 : tfld Try.prog 186 10 = some (10, 184) := by kernel_rfl
theorem tpl186 : tplaces Try.prog 186 = some [(0, 1), (1, 1), (2, 1), (3, 1), (4, 1), (5, 1), (6, 1), (7, 1), (8, 1), (9, 1), (10, 1)] := by kernel_rfl
theorem tz186 : tzero Try.prog 186 = some [.int .u64 0, .int .u64 0, .int .u32 0, .int .u8 0, .int .u8 0, .int .u8 0, .int .u8 0, .nilFunc, .pointer none, .int .i32 0, .int .i32 0] := by kernel_rfl
attribute [go_sem] tsz2 tagg2 tarr2 tkind2 tpl2 tz2 tint2 tsz3 tagg3 tarr3 tkind3 tpl3 tz3 tby3 tint3 tsz4 tagg4 tarr4 tkind4 tpl4 tz4 tbool4 tsz5 tagg5 tarr5 tkind5 tpl5 tz5 tby5 tint5 tsz6 tagg6 tarr6 tkind6 tpl6 tz6 tint6 tsz7 tagg7 tarr7 tkind7 tfld7x0 tfld7x1 tfld7x2 tfld7x3 tpl7 tz7 tsz8 tagg8 tarr8 tkind8 tfld8x0 tfld8x1 tfld8x2 tfld8x3 tpl8 tz8 tsz9 tagg9 tarr9 tkind9 tpl9 tz9 tsz10 tagg10 tarr10 tkind10 tpl10 tz10 tsz11 tagg11 tarr11 tkind11 tpl11 tz11 tsz12 tagg12 tarr12 tkind12 tpl12 tz12 tint12 tsz13 tagg13 tarr13 tkind13 tfld13x0 tfld13x1 tpl13 tz13 tsz14 tagg14 tarr14 tkind14 tfld14x0 tfld14x1 tpl14 tz14 tsz15 tagg15 tarr15 tkind15 tpl15 tz15 tptr15 tsz16 tagg16 tarr16 tkind16 tpl16 tz16 tptr16 tsz17 tagg17 tarr17 tkind17 tpl17 tz17 tptr17 tsz18 tagg18 tarr18 tkind18 tfld18x0 tpl18 tz18 tsz19 tagg19 tarr19 tkind19 tfld19x0 tpl19 tz19 tsz20 tagg20 tarr20 tkind20 tpl20 tz20 tsz21 tagg21 tarr21 tkind21 tpl21 tz21 tint21 tsz22 tagg22 tarr22 tkind22 tpl22 tz22 tslc22 tsz24 tagg24 tarr24 tkind24 tpl24 tz24 tint24 tsz25 tagg25 tarr25 tkind25 tpl25 tz25 tptr25 tsz26 tagg26 tarr26 tkind26 tpl26 tz26 tint26 tsz29 tagg29 tarr29 tkind29 tpl29 tz29 tptr29 tsz31 tagg31 tarr31 tkind31 tpl31 tz31 tby31 tint31 tsz32 tagg32 tarr32 tkind32 tpl32 tz32 tsz33 tagg33 tarr33 tkind33 tpl33 tz33 tleaf33 tsz34 tagg34 tarr34 tkind34 tfld34x0 tfld34x1 tpl34 tz34 tsz35 tagg35 tarr35 tkind35 tfld35x0 tfld35x1 tpl35 tz35 tleaf35 tsz36 tagg36 tarr36 tkind36 tfld36x0 tfld36x1 tpl36 tz36 tsz37 tagg37 tarr37 tkind37 tfld37x0 tfld37x1 tpl37 tz37 tsz38 tagg38 tarr38 tkind38 tpl38 tz38 tslc38 tsz39 tagg39 tarr39 tkind39 tfld39x0 tfld39x1 tfld39x2 tpl39 tz39 tsz40 tagg40 tarr40 tkind40 tfld40x0 tfld40x1 tfld40x2 tpl40 tz40 tby40 tsz41 tagg41 tarr41 tkind41 tfld41x0 tfld41x1 tfld41x2 tfld41x3 tpl41 tz41 tsz42 tagg42 tarr42 tkind42 tfld42x0 tfld42x1 tfld42x2 tfld42x3 tpl42 tz42 tleaf42 tby42 tsz43 tagg43 tarr43 tkind43 tfld43x0 tfld43x1 tfld43x2 tpl43 tz43 tsz44 tagg44 tarr44 tkind44 tfld44x0 tfld44x1 tfld44x2 tpl44 tz44 tby44 tsz45 tagg45 tarr45 tkind45 tfld45x0 tfld45x1 tpl45 tz45 tsz46 tagg46 tarr46 tkind46 tfld46x0 tfld46x1 tpl46 tz46 tsz47 tagg47 tarr47 tkind47 tfld47x0 tfld47x1 tfld47x2 tfld47x3 tpl47 tz47 tsz48 tagg48 tarr48 tkind48 tfld48x0 tfld48x1 tfld48x2 tfld48x3 tpl48 tz48 tby48 tsz49 tagg49 tarr49 tkind49 tpl49 tz49 tslc49 tsz50 tagg50 tarr50 tkind50 tfld50x0 tfld50x1 tpl50 tz50 tsz51 tagg51 tarr51 tkind51 tfld51x0 tfld51x1 tpl51 tz51 tby51 tsz57 tagg57 tarr57 tkind57 tpl57 tz57 tleaf57 tsz60 tagg60 tarr60 tkind60 tfld60x0 tfld60x1 tpl60 tz60 tsz61 tagg61 tarr61 tkind61 tfld61x0 tfld61x1 tpl61 tz61 tleaf61 tsz63 tagg63 tarr63 tkind63 tpl63 tz63 tslc63 tsz71 tagg71 tarr71 tkind71 tfld71x0 tfld71x1 tfld71x2 tfld71x3 tpl71 tz71 tleaf71 tby71 tsz75 tagg75 tarr75 tkind75 tpl75 tz75 tslc75 tsz76 tagg76 tarr76 tkind76 tpl76 tz76 tslc76 tsz77 tagg77 tarr77 tkind77 tfld77x0 tfld77x1 tfld77x2 tfld77x3 tpl77 tz77 tsz78 tagg78 tarr78 tkind78 tfld78x0 tfld78x1 tfld78x2 tfld78x3 tpl78 tz78 tsz85 tagg85 tarr85 tkind85 tpl85 tz85 tslc85 tsz86 tagg86 tarr86 tkind86 tpl86 tz86 tslc86 tsz91 tagg91 tarr91 tkind91 tpl91 tz91 tptr91 tsz94 tagg94 tarr94 tkind94 tfld94x0 tfld94x1 tpl94 tz94 tsz95 tagg95 tarr95 tkind95 tfld95x0 tfld95x1 tpl95 tz95 tby95 tsz96 tagg96 tarr96 tkind96 tpl96 tz96 tmap96 tsz97 tagg97 tarr97 tkind97 tfld97x0 tfld97x1 tfld97x2 tpl97 tz97 tsz98 tagg98 tarr98 tkind98 tfld98x0 tfld98x1 tfld98x2 tpl98 tz98 tsz101 tagg101 tarr101 tkind101 tpl101 tz101 tslc101 tsz104 tagg104 tarr104 tkind104 tpl104 tz104 tptr104 tsz107 tagg107 tarr107 tkind107 tfld107x0 tfld107x1 tpl107 tz107 tsz108 tagg108 tarr108 tkind108 tfld108x0 tfld108x1 tpl108 tz108 tby108 tsz110 tagg110 tarr110 tkind110 tfld110x0 tfld110x1 tpl110 tz110 tsz111 tagg111 tarr111 tkind111 tfld111x0 tfld111x1 tpl111 tz111 tby111 tsz114 tagg114 tarr114 tkind114 tfld114x0 tfld114x1 tpl114 tz114 tsz115 tagg115 tarr115 tkind115 tfld115x0 tfld115x1 tpl115 tz115 tleaf115 tsz125 tagg125 tarr125 tkind125 tfld125x0 tfld125x1 tpl125 tz125 tsz126 tagg126 tarr126 tkind126 tfld126x0 tfld126x1 tpl126 tz126 tby126 tsz133 tagg133 tarr133 tkind133 tpl133 tz133 tsz134 tagg134 tarr134 tkind134 tfld134x0 tpl134 tz134 tsz135 tagg135 tarr135 tkind135 tfld135x0 tpl135 tz135 tsz139 tagg139 tarr139 tkind139 tpl139 tz139 tslc139 tsz140 tagg140 tarr140 tkind140 tfld140x0 tpl140 tz140 tsz141 tagg141 tarr141 tkind141 tfld141x0 tpl141 tz141 tsz159 tagg159 tarr159 tkind159 tpl159 tz159 tslc159 tsz168 tagg168 tarr168 tkind168 tpl168 tz168 tslc168 tsz173 tagg173 tarr173 tkind173 tfld173x0 tfld173x1 tfld173x2 tfld173x3 tpl173 tz173 tsz174 tagg174 tarr174 tkind174 tfld174x0 tfld174x1 tfld174x2 tfld174x3 tpl174 tz174 tsz175 tagg175 tarr175 tkind175 tpl175 tz175 tsz176 tagg176 tarr176 tkind176 tfld176x0 tpl176 tz176 tsz177 tagg177 tarr177 tkind177 tfld177x0 tpl177 tz177 tsz178 tagg178 tarr178 tkind178 tpl178 tz178 tint178 tsz179 tagg179 tarr179 tkind179 tpl179 tz179 tint179 tsz180 tagg180 tarr180 tkind180 tpl180 tz180 tint180 tsz182 tagg182 tarr182 tkind182 tpl182 tz182 tptr182 tsz183 tagg183 tarr183 tkind183 tpl183 tz183 tint183 tsz184 tagg184 tarr184 tkind184 tpl184 tz184 tint184 tsz185 tagg185 tarr185 tkind185 tfld185x0 tfld185x1 tfld185x2 tfld185x3 tfld185x4 tfld185x5 tfld185x6 tfld185x7 tfld185x8 tfld185x9 tfld185x10 tpl185 tz185 tsz186 tagg186 tarr186 tkind186 tfld186x0 tfld186x1 tfld186x2 tfld186x3 tfld186x4 tfld186x5 tfld186x6 tfld186x7 tfld186x8 tfld186x9 tfld186x10 tpl186 tz186
end Go.Proofs.Ytagjblkfgjcmnaa
