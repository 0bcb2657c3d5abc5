/-
  What the program's tables say of its types: how many cells, where a field lies, what a variable holds at first. Each by the kernel's own reckoning.
  Conditions: none.
-/
import Derived.Test.YtfokingbglkmjaaProg
import Derived.Test.YtfokingbglkmjaaSx11
namespace Go.Proofs.Ytfokingbglkmjaa
open Go.Sx

theorem tsz2 : tsz Try.prog 2 = some 1 := by kernel_rfl
theorem tagg2 : tagg Try.prog 2 = some false := by kernel_rfl
theorem tarr2 : tarr Try.prog 2 = none := by kernel_rfl
theorem tkind2 : tkind Try.prog 2 = some .oth := by kernel_rfl
theorem tpl2 : tplaces Try.prog 2 = none := by kernel_rfl
theorem tz2 : tzero Try.prog 2 = some [.int .i64 0] := by kernel_rfl
theorem tint2 : tint Try.prog 2 = some (some .i64) := by kernel_rfl
theorem tsz3 : tsz Try.prog 3 = some 1 := by kernel_rfl
theorem tagg3 : tagg Try.prog 3 = some false := by kernel_rfl
theorem tarr3 : tarr Try.prog 3 = none := by kernel_rfl
theorem tkind3 : tkind Try.prog 3 = some .oth := by kernel_rfl
theorem tpl3 : tplaces Try.prog 3 = none := by kernel_rfl
theorem tz3 : tzero Try.prog 3 = some [.int .i64 0] := by kernel_rfl
theorem tby3 : tby Try.prog 3 = some 8 := by kernel_rfl
theorem tint3 : tint Try.prog 3 = some (some .i64) := by kernel_rfl
theorem tsz4 : tsz Try.prog 4 = some 1 := by kernel_rfl
theorem tagg4 : tagg Try.prog 4 = some false := by kernel_rfl
theorem tarr4 : tarr Try.prog 4 = none := by kernel_rfl
theorem tkind4 : tkind Try.prog 4 = some .oth := by kernel_rfl
theorem tpl4 : tplaces Try.prog 4 = none := by kernel_rfl
theorem tz4 : tzero Try.prog 4 = some [.bool false] := by kernel_rfl
theorem tbool4 : tbool Try.prog 4 = some true := by kernel_rfl
theorem tsz5 : tsz Try.prog 5 = some 1 := by kernel_rfl
theorem tagg5 : tagg Try.prog 5 = some false := by kernel_rfl
theorem tarr5 : tarr Try.prog 5 = none := by kernel_rfl
theorem tkind5 : tkind Try.prog 5 = some .oth := by kernel_rfl
theorem tpl5 : tplaces Try.prog 5 = none := by kernel_rfl
theorem tz5 : tzero Try.prog 5 = some [.int .u8 0] := by kernel_rfl
theorem tby5 : tby Try.prog 5 = some 1 := by kernel_rfl
theorem tint5 : tint Try.prog 5 = some (some .u8) := by kernel_rfl
theorem tsz6 : tsz Try.prog 6 = some 1 := by kernel_rfl
theorem tagg6 : tagg Try.prog 6 = some false := by kernel_rfl
theorem tarr6 : tarr Try.prog 6 = none := by kernel_rfl
theorem tkind6 : tkind Try.prog 6 = some .oth := by kernel_rfl
theorem tpl6 : tplaces Try.prog 6 = none := by kernel_rfl
theorem tz6 : tzero Try.prog 6 = some [.int .u8 0] := by kernel_rfl
theorem tint6 : tint Try.prog 6 = some (some .u8) := by kernel_rfl
theorem tsz7 : tsz Try.prog 7 = some 4 := by kernel_rfl
theorem tagg7 : tagg Try.prog 7 = some true := by kernel_rfl
theorem tarr7 : tarr Try.prog 7 = none := by kernel_rfl
theorem tkind7 : tkind Try.prog 7 = some .oth := by kernel_rfl
theorem tfld7x0 : tfld Try.prog 7 0 = some (0, 2) := by kernel_rfl
theorem tfld7x1 : tfld Try.prog 7 1 = some (1, 3) := by kernel_rfl
theorem tfld7x2 : tfld Try.prog 7 2 = some (2, 4) := by kernel_rfl
theorem tfld7x3 : tfld Try.prog 7 3 = some (3, 6) := by kernel_rfl
theorem tpl7 : tplaces Try.prog 7 = some [(0, 1), (1, 1), (2, 1), (3, 1)] := by kernel_rfl
theorem tz7 : tzero Try.prog 7 = some [.int .i64 0, .int .i64 0, .bool false, .int .u8 0] := by kernel_rfl
theorem tsz8 : tsz Try.prog 8 = some 4 := by kernel_rfl
theorem tagg8 : tagg Try.prog 8 = some true := by kernel_rfl
theorem tarr8 : tarr Try.prog 8 = none := by kernel_rfl
theorem tkind8 : tkind Try.prog 8 = some .oth := by kernel_rfl
theorem tfld8x0 : tfld Try.prog 8 0 = some (0, 2) := by kernel_rfl
theorem tfld8x1 : tfld Try.prog 8 1 = some (1, 3) := by kernel_rfl
theorem tfld8x2 : tfld Try.prog 8 2 = some (2, 4) := by kernel_rfl
theorem tfld8x3 : tfld Try.prog 8 3 = some (3, 6) := by kernel_rfl
theorem tpl8 : tplaces Try.prog 8 = some [(0, 1), (1, 1), (2, 1), (3, 1)] := by kernel_rfl
theorem tz8 : tzero Try.prog 8 = some [.int .i64 0, .int .i64 0, .bool false, .int .u8 0] := by kernel_rfl
theorem tsz9 : tsz Try.prog 9 = some 1 := by kernel_rfl
theorem tagg9 : tagg Try.prog 9 = some false := by kernel_rfl
theorem tarr9 : tarr Try.prog 9 = none := by kernel_rfl
theorem tkind9 : tkind Try.prog 9 = some .str := by kernel_rfl
theorem tpl9 : tplaces Try.prog 9 = none := by kernel_rfl
theorem tz9 : tzero Try.prog 9 = some [.string ByteArray.empty] := by kernel_rfl
theorem tby9 : tby Try.prog 9 = some 16 := by kernel_rfl
theorem tsz10 : tsz Try.prog 10 = some 1 := by kernel_rfl
theorem tagg10 : tagg Try.prog 10 = some false := by kernel_rfl
theorem tarr10 : tarr Try.prog 10 = none := by kernel_rfl
theorem tkind10 : tkind Try.prog 10 = some .str := by kernel_rfl
theorem tpl10 : tplaces Try.prog 10 = none := by kernel_rfl
theorem tz10 : tzero Try.prog 10 = some [.string ByteArray.empty] := by kernel_rfl
theorem tsz11 : tsz Try.prog 11 = some 1 := by kernel_rfl
theorem tagg11 : tagg Try.prog 11 = some false := by kernel_rfl
theorem tarr11 : tarr Try.prog 11 = none := by kernel_rfl
theorem tkind11 : tkind Try.prog 11 = some .str := by kernel_rfl
theorem tpl11 : tplaces Try.prog 11 = none := by kernel_rfl
theorem tz11 : tzero Try.prog 11 = some [.string ByteArray.empty] := by kernel_rfl
theorem tsz12 : tsz Try.prog 12 = some 1 := by kernel_rfl
theorem tagg12 : tagg Try.prog 12 = some false := by kernel_rfl
theorem tarr12 : tarr Try.prog 12 = none := by kernel_rfl
theorem tkind12 : tkind Try.prog 12 = some .oth := by kernel_rfl
theorem tpl12 : tplaces Try.prog 12 = none := by kernel_rfl
theorem tz12 : tzero Try.prog 12 = some [.int .u64 0] := by kernel_rfl
theorem tint12 : tint Try.prog 12 = some (some .u64) := by kernel_rfl
theorem tsz13 : tsz Try.prog 13 = some 2 := by kernel_rfl
theorem tagg13 : tagg Try.prog 13 = some true := by kernel_rfl
theorem tarr13 : tarr Try.prog 13 = none := by kernel_rfl
theorem tkind13 : tkind Try.prog 13 = some .oth := by kernel_rfl
theorem tfld13x0 : tfld Try.prog 13 0 = some (0, 9) := by kernel_rfl
theorem tfld13x1 : tfld Try.prog 13 1 = some (1, 12) := by kernel_rfl
theorem tpl13 : tplaces Try.prog 13 = some [(0, 1), (1, 1)] := by kernel_rfl
theorem tz13 : tzero Try.prog 13 = some [.string ByteArray.empty, .int .u64 0] := by kernel_rfl
theorem tsz14 : tsz Try.prog 14 = some 2 := by kernel_rfl
theorem tagg14 : tagg Try.prog 14 = some true := by kernel_rfl
theorem tarr14 : tarr Try.prog 14 = none := by kernel_rfl
theorem tkind14 : tkind Try.prog 14 = some .oth := by kernel_rfl
theorem tfld14x0 : tfld Try.prog 14 0 = some (0, 9) := by kernel_rfl
theorem tfld14x1 : tfld Try.prog 14 1 = some (1, 12) := by kernel_rfl
theorem tpl14 : tplaces Try.prog 14 = some [(0, 1), (1, 1)] := by kernel_rfl
theorem tz14 : tzero Try.prog 14 = some [.string ByteArray.empty, .int .u64 0] := by kernel_rfl
theorem tsz15 : tsz Try.prog 15 = some 1 := by kernel_rfl
theorem tagg15 : tagg Try.prog 15 = some false := by kernel_rfl
theorem tarr15 : tarr Try.prog 15 = none := by kernel_rfl
theorem tkind15 : tkind Try.prog 15 = some .oth := by kernel_rfl
theorem tpl15 : tplaces Try.prog 15 = none := by kernel_rfl
theorem tz15 : tzero Try.prog 15 = some [.pointer none] := by kernel_rfl
theorem tptr15 : tptr Try.prog 15 = some true := by kernel_rfl
theorem tsz16 : tsz Try.prog 16 = some 1 := by kernel_rfl
theorem tagg16 : tagg Try.prog 16 = some false := by kernel_rfl
theorem tarr16 : tarr Try.prog 16 = none := by kernel_rfl
theorem tkind16 : tkind Try.prog 16 = some .oth := by kernel_rfl
theorem tpl16 : tplaces Try.prog 16 = none := by kernel_rfl
theorem tz16 : tzero Try.prog 16 = some [.pointer none] := by kernel_rfl
theorem tptr16 : tptr Try.prog 16 = some true := by kernel_rfl
theorem tsz17 : tsz Try.prog 17 = some 1 := by kernel_rfl
theorem tagg17 : tagg Try.prog 17 = some false := by kernel_rfl
theorem tarr17 : tarr Try.prog 17 = none := by kernel_rfl
theorem tkind17 : tkind Try.prog 17 = some .oth := by kernel_rfl
theorem tpl17 : tplaces Try.prog 17 = none := by kernel_rfl
theorem tz17 : tzero Try.prog 17 = some [.pointer none] := by kernel_rfl
theorem tptr17 : tptr Try.prog 17 = some true := by kernel_rfl
theorem tsz18 : tsz Try.prog 18 = some 1 := by kernel_rfl
theorem tagg18 : tagg Try.prog 18 = some true := by kernel_rfl
theorem tarr18 : tarr Try.prog 18 = none := by kernel_rfl
theorem tkind18 : tkind Try.prog 18 = some .oth := by kernel_rfl
theorem tfld18x0 : tfld Try.prog 18 0 = some (0, 17) := by kernel_rfl
theorem tpl18 : tplaces Try.prog 18 = some [(0, 1)] := by kernel_rfl
theorem tz18 : tzero Try.prog 18 = some [.pointer none] := by kernel_rfl
theorem tsz19 : tsz Try.prog 19 = some 1 := by kernel_rfl
theorem tagg19 : tagg Try.prog 19 = some true := by kernel_rfl
theorem tarr19 : tarr Try.prog 19 = none := by kernel_rfl
theorem tkind19 : tkind Try.prog 19 = some .oth := by kernel_rfl
theorem tfld19x0 : tfld Try.prog 19 0 = some (0, 17) := by kernel_rfl
theorem tpl19 : tplaces Try.prog 19 = some [(0, 1)] := by kernel_rfl
theorem tz19 : tzero Try.prog 19 = some [.pointer none] := by kernel_rfl
theorem tsz20 : tsz Try.prog 20 = some 1 := by kernel_rfl
theorem tagg20 : tagg Try.prog 20 = some false := by kernel_rfl
theorem tarr20 : tarr Try.prog 20 = none := by kernel_rfl
theorem tkind20 : tkind Try.prog 20 = some .oth := by kernel_rfl
theorem tpl20 : tplaces Try.prog 20 = none := by kernel_rfl
theorem tz20 : tzero Try.prog 20 = some [.nilIface] := by kernel_rfl
theorem tsz21 : tsz Try.prog 21 = some 1 := by kernel_rfl
theorem tagg21 : tagg Try.prog 21 = some false := by kernel_rfl
theorem tarr21 : tarr Try.prog 21 = none := by kernel_rfl
theorem tkind21 : tkind Try.prog 21 = some .oth := by kernel_rfl
theorem tpl21 : tplaces Try.prog 21 = none := by kernel_rfl
theorem tz21 : tzero Try.prog 21 = some [.int .i32 0] := by kernel_rfl
theorem tint21 : tint Try.prog 21 = some (some .i32) := by kernel_rfl
theorem tsz22 : tsz Try.prog 22 = some 1 := by kernel_rfl
theorem tagg22 : tagg Try.prog 22 = some false := by kernel_rfl
theorem tarr22 : tarr Try.prog 22 = none := by kernel_rfl
theorem tkind22 : tkind Try.prog 22 = some (.slc 45) := by kernel_rfl
theorem tpl22 : tplaces Try.prog 22 = none := by kernel_rfl
theorem tz22 : tzero Try.prog 22 = some [.slice none 0 0] := by kernel_rfl
theorem tslc22 : tslc Try.prog 22 = some true := by kernel_rfl
theorem tsz23 : tsz Try.prog 23 = some 1 := by kernel_rfl
theorem tagg23 : tagg Try.prog 23 = some false := by kernel_rfl
theorem tarr23 : tarr Try.prog 23 = none := by kernel_rfl
theorem tkind23 : tkind Try.prog 23 = some .oth := by kernel_rfl
theorem tpl23 : tplaces Try.prog 23 = none := by kernel_rfl
theorem tz23 : tzero Try.prog 23 = some [.int .u64 0] := by kernel_rfl
theorem tby23 : tby Try.prog 23 = some 8 := by kernel_rfl
theorem tint23 : tint Try.prog 23 = some (some .u64) := by kernel_rfl
theorem tsz24 : tsz Try.prog 24 = some 4 := by kernel_rfl
theorem tagg24 : tagg Try.prog 24 = some true := by kernel_rfl
theorem tarr24 : tarr Try.prog 24 = none := by kernel_rfl
theorem tkind24 : tkind Try.prog 24 = some (.arr 4 23) := by kernel_rfl
theorem tpl24 : tplaces Try.prog 24 = none := by kernel_rfl
theorem tz24 : tzero Try.prog 24 = some [.int .u64 0, .int .u64 0, .int .u64 0, .int .u64 0] := by kernel_rfl
theorem tsz25 : tsz Try.prog 25 = some 4 := by kernel_rfl
theorem tagg25 : tagg Try.prog 25 = some true := by kernel_rfl
theorem tarr25 : tarr Try.prog 25 = none := by kernel_rfl
theorem tkind25 : tkind Try.prog 25 = some (.arr 4 23) := by kernel_rfl
theorem tpl25 : tplaces Try.prog 25 = none := by kernel_rfl
theorem tz25 : tzero Try.prog 25 = some [.int .u64 0, .int .u64 0, .int .u64 0, .int .u64 0] := by kernel_rfl
theorem tleaf25 : tleaf Try.prog 25 = some [.i, .i, .i, .i] := by kernel_rfl
theorem tsz26 : tsz Try.prog 26 = some 5 := by kernel_rfl
theorem tagg26 : tagg Try.prog 26 = some true := by kernel_rfl
theorem tarr26 : tarr Try.prog 26 = none := by kernel_rfl
theorem tkind26 : tkind Try.prog 26 = some .oth := by kernel_rfl
theorem tfld26x0 : tfld Try.prog 26 0 = some (0, 25) := by kernel_rfl
theorem tfld26x1 : tfld Try.prog 26 1 = some (4, 4) := by kernel_rfl
theorem tpl26 : tplaces Try.prog 26 = some [(0, 4), (4, 1)] := by kernel_rfl
theorem tz26 : tzero Try.prog 26 = some [.int .u64 0, .int .u64 0, .int .u64 0, .int .u64 0, .bool false] := by kernel_rfl
theorem tsz27 : tsz Try.prog 27 = some 5 := by kernel_rfl
theorem tagg27 : tagg Try.prog 27 = some true := by kernel_rfl
theorem tarr27 : tarr Try.prog 27 = none := by kernel_rfl
theorem tkind27 : tkind Try.prog 27 = some .oth := by kernel_rfl
theorem tfld27x0 : tfld Try.prog 27 0 = some (0, 25) := by kernel_rfl
theorem tfld27x1 : tfld Try.prog 27 1 = some (4, 4) := by kernel_rfl
theorem tpl27 : tplaces Try.prog 27 = some [(0, 4), (4, 1)] := by kernel_rfl
theorem tz27 : tzero Try.prog 27 = some [.int .u64 0, .int .u64 0, .int .u64 0, .int .u64 0, .bool false] := by kernel_rfl
theorem tby27 : tby Try.prog 27 = some 40 := by kernel_rfl
theorem tsz29 : tsz Try.prog 29 = some 1 := by kernel_rfl
theorem tagg29 : tagg Try.prog 29 = some false := by kernel_rfl
theorem tarr29 : tarr Try.prog 29 = none := by kernel_rfl
theorem tkind29 : tkind Try.prog 29 = some .oth := by kernel_rfl
theorem tpl29 : tplaces Try.prog 29 = none := by kernel_rfl
theorem tz29 : tzero Try.prog 29 = some [.pointer none] := by kernel_rfl
theorem tptr29 : tptr Try.prog 29 = some true := by kernel_rfl
theorem tsz31 : tsz Try.prog 31 = some 1 := by kernel_rfl
theorem tagg31 : tagg Try.prog 31 = some false := by kernel_rfl
theorem tarr31 : tarr Try.prog 31 = none := by kernel_rfl
theorem tkind31 : tkind Try.prog 31 = some .oth := by kernel_rfl
theorem tpl31 : tplaces Try.prog 31 = none := by kernel_rfl
theorem tz31 : tzero Try.prog 31 = some [.pointer none] := by kernel_rfl
theorem tptr31 : tptr Try.prog 31 = some true := by kernel_rfl
theorem tsz32 : tsz Try.prog 32 = some 4 := by kernel_rfl
theorem tagg32 : tagg Try.prog 32 = some true := by kernel_rfl
theorem tarr32 : tarr Try.prog 32 = none := by kernel_rfl
theorem tkind32 : tkind Try.prog 32 = some (.arr 4 23) := by kernel_rfl
theorem tpl32 : tplaces Try.prog 32 = none := by kernel_rfl
theorem tz32 : tzero Try.prog 32 = some [.int .u64 0, .int .u64 0, .int .u64 0, .int .u64 0] := by kernel_rfl
theorem tleaf32 : tleaf Try.prog 32 = some [.i, .i, .i, .i] := by kernel_rfl
theorem tsz33 : tsz Try.prog 33 = some 1 := by kernel_rfl
theorem tagg33 : tagg Try.prog 33 = some false := by kernel_rfl
theorem tarr33 : tarr Try.prog 33 = none := by kernel_rfl
theorem tkind33 : tkind Try.prog 33 = some (.slc 56) := by kernel_rfl
theorem tpl33 : tplaces Try.prog 33 = none := by kernel_rfl
theorem tz33 : tzero Try.prog 33 = some [.slice none 0 0] := by kernel_rfl
theorem tslc33 : tslc Try.prog 33 = some true := by kernel_rfl
theorem tsz34 : tsz Try.prog 34 = some 10 := by kernel_rfl
theorem tagg34 : tagg Try.prog 34 = some true := by kernel_rfl
theorem tarr34 : tarr Try.prog 34 = none := by kernel_rfl
theorem tkind34 : tkind Try.prog 34 = some .oth := by kernel_rfl
theorem tfld34x0 : tfld Try.prog 34 0 = some (0, 32) := by kernel_rfl
theorem tfld34x1 : tfld Try.prog 34 1 = some (4, 4) := by kernel_rfl
theorem tfld34x2 : tfld Try.prog 34 2 = some (5, 32) := by kernel_rfl
theorem tfld34x3 : tfld Try.prog 34 3 = some (9, 33) := by kernel_rfl
theorem tpl34 : tplaces Try.prog 34 = some [(0, 4), (4, 1), (5, 4), (9, 1)] := by kernel_rfl
theorem tz34 : tzero Try.prog 34 = some [.int .u64 0, .int .u64 0, .int .u64 0, .int .u64 0, .bool false, .int .u64 0, .int .u64 0, .int .u64 0, .int .u64 0, .slice none 0 0] := by kernel_rfl
theorem tsz35 : tsz Try.prog 35 = some 10 := by kernel_rfl
theorem tagg35 : tagg Try.prog 35 = some true := by kernel_rfl
theorem tarr35 : tarr Try.prog 35 = none := by kernel_rfl
theorem tkind35 : tkind Try.prog 35 = some .oth := by kernel_rfl
theorem tfld35x0 : tfld Try.prog 35 0 = some (0, 32) := by kernel_rfl
theorem tfld35x1 : tfld Try.prog 35 1 = some (4, 4) := by kernel_rfl
theorem tfld35x2 : tfld Try.prog 35 2 = some (5, 32) := by kernel_rfl
theorem tfld35x3 : tfld Try.prog 35 3 = some (9, 33) := by kernel_rfl
theorem tpl35 : tplaces Try.prog 35 = some [(0, 4), (4, 1), (5, 4), (9, 1)] := by kernel_rfl
theorem tz35 : tzero Try.prog 35 = some [.int .u64 0, .int .u64 0, .int .u64 0, .int .u64 0, .bool false, .int .u64 0, .int .u64 0, .int .u64 0, .int .u64 0, .slice none 0 0] := by kernel_rfl
theorem tsz36 : tsz Try.prog 36 = some 90 := by kernel_rfl
theorem tagg36 : tagg Try.prog 36 = some true := by kernel_rfl
theorem tarr36 : tarr Try.prog 36 = some (9, 10) := by kernel_rfl
theorem tkind36 : tkind Try.prog 36 = some (.arr 9 35) := by kernel_rfl
theorem tpl36 : tplaces Try.prog 36 = none := by kernel_rfl
theorem tz36 : tzero Try.prog 36 = some [.int .u64 0, .int .u64 0, .int .u64 0, .int .u64 0, .bool false, .int .u64 0, .int .u64 0, .int .u64 0, .int .u64 0, .slice none 0 0, .int .u64 0, .int .u64 0, .int .u64 0, .int .u64 0, .bool false, .int .u64 0, .int .u64 0, .int .u64 0, .int .u64 0, .slice none 0 0, .int .u64 0, .int .u64 0, .int .u64 0, .int .u64 0, .bool false, .int .u64 0, .int .u64 0, .int .u64 0, .int .u64 0, .slice none 0 0, .int .u64 0, .int .u64 0, .int .u64 0, .int .u64 0, .bool false, .int .u64 0, .int .u64 0, .int .u64 0, .int .u64 0, .slice none 0 0, .int .u64 0, .int .u64 0, .int .u64 0, .int .u64 0, .bool false, .int .u64 0, .int .u64 0, .int .u64 0, .int .u64 0, .slice none 0 0, .int .u64 0, .int .u64 0, .int .u64 0, .int .u64 0, .bool false, .int .u64 0, .int .u64 0, .int .u64 0, .int .u64 0, .slice none 0 0, .int .u64 0, .int .u64 0, .int .u64 0, .int .u64 0, .bool false, .int .u64 0, .int .u64 0, .int .u64 0, .int .u64 0, .slice none 0 0, .int .u64 0, .int .u64 0, .int .u64 0, .int .u64 0, .bool false, .int .u64 0, .int .u64 0, .int .u64 0, .int .u64 0, .slice none 0 0, .int .u64 0, .int .u64 0, .int .u64 0, .int .u64 0, .bool false, .int .u64 0, .int .u64 0, .int .u64 0, .int .u64 0, .slice none 0 0] := by kernel_rfl
theorem tsz37 : tsz Try.prog 37 = some 90 := by kernel_rfl
theorem tagg37 : tagg Try.prog 37 = some true := by kernel_rfl
theorem tarr37 : tarr Try.prog 37 = none := by kernel_rfl
theorem tkind37 : tkind Try.prog 37 = some .oth := by kernel_rfl
theorem tfld37x0 : tfld Try.prog 37 0 = some (0, 36) := by kernel_rfl
theorem tpl37 : tplaces Try.prog 37 = some [(0, 90)] := by kernel_rfl
theorem tz37 : tzero Try.prog 37 = some [.int .u64 0, .int .u64 0, .int .u64 0, .int .u64 0, .bool false, .int .u64 0, .int .u64 0, .int .u64 0, .int .u64 0, .slice none 0 0, .int .u64 0, .int .u64 0, .int .u64 0, .int .u64 0, .bool false, .int .u64 0, .int .u64 0, .int .u64 0, .int .u64 0, .slice none 0 0, .int .u64 0, .int .u64 0, .int .u64 0, .int .u64 0, .bool false, .int .u64 0, .int .u64 0, .int .u64 0, .int .u64 0, .slice none 0 0, .int .u64 0, .int .u64 0, .int .u64 0, .int .u64 0, .bool false, .int .u64 0, .int .u64 0, .int .u64 0, .int .u64 0, .slice none 0 0, .int .u64 0, .int .u64 0, .int .u64 0, .int .u64 0, .bool false, .int .u64 0, .int .u64 0, .int .u64 0, .int .u64 0, .slice none 0 0, .int .u64 0, .int .u64 0, .int .u64 0, .int .u64 0, .bool false, .int .u64 0, .int .u64 0, .int .u64 0, .int .u64 0, .slice none 0 0, .int .u64 0, .int .u64 0, .int .u64 0, .int .u64 0, .bool false, .int .u64 0, .int .u64 0, .int .u64 0, .int .u64 0, .slice none 0 0, .int .u64 0, .int .u64 0, .int .u64 0, .int .u64 0, .bool false, .int .u64 0, .int .u64 0, .int .u64 0, .int .u64 0, .slice none 0 0, .int .u64 0, .int .u64 0, .int .u64 0, .int .u64 0, .bool false, .int .u64 0, .int .u64 0, .int .u64 0, .int .u64 0, .slice none 0 0] := by kernel_rfl
theorem tsz38 : tsz Try.prog 38 = some 90 := by kernel_rfl
theorem tagg38 : tagg Try.prog 38 = some true := by kernel_rfl
theorem tarr38 : tarr Try.prog 38 = none := by kernel_rfl
theorem tkind38 : tkind Try.prog 38 = some .oth := by kernel_rfl
theorem tfld38x0 : tfld Try.prog 38 0 = some (0, 36) := by kernel_rfl
theorem tpl38 : tplaces Try.prog 38 = some [(0, 90)] := by kernel_rfl
theorem tz38 : tzero Try.prog 38 = some [.int .u64 0, .int .u64 0, .int .u64 0, .int .u64 0, .bool false, .int .u64 0, .int .u64 0, .int .u64 0, .int .u64 0, .slice none 0 0, .int .u64 0, .int .u64 0, .int .u64 0, .int .u64 0, .bool false, .int .u64 0, .int .u64 0, .int .u64 0, .int .u64 0, .slice none 0 0, .int .u64 0, .int .u64 0, .int .u64 0, .int .u64 0, .bool false, .int .u64 0, .int .u64 0, .int .u64 0, .int .u64 0, .slice none 0 0, .int .u64 0, .int .u64 0, .int .u64 0, .int .u64 0, .bool false, .int .u64 0, .int .u64 0, .int .u64 0, .int .u64 0, .slice none 0 0, .int .u64 0, .int .u64 0, .int .u64 0, .int .u64 0, .bool false, .int .u64 0, .int .u64 0, .int .u64 0, .int .u64 0, .slice none 0 0, .int .u64 0, .int .u64 0, .int .u64 0, .int .u64 0, .bool false, .int .u64 0, .int .u64 0, .int .u64 0, .int .u64 0, .slice none 0 0, .int .u64 0, .int .u64 0, .int .u64 0, .int .u64 0, .bool false, .int .u64 0, .int .u64 0, .int .u64 0, .int .u64 0, .slice none 0 0, .int .u64 0, .int .u64 0, .int .u64 0, .int .u64 0, .bool false, .int .u64 0, .int .u64 0, .int .u64 0, .int .u64 0, .slice none 0 0, .int .u64 0, .int .u64 0, .int .u64 0, .int .u64 0, .bool false, .int .u64 0, .int .u64 0, .int .u64 0, .int .u64 0, .slice none 0 0] := by kernel_rfl
theorem tsz40 : tsz Try.prog 40 = some 4 := by kernel_rfl
theorem tagg40 : tagg Try.prog 40 = some true := by kernel_rfl
theorem tarr40 : tarr Try.prog 40 = none := by kernel_rfl
theorem tkind40 : tkind Try.prog 40 = some .oth := by kernel_rfl
theorem tfld40x0 : tfld Try.prog 40 0 = some (0, 9) := by kernel_rfl
theorem tfld40x1 : tfld Try.prog 40 1 = some (1, 9) := by kernel_rfl
theorem tfld40x2 : tfld Try.prog 40 2 = some (2, 9) := by kernel_rfl
theorem tfld40x3 : tfld Try.prog 40 3 = some (3, 4) := by kernel_rfl
theorem tpl40 : tplaces Try.prog 40 = some [(0, 1), (1, 1), (2, 1), (3, 1)] := by kernel_rfl
theorem tz40 : tzero Try.prog 40 = some [.string ByteArray.empty, .string ByteArray.empty, .string ByteArray.empty, .bool false] := by kernel_rfl
theorem tsz41 : tsz Try.prog 41 = some 4 := by kernel_rfl
theorem tagg41 : tagg Try.prog 41 = some true := by kernel_rfl
theorem tarr41 : tarr Try.prog 41 = none := by kernel_rfl
theorem tkind41 : tkind Try.prog 41 = some .oth := by kernel_rfl
theorem tfld41x0 : tfld Try.prog 41 0 = some (0, 9) := by kernel_rfl
theorem tfld41x1 : tfld Try.prog 41 1 = some (1, 9) := by kernel_rfl
theorem tfld41x2 : tfld Try.prog 41 2 = some (2, 9) := by kernel_rfl
theorem tfld41x3 : tfld Try.prog 41 3 = some (3, 4) := by kernel_rfl
theorem tpl41 : tplaces Try.prog 41 = some [(0, 1), (1, 1), (2, 1), (3, 1)] := by kernel_rfl
theorem tz41 : tzero Try.prog 41 = some [.string ByteArray.empty, .string ByteArray.empty, .string ByteArray.empty, .bool false] := by kernel_rfl
theorem tleaf41 : tleaf Try.prog 41 = some [.s, .s, .s, .b] := by kernel_rfl
theorem tby41 : tby Try.prog 41 = some 56 := by kernel_rfl
theorem tsz42 : tsz Try.prog 42 = some 6 := by kernel_rfl
theorem tagg42 : tagg Try.prog 42 = some true := by kernel_rfl
theorem tarr42 : tarr Try.prog 42 = none := by kernel_rfl
theorem tkind42 : tkind Try.prog 42 = some .oth := by kernel_rfl
theorem tfld42x0 : tfld Try.prog 42 0 = some (0, 41) := by kernel_rfl
theorem tfld42x1 : tfld Try.prog 42 1 = some (4, 4) := by kernel_rfl
theorem tfld42x2 : tfld Try.prog 42 2 = some (5, 5) := by kernel_rfl
theorem tpl42 : tplaces Try.prog 42 = some [(0, 4), (4, 1), (5, 1)] := by kernel_rfl
theorem tz42 : tzero Try.prog 42 = some [.string ByteArray.empty, .string ByteArray.empty, .string ByteArray.empty, .bool false, .bool false, .int .u8 0] := by kernel_rfl
theorem tsz43 : tsz Try.prog 43 = some 6 := by kernel_rfl
theorem tagg43 : tagg Try.prog 43 = some true := by kernel_rfl
theorem tarr43 : tarr Try.prog 43 = none := by kernel_rfl
theorem tkind43 : tkind Try.prog 43 = some .oth := by kernel_rfl
theorem tfld43x0 : tfld Try.prog 43 0 = some (0, 41) := by kernel_rfl
theorem tfld43x1 : tfld Try.prog 43 1 = some (4, 4) := by kernel_rfl
theorem tfld43x2 : tfld Try.prog 43 2 = some (5, 5) := by kernel_rfl
theorem tpl43 : tplaces Try.prog 43 = some [(0, 4), (4, 1), (5, 1)] := by kernel_rfl
theorem tz43 : tzero Try.prog 43 = some [.string ByteArray.empty, .string ByteArray.empty, .string ByteArray.empty, .bool false, .bool false, .int .u8 0] := by kernel_rfl
theorem tby43 : tby Try.prog 43 = some 64 := by kernel_rfl
theorem tsz44 : tsz Try.prog 44 = some 14 := by kernel_rfl
theorem tagg44 : tagg Try.prog 44 = some true := by kernel_rfl
theorem tarr44 : tarr Try.prog 44 = none := by kernel_rfl
theorem tkind44 : tkind Try.prog 44 = some .oth := by kernel_rfl
theorem tfld44x0 : tfld Try.prog 44 0 = some (0, 5) := by kernel_rfl
theorem tfld44x1 : tfld Try.prog 44 1 = some (1, 3) := by kernel_rfl
theorem tfld44x2 : tfld Try.prog 44 2 = some (2, 27) := by kernel_rfl
theorem tfld44x3 : tfld Try.prog 44 3 = some (7, 43) := by kernel_rfl
theorem tfld44x4 : tfld Try.prog 44 4 = some (13, 4) := by kernel_rfl
theorem tpl44 : tplaces Try.prog 44 = some [(0, 1), (1, 1), (2, 5), (7, 6), (13, 1)] := by kernel_rfl
theorem tz44 : tzero Try.prog 44 = some [.int .u8 0, .int .i64 0, .int .u64 0, .int .u64 0, .int .u64 0, .int .u64 0, .bool false, .string ByteArray.empty, .string ByteArray.empty, .string ByteArray.empty, .bool false, .bool false, .int .u8 0, .bool false] := by kernel_rfl
theorem tsz45 : tsz Try.prog 45 = some 14 := by kernel_rfl
theorem tagg45 : tagg Try.prog 45 = some true := by kernel_rfl
theorem tarr45 : tarr Try.prog 45 = none := by kernel_rfl
theorem tkind45 : tkind Try.prog 45 = some .oth := by kernel_rfl
theorem tfld45x0 : tfld Try.prog 45 0 = some (0, 5) := by kernel_rfl
theorem tfld45x1 : tfld Try.prog 45 1 = some (1, 3) := by kernel_rfl
theorem tfld45x2 : tfld Try.prog 45 2 = some (2, 27) := by kernel_rfl
theorem tfld45x3 : tfld Try.prog 45 3 = some (7, 43) := by kernel_rfl
theorem tfld45x4 : tfld Try.prog 45 4 = some (13, 4) := by kernel_rfl
theorem tpl45 : tplaces Try.prog 45 = some [(0, 1), (1, 1), (2, 5), (7, 6), (13, 1)] := by kernel_rfl
theorem tz45 : tzero Try.prog 45 = some [.int .u8 0, .int .i64 0, .int .u64 0, .int .u64 0, .int .u64 0, .int .u64 0, .bool false, .string ByteArray.empty, .string ByteArray.empty, .string ByteArray.empty, .bool false, .bool false, .int .u8 0, .bool false] := by kernel_rfl
theorem tby45 : tby Try.prog 45 = some 128 := by kernel_rfl
theorem tsz47 : tsz Try.prog 47 = some 1 := by kernel_rfl
theorem tagg47 : tagg Try.prog 47 = some false := by kernel_rfl
theorem tarr47 : tarr Try.prog 47 = none := by kernel_rfl
theorem tkind47 : tkind Try.prog 47 = some .oth := by kernel_rfl
theorem tpl47 : tplaces Try.prog 47 = none := by kernel_rfl
theorem tz47 : tzero Try.prog 47 = some [.int .i64 0] := by kernel_rfl
theorem tint47 : tint Try.prog 47 = some (some .i64) := by kernel_rfl
theorem tsz56 : tsz Try.prog 56 = some 4 := by kernel_rfl
theorem tagg56 : tagg Try.prog 56 = some true := by kernel_rfl
theorem tarr56 : tarr Try.prog 56 = none := by kernel_rfl
theorem tkind56 : tkind Try.prog 56 = some .oth := by kernel_rfl
theorem tfld56x0 : tfld Try.prog 56 0 = some (0, 9) := by kernel_rfl
theorem tfld56x1 : tfld Try.prog 56 1 = some (1, 9) := by kernel_rfl
theorem tfld56x2 : tfld Try.prog 56 2 = some (2, 9) := by kernel_rfl
theorem tfld56x3 : tfld Try.prog 56 3 = some (3, 4) := by kernel_rfl
theorem tpl56 : tplaces Try.prog 56 = some [(0, 1), (1, 1), (2, 1), (3, 1)] := by kernel_rfl
theorem tz56 : tzero Try.prog 56 = some [.string ByteArray.empty, .string ByteArray.empty, .string ByteArray.empty, .bool false] := by kernel_rfl
theorem tleaf56 : tleaf Try.prog 56 = some [.s, .s, .s, .b] := by kernel_rfl
theorem tby56 : tby Try.prog 56 = some 56 := by kernel_rfl
theorem tsz58 : tsz Try.prog 58 = some 1 := by kernel_rfl
theorem tagg58 : tagg Try.prog 58 = some false := by kernel_rfl
theorem tarr58 : tarr Try.prog 58 = none := by kernel_rfl
theorem tkind58 : tkind Try.prog 58 = some (.slc 41) := by kernel_rfl
theorem tpl58 : tplaces Try.prog 58 = none := by kernel_rfl
theorem tz58 : tzero Try.prog 58 = some [.slice none 0 0] := by kernel_rfl
theorem tslc58 : tslc Try.prog 58 = some true := by kernel_rfl
theorem tsz75 : tsz Try.prog 75 = some 1 := by kernel_rfl
theorem tagg75 : tagg Try.prog 75 = some false := by kernel_rfl
theorem tarr75 : tarr Try.prog 75 = none := by kernel_rfl
theorem tkind75 : tkind Try.prog 75 = some (.slc 43) := by kernel_rfl
theorem tpl75 : tplaces Try.prog 75 = none := by kernel_rfl
theorem tz75 : tzero Try.prog 75 = some [.slice none 0 0] := by kernel_rfl
theorem tslc75 : tslc Try.prog 75 = some true := by kernel_rfl
theorem tsz80 : tsz Try.prog 80 = some 1 := by kernel_rfl
theorem tagg80 : tagg Try.prog 80 = some false := by kernel_rfl
theorem tarr80 : tarr Try.prog 80 = none := by kernel_rfl
theorem tkind80 : tkind Try.prog 80 = some (.slc 27) := by kernel_rfl
theorem tpl80 : tplaces Try.prog 80 = none := by kernel_rfl
theorem tz80 : tzero Try.prog 80 = some [.slice none 0 0] := by kernel_rfl
theorem tslc80 : tslc Try.prog 80 = some true := by kernel_rfl
theorem tsz84 : tsz Try.prog 84 = some 1 := by kernel_rfl
theorem tagg84 : tagg Try.prog 84 = some false := by kernel_rfl
theorem tarr84 : tarr Try.prog 84 = none := by kernel_rfl
theorem tkind84 : tkind Try.prog 84 = some (.slc 5) := by kernel_rfl
theorem tpl84 : tplaces Try.prog 84 = none := by kernel_rfl
theorem tz84 : tzero Try.prog 84 = some [.slice none 0 0] := by kernel_rfl
theorem tslc84 : tslc Try.prog 84 = some true := by kernel_rfl
theorem tsz85 : tsz Try.prog 85 = some 40 := by kernel_rfl
theorem tagg85 : tagg Try.prog 85 = some true := by kernel_rfl
theorem tarr85 : tarr Try.prog 85 = some (10, 4) := by kernel_rfl
theorem tkind85 : tkind Try.prog 85 = some (.arr 10 25) := by kernel_rfl
theorem tpl85 : tplaces Try.prog 85 = none := by kernel_rfl
theorem tz85 : tzero Try.prog 85 = some [.int .u64 0, .int .u64 0, .int .u64 0, .int .u64 0, .int .u64 0, .int .u64 0, .int .u64 0, .int .u64 0, .int .u64 0, .int .u64 0, .int .u64 0, .int .u64 0, .int .u64 0, .int .u64 0, .int .u64 0, .int .u64 0, .int .u64 0, .int .u64 0, .int .u64 0, .int .u64 0, .int .u64 0, .int .u64 0, .int .u64 0, .int .u64 0, .int .u64 0, .int .u64 0, .int .u64 0, .int .u64 0, .int .u64 0, .int .u64 0, .int .u64 0, .int .u64 0, .int .u64 0, .int .u64 0, .int .u64 0, .int .u64 0, .int .u64 0, .int .u64 0, .int .u64 0, .int .u64 0] := by kernel_rfl
theorem tsz89 : tsz Try.prog 89 = some 1 := by kernel_rfl
theorem tagg89 : tagg Try.prog 89 = some false := by kernel_rfl
theorem tarr89 : tarr Try.prog 89 = none := by kernel_rfl
theorem tkind89 : tkind Try.prog 89 = some (.slc 9) := by kernel_rfl
theorem tpl89 : tplaces Try.prog 89 = none := by kernel_rfl
theorem tz89 : tzero Try.prog 89 = some [.slice none 0 0] := by kernel_rfl
theorem tslc89 : tslc Try.prog 89 = some true := by kernel_rfl
theorem tsz90 : tsz Try.prog 90 = some 1 := by kernel_rfl
theorem tagg90 : tagg Try.prog 90 = some false := by kernel_rfl
theorem tarr90 : tarr Try.prog 90 = none := by kernel_rfl
theorem tkind90 : tkind Try.prog 90 = some .oth := by kernel_rfl
theorem tpl90 : tplaces Try.prog 90 = none := by kernel_rfl
theorem tz90 : tzero Try.prog 90 = some [.int .u32 0] := by kernel_rfl
theorem tint90 : tint Try.prog 90 = some (some .u32) := by kernel_rfl
theorem tsz91 : tsz Try.prog 91 = some 1 := by kernel_rfl
theorem tagg91 : tagg Try.prog 91 = some false := by kernel_rfl
theorem tarr91 : tarr Try.prog 91 = none := by kernel_rfl
theorem tkind91 : tkind Try.prog 91 = some .oth := by kernel_rfl
theorem tpl91 : tplaces Try.prog 91 = none := by kernel_rfl
theorem tz91 : tzero Try.prog 91 = some [.pointer none] := by kernel_rfl
theorem tptr91 : tptr Try.prog 91 = some true := by kernel_rfl
theorem tsz100 : tsz Try.prog 100 = some 1 := by kernel_rfl
theorem tagg100 : tagg Try.prog 100 = some false := by kernel_rfl
theorem tarr100 : tarr Try.prog 100 = none := by kernel_rfl
theorem tkind100 : tkind Try.prog 100 = some (.slc 113) := by kernel_rfl
theorem tpl100 : tplaces Try.prog 100 = none := by kernel_rfl
theorem tz100 : tzero Try.prog 100 = some [.slice none 0 0] := by kernel_rfl
theorem tslc100 : tslc Try.prog 100 = some true := by kernel_rfl
theorem tsz101 : tsz Try.prog 101 = some 1 := by kernel_rfl
theorem tagg101 : tagg Try.prog 101 = some false := by kernel_rfl
theorem tarr101 : tarr Try.prog 101 = none := by kernel_rfl
theorem tkind101 : tkind Try.prog 101 = some .oth := by kernel_rfl
theorem tpl101 : tplaces Try.prog 101 = none := by kernel_rfl
theorem tz101 : tzero Try.prog 101 = some [.pointer none] := by kernel_rfl
theorem tptr101 : tptr Try.prog 101 = some true := by kernel_rfl
theorem tsz103 : tsz Try.prog 103 = some 1 := by kernel_rfl
theorem tagg103 : tagg Try.prog 103 = some false := by kernel_rfl
theorem tarr103 : tarr Try.prog 103 = none := by kernel_rfl
theorem tkind103 : tkind Try.prog 103 = some .oth := by kernel_rfl
theorem tpl103 : tplaces Try.prog 103 = none := by kernel_rfl
theorem tz103 : tzero Try.prog 103 = some [.pointer none] := by kernel_rfl
theorem tptr103 : tptr Try.prog 103 = some true := by kernel_rfl
theorem tsz104 : tsz Try.prog 104 = some 1 := by kernel_rfl
theorem tagg104 : tagg Try.prog 104 = some false := by kernel_rfl
theorem tarr104 : tarr Try.prog 104 = none := by kernel_rfl
theorem tkind104 : tkind Try.prog 104 = some (.slc 127) := by kernel_rfl
theorem tpl104 : tplaces Try.prog 104 = none := by kernel_rfl
theorem tz104 : tzero Try.prog 104 = some [.slice none 0 0] := by kernel_rfl
theorem tslc104 : tslc Try.prog 104 = some true := by kernel_rfl
theorem tsz105 : tsz Try.prog 105 = some 1 := by kernel_rfl
theorem tagg105 : tagg Try.prog 105 = some true := by kernel_rfl
theorem tarr105 : tarr Try.prog 105 = none := by kernel_rfl
theorem tkind105 : tkind Try.prog 105 = some .oth := by kernel_rfl
theorem tfld105x0 : tfld Try.prog 105 0 = some (0, 104) := by kernel_rfl
theorem tpl105 : tplaces Try.prog 105 = some [(0, 1)] := by kernel_rfl
theorem tz105 : tzero Try.prog 105 = some [.slice none 0 0] := by kernel_rfl
theorem tsz106 : tsz Try.prog 106 = some 1 := by kernel_rfl
theorem tagg106 : tagg Try.prog 106 = some true := by kernel_rfl
theorem tarr106 : tarr Try.prog 106 = none := by kernel_rfl
theorem tkind106 : tkind Try.prog 106 = some .oth := by kernel_rfl
theorem tfld106x0 : tfld Try.prog 106 0 = some (0, 104) := by kernel_rfl
theorem tpl106 : tplaces Try.prog 106 = some [(0, 1)] := by kernel_rfl
theorem tz106 : tzero Try.prog 106 = some [.slice none 0 0] := by kernel_rfl
theorem tsz107 : tsz Try.prog 107 = some 5 := by kernel_rfl
theorem tagg107 : tagg Try.prog 107 = some true := by kernel_rfl
theorem tarr107 : tarr Try.prog 107 = none := by kernel_rfl
theorem tkind107 : tkind Try.prog 107 = some .oth := by kernel_rfl
theorem tfld107x0 : tfld Try.prog 107 0 = some (0, 25) := by kernel_rfl
theorem tfld107x1 : tfld Try.prog 107 1 = some (4, 3) := by kernel_rfl
theorem tpl107 : tplaces Try.prog 107 = some [(0, 4), (4, 1)] := by kernel_rfl
theorem tz107 : tzero Try.prog 107 = some [.int .u64 0, .int .u64 0, .int .u64 0, .int .u64 0, .int .i64 0] := by kernel_rfl
theorem tsz108 : tsz Try.prog 108 = some 5 := by kernel_rfl
theorem tagg108 : tagg Try.prog 108 = some true := by kernel_rfl
theorem tarr108 : tarr Try.prog 108 = none := by kernel_rfl
theorem tkind108 : tkind Try.prog 108 = some .oth := by kernel_rfl
theorem tfld108x0 : tfld Try.prog 108 0 = some (0, 25) := by kernel_rfl
theorem tfld108x1 : tfld Try.prog 108 1 = some (4, 3) := by kernel_rfl
theorem tpl108 : tplaces Try.prog 108 = some [(0, 4), (4, 1)] := by kernel_rfl
theorem tz108 : tzero Try.prog 108 = some [.int .u64 0, .int .u64 0, .int .u64 0, .int .u64 0, .int .i64 0] := by kernel_rfl
theorem tleaf108 : tleaf Try.prog 108 = some [.i, .i, .i, .i, .i] := by kernel_rfl
theorem tby108 : tby Try.prog 108 = some 40 := by kernel_rfl
theorem tsz109 : tsz Try.prog 109 = some 6 := by kernel_rfl
theorem tagg109 : tagg Try.prog 109 = some true := by kernel_rfl
theorem tarr109 : tarr Try.prog 109 = none := by kernel_rfl
theorem tkind109 : tkind Try.prog 109 = some .oth := by kernel_rfl
theorem tfld109x0 : tfld Try.prog 109 0 = some (0, 108) := by kernel_rfl
theorem tfld109x1 : tfld Try.prog 109 1 = some (5, 4) := by kernel_rfl
theorem tpl109 : tplaces Try.prog 109 = some [(0, 5), (5, 1)] := by kernel_rfl
theorem tz109 : tzero Try.prog 109 = some [.int .u64 0, .int .u64 0, .int .u64 0, .int .u64 0, .int .i64 0, .bool false] := by kernel_rfl
theorem tsz110 : tsz Try.prog 110 = some 6 := by kernel_rfl
theorem tagg110 : tagg Try.prog 110 = some true := by kernel_rfl
theorem tarr110 : tarr Try.prog 110 = none := by kernel_rfl
theorem tkind110 : tkind Try.prog 110 = some .oth := by kernel_rfl
theorem tfld110x0 : tfld Try.prog 110 0 = some (0, 108) := by kernel_rfl
theorem tfld110x1 : tfld Try.prog 110 1 = some (5, 4) := by kernel_rfl
theorem tpl110 : tplaces Try.prog 110 = some [(0, 5), (5, 1)] := by kernel_rfl
theorem tz110 : tzero Try.prog 110 = some [.int .u64 0, .int .u64 0, .int .u64 0, .int .u64 0, .int .i64 0, .bool false] := by kernel_rfl
theorem tby110 : tby Try.prog 110 = some 48 := by kernel_rfl
theorem tsz111 : tsz Try.prog 111 = some 5 := by kernel_rfl
theorem tagg111 : tagg Try.prog 111 = some true := by kernel_rfl
theorem tarr111 : tarr Try.prog 111 = none := by kernel_rfl
theorem tkind111 : tkind Try.prog 111 = some .oth := by kernel_rfl
theorem tfld111x0 : tfld Try.prog 111 0 = some (0, 25) := by kernel_rfl
theorem tfld111x1 : tfld Try.prog 111 1 = some (4, 4) := by kernel_rfl
theorem tpl111 : tplaces Try.prog 111 = some [(0, 4), (4, 1)] := by kernel_rfl
theorem tz111 : tzero Try.prog 111 = some [.int .u64 0, .int .u64 0, .int .u64 0, .int .u64 0, .bool false] := by kernel_rfl
theorem tsz112 : tsz Try.prog 112 = some 13 := by kernel_rfl
theorem tagg112 : tagg Try.prog 112 = some true := by kernel_rfl
theorem tarr112 : tarr Try.prog 112 = none := by kernel_rfl
theorem tkind112 : tkind Try.prog 112 = some .oth := by kernel_rfl
theorem tfld112x0 : tfld Try.prog 112 0 = some (0, 5) := by kernel_rfl
theorem tfld112x1 : tfld Try.prog 112 1 = some (1, 110) := by kernel_rfl
theorem tfld112x2 : tfld Try.prog 112 2 = some (7, 9) := by kernel_rfl
theorem tfld112x3 : tfld Try.prog 112 3 = some (8, 111) := by kernel_rfl
theorem tpl112 : tplaces Try.prog 112 = some [(0, 1), (1, 6), (7, 1), (8, 5)] := by kernel_rfl
theorem tz112 : tzero Try.prog 112 = some [.int .u8 0, .int .u64 0, .int .u64 0, .int .u64 0, .int .u64 0, .int .i64 0, .bool false, .string ByteArray.empty, .int .u64 0, .int .u64 0, .int .u64 0, .int .u64 0, .bool false] := by kernel_rfl
theorem tsz113 : tsz Try.prog 113 = some 13 := by kernel_rfl
theorem tagg113 : tagg Try.prog 113 = some true := by kernel_rfl
theorem tarr113 : tarr Try.prog 113 = none := by kernel_rfl
theorem tkind113 : tkind Try.prog 113 = some .oth := by kernel_rfl
theorem tfld113x0 : tfld Try.prog 113 0 = some (0, 5) := by kernel_rfl
theorem tfld113x1 : tfld Try.prog 113 1 = some (1, 110) := by kernel_rfl
theorem tfld113x2 : tfld Try.prog 113 2 = some (7, 9) := by kernel_rfl
theorem tfld113x3 : tfld Try.prog 113 3 = some (8, 111) := by kernel_rfl
theorem tpl113 : tplaces Try.prog 113 = some [(0, 1), (1, 6), (7, 1), (8, 5)] := by kernel_rfl
theorem tz113 : tzero Try.prog 113 = some [.int .u8 0, .int .u64 0, .int .u64 0, .int .u64 0, .int .u64 0, .int .i64 0, .bool false, .string ByteArray.empty, .int .u64 0, .int .u64 0, .int .u64 0, .int .u64 0, .bool false] := by kernel_rfl
theorem tby113 : tby Try.prog 113 = some 112 := by kernel_rfl
theorem tsz119 : tsz Try.prog 119 = some 5 := by kernel_rfl
theorem tagg119 : tagg Try.prog 119 = some true := by kernel_rfl
theorem tarr119 : tarr Try.prog 119 = none := by kernel_rfl
theorem tkind119 : tkind Try.prog 119 = some .oth := by kernel_rfl
theorem tfld119x0 : tfld Try.prog 119 0 = some (0, 32) := by kernel_rfl
theorem tfld119x1 : tfld Try.prog 119 1 = some (4, 3) := by kernel_rfl
theorem tpl119 : tplaces Try.prog 119 = some [(0, 4), (4, 1)] := by kernel_rfl
theorem tz119 : tzero Try.prog 119 = some [.int .u64 0, .int .u64 0, .int .u64 0, .int .u64 0, .int .i64 0] := by kernel_rfl
theorem tsz120 : tsz Try.prog 120 = some 5 := by kernel_rfl
theorem tagg120 : tagg Try.prog 120 = some true := by kernel_rfl
theorem tarr120 : tarr Try.prog 120 = none := by kernel_rfl
theorem tkind120 : tkind Try.prog 120 = some .oth := by kernel_rfl
theorem tfld120x0 : tfld Try.prog 120 0 = some (0, 32) := by kernel_rfl
theorem tfld120x1 : tfld Try.prog 120 1 = some (4, 3) := by kernel_rfl
theorem tpl120 : tplaces Try.prog 120 = some [(0, 4), (4, 1)] := by kernel_rfl
theorem tz120 : tzero Try.prog 120 = some [.int .u64 0, .int .u64 0, .int .u64 0, .int .u64 0, .int .i64 0] := by kernel_rfl
theorem tleaf120 : tleaf Try.prog 120 = some [.i, .i, .i, .i, .i] := by kernel_rfl
theorem tsz122 : tsz Try.prog 122 = some 6 := by kernel_rfl
theorem tagg122 : tagg Try.prog 122 = some true := by kernel_rfl
theorem tarr122 : tarr Try.prog 122 = none := by kernel_rfl
theorem tkind122 : tkind Try.prog 122 = some .oth := by kernel_rfl
theorem tfld122x0 : tfld Try.prog 122 0 = some (0, 108) := by kernel_rfl
theorem tfld122x1 : tfld Try.prog 122 1 = some (5, 9) := by kernel_rfl
theorem tpl122 : tplaces Try.prog 122 = some [(0, 5), (5, 1)] := by kernel_rfl
theorem tz122 : tzero Try.prog 122 = some [.int .u64 0, .int .u64 0, .int .u64 0, .int .u64 0, .int .i64 0, .string ByteArray.empty] := by kernel_rfl
theorem tsz123 : tsz Try.prog 123 = some 6 := by kernel_rfl
theorem tagg123 : tagg Try.prog 123 = some true := by kernel_rfl
theorem tarr123 : tarr Try.prog 123 = none := by kernel_rfl
theorem tkind123 : tkind Try.prog 123 = some .oth := by kernel_rfl
theorem tfld123x0 : tfld Try.prog 123 0 = some (0, 108) := by kernel_rfl
theorem tfld123x1 : tfld Try.prog 123 1 = some (5, 9) := by kernel_rfl
theorem tpl123 : tplaces Try.prog 123 = some [(0, 5), (5, 1)] := by kernel_rfl
theorem tz123 : tzero Try.prog 123 = some [.int .u64 0, .int .u64 0, .int .u64 0, .int .u64 0, .int .i64 0, .string ByteArray.empty] := by kernel_rfl
theorem tby123 : tby Try.prog 123 = some 56 := by kernel_rfl
theorem tsz126 : tsz Try.prog 126 = some 6 := by kernel_rfl
theorem tagg126 : tagg Try.prog 126 = some true := by kernel_rfl
theorem tarr126 : tarr Try.prog 126 = none := by kernel_rfl
theorem tkind126 : tkind Try.prog 126 = some .oth := by kernel_rfl
theorem tfld126x0 : tfld Try.prog 126 0 = some (0, 120) := by kernel_rfl
theorem tfld126x1 : tfld Try.prog 126 1 = some (5, 9) := by kernel_rfl
theorem tpl126 : tplaces Try.prog 126 = some [(0, 5), (5, 1)] := by kernel_rfl
theorem tz126 : tzero Try.prog 126 = some [.int .u64 0, .int .u64 0, .int .u64 0, .int .u64 0, .int .i64 0, .string ByteArray.empty] := by kernel_rfl
theorem tsz127 : tsz Try.prog 127 = some 6 := by kernel_rfl
theorem tagg127 : tagg Try.prog 127 = some true := by kernel_rfl
theorem tarr127 : tarr Try.prog 127 = none := by kernel_rfl
theorem tkind127 : tkind Try.prog 127 = some .oth := by kernel_rfl
theorem tfld127x0 : tfld Try.prog 127 0 = some (0, 120) := by kernel_rfl
theorem tfld127x1 : tfld Try.prog 127 1 = some (5, 9) := by kernel_rfl
theorem tpl127 : tplaces Try.prog 127 = some [(0, 5), (5, 1)] := by kernel_rfl
theorem tz127 : tzero Try.prog 127 = some [.int .u64 0, .int .u64 0, .int .u64 0, .int .u64 0, .int .i64 0, .string ByteArray.empty] := by kernel_rfl
theorem tby127 : tby Try.prog 127 = some 56 := by kernel_rfl
theorem tsz132 : tsz Try.prog 132 = some 1 := by kernel_rfl
theorem tagg132 : tagg Try.prog 132 = some false := by kernel_rfl
theorem tarr132 : tarr Try.prog 132 = none := by kernel_rfl
theorem tkind132 : tkind Try.prog 132 = some (.slc 123) := by kernel_rfl
theorem tpl132 : tplaces Try.prog 132 = none := by kernel_rfl
theorem tz132 : tzero Try.prog 132 = some [.slice none 0 0] := by kernel_rfl
theorem tslc132 : tslc Try.prog 132 = some true := by kernel_rfl
theorem tsz135 : tsz Try.prog 135 = some 1 := by kernel_rfl
theorem tagg135 : tagg Try.prog 135 = some false := by kernel_rfl
theorem tarr135 : tarr Try.prog 135 = none := by kernel_rfl
theorem tkind135 : tkind Try.prog 135 = some (.slc 110) := by kernel_rfl
theorem tpl135 : tplaces Try.prog 135 = none := by kernel_rfl
theorem tz135 : tzero Try.prog 135 = some [.slice none 0 0] := by kernel_rfl
theorem tslc135 : tslc Try.prog 135 = some true := by kernel_rfl
theorem tsz136 : tsz Try.prog 136 = some 1 := by kernel_rfl
theorem tagg136 : tagg Try.prog 136 = some false := by kernel_rfl
theorem tarr136 : tarr Try.prog 136 = none := by kernel_rfl
theorem tkind136 : tkind Try.prog 136 = some .oth := by kernel_rfl
theorem tpl136 : tplaces Try.prog 136 = none := by kernel_rfl
theorem tz136 : tzero Try.prog 136 = some [.pointer none] := by kernel_rfl
theorem tptr136 : tptr Try.prog 136 = some true := by kernel_rfl
theorem tsz138 : tsz Try.prog 138 = some 1 := by kernel_rfl
theorem tagg138 : tagg Try.prog 138 = some false := by kernel_rfl
theorem tarr138 : tarr Try.prog 138 = none := by kernel_rfl
theorem tkind138 : tkind Try.prog 138 = some (.slc 108) := by kernel_rfl
theorem tpl138 : tplaces Try.prog 138 = none := by kernel_rfl
theorem tz138 : tzero Try.prog 138 = some [.slice none 0 0] := by kernel_rfl
theorem tslc138 : tslc Try.prog 138 = some true := by kernel_rfl
theorem tsz141 : tsz Try.prog 141 = some 6 := by kernel_rfl
theorem tagg141 : tagg Try.prog 141 = some true := by kernel_rfl
theorem tarr141 : tarr Try.prog 141 = none := by kernel_rfl
theorem tkind141 : tkind Try.prog 141 = some .oth := by kernel_rfl
theorem tfld141x0 : tfld Try.prog 141 0 = some (0, 108) := by kernel_rfl
theorem tfld141x1 : tfld Try.prog 141 1 = some (5, 3) := by kernel_rfl
theorem tpl141 : tplaces Try.prog 141 = some [(0, 5), (5, 1)] := by kernel_rfl
theorem tz141 : tzero Try.prog 141 = some [.int .u64 0, .int .u64 0, .int .u64 0, .int .u64 0, .int .i64 0, .int .i64 0] := by kernel_rfl
theorem tsz142 : tsz Try.prog 142 = some 6 := by kernel_rfl
theorem tagg142 : tagg Try.prog 142 = some true := by kernel_rfl
theorem tarr142 : tarr Try.prog 142 = none := by kernel_rfl
theorem tkind142 : tkind Try.prog 142 = some .oth := by kernel_rfl
theorem tfld142x0 : tfld Try.prog 142 0 = some (0, 108) := by kernel_rfl
theorem tfld142x1 : tfld Try.prog 142 1 = some (5, 3) := by kernel_rfl
theorem tpl142 : tplaces Try.prog 142 = some [(0, 5), (5, 1)] := by kernel_rfl
theorem tz142 : tzero Try.prog 142 = some [.int .u64 0, .int .u64 0, .int .u64 0, .int .u64 0, .int .i64 0, .int .i64 0] := by kernel_rfl
theorem tleaf142 : tleaf Try.prog 142 = some [.i, .i, .i, .i, .i, .i] := by kernel_rfl
theorem tby142 : tby Try.prog 142 = some 48 := by kernel_rfl
theorem tsz149 : tsz Try.prog 149 = some 1 := by kernel_rfl
theorem tagg149 : tagg Try.prog 149 = some false := by kernel_rfl
theorem tarr149 : tarr Try.prog 149 = none := by kernel_rfl
theorem tkind149 : tkind Try.prog 149 = some (.slc 142) := by kernel_rfl
theorem tpl149 : tplaces Try.prog 149 = none := by kernel_rfl
theorem tz149 : tzero Try.prog 149 = some [.slice none 0 0] := by kernel_rfl
theorem tslc149 : tslc Try.prog 149 = some true := by kernel_rfl
theorem tsz154 : tsz Try.prog 154 = some 5 := by kernel_rfl
theorem tagg154 : tagg Try.prog 154 = some true := by kernel_rfl
theorem tarr154 : tarr Try.prog 154 = none := by kernel_rfl
theorem tkind154 : tkind Try.prog 154 = some .oth := by kernel_rfl
theorem tfld154x0 : tfld Try.prog 154 0 = some (0, 25) := by kernel_rfl
theorem tfld154x1 : tfld Try.prog 154 1 = some (4, 58) := by kernel_rfl
theorem tpl154 : tplaces Try.prog 154 = some [(0, 4), (4, 1)] := by kernel_rfl
theorem tz154 : tzero Try.prog 154 = some [.int .u64 0, .int .u64 0, .int .u64 0, .int .u64 0, .slice none 0 0] := by kernel_rfl
theorem tsz155 : tsz Try.prog 155 = some 5 := by kernel_rfl
theorem tagg155 : tagg Try.prog 155 = some true := by kernel_rfl
theorem tarr155 : tarr Try.prog 155 = none := by kernel_rfl
theorem tkind155 : tkind Try.prog 155 = some .oth := by kernel_rfl
theorem tfld155x0 : tfld Try.prog 155 0 = some (0, 25) := by kernel_rfl
theorem tfld155x1 : tfld Try.prog 155 1 = some (4, 58) := by kernel_rfl
theorem tpl155 : tplaces Try.prog 155 = some [(0, 4), (4, 1)] := by kernel_rfl
theorem tz155 : tzero Try.prog 155 = some [.int .u64 0, .int .u64 0, .int .u64 0, .int .u64 0, .slice none 0 0] := by kernel_rfl
theorem tsz156 : tsz Try.prog 156 = some 6 := by kernel_rfl
theorem tagg156 : tagg Try.prog 156 = some true := by kernel_rfl
theorem tarr156 : tarr Try.prog 156 = none := by kernel_rfl
theorem tkind156 : tkind Try.prog 156 = some .oth := by kernel_rfl
theorem tfld156x0 : tfld Try.prog 156 0 = some (0, 4) := by kernel_rfl
theorem tfld156x1 : tfld Try.prog 156 1 = some (1, 155) := by kernel_rfl
theorem tpl156 : tplaces Try.prog 156 = some [(0, 1), (1, 5)] := by kernel_rfl
theorem tz156 : tzero Try.prog 156 = some [.bool false, .int .u64 0, .int .u64 0, .int .u64 0, .int .u64 0, .slice none 0 0] := by kernel_rfl
theorem tsz157 : tsz Try.prog 157 = some 6 := by kernel_rfl
theorem tagg157 : tagg Try.prog 157 = some true := by kernel_rfl
theorem tarr157 : tarr Try.prog 157 = none := by kernel_rfl
theorem tkind157 : tkind Try.prog 157 = some .oth := by kernel_rfl
theorem tfld157x0 : tfld Try.prog 157 0 = some (0, 4) := by kernel_rfl
theorem tfld157x1 : tfld Try.prog 157 1 = some (1, 155) := by kernel_rfl
theorem tpl157 : tplaces Try.prog 157 = some [(0, 1), (1, 5)] := by kernel_rfl
theorem tz157 : tzero Try.prog 157 = some [.bool false, .int .u64 0, .int .u64 0, .int .u64 0, .int .u64 0, .slice none 0 0] := by kernel_rfl
theorem tsz158 : tsz Try.prog 158 = some 10 := by kernel_rfl
theorem tagg158 : tagg Try.prog 158 = some true := by kernel_rfl
theorem tarr158 : tarr Try.prog 158 = none := by kernel_rfl
theorem tkind158 : tkind Try.prog 158 = some .oth := by kernel_rfl
theorem tfld158x0 : tfld Try.prog 158 0 = some (0, 25) := by kernel_rfl
theorem tfld158x1 : tfld Try.prog 158 1 = some (4, 157) := by kernel_rfl
theorem tpl158 : tplaces Try.prog 158 = some [(0, 4), (4, 6)] := by kernel_rfl
theorem tz158 : tzero Try.prog 158 = some [.int .u64 0, .int .u64 0, .int .u64 0, .int .u64 0, .bool false, .int .u64 0, .int .u64 0, .int .u64 0, .int .u64 0, .slice none 0 0] := by kernel_rfl
theorem tsz159 : tsz Try.prog 159 = some 10 := by kernel_rfl
theorem tagg159 : tagg Try.prog 159 = some true := by kernel_rfl
theorem tarr159 : tarr Try.prog 159 = none := by kernel_rfl
theorem tkind159 : tkind Try.prog 159 = some .oth := by kernel_rfl
theorem tfld159x0 : tfld Try.prog 159 0 = some (0, 25) := by kernel_rfl
theorem tfld159x1 : tfld Try.prog 159 1 = some (4, 157) := by kernel_rfl
theorem tpl159 : tplaces Try.prog 159 = some [(0, 4), (4, 6)] := by kernel_rfl
theorem tz159 : tzero Try.prog 159 = some [.int .u64 0, .int .u64 0, .int .u64 0, .int .u64 0, .bool false, .int .u64 0, .int .u64 0, .int .u64 0, .int .u64 0, .slice none 0 0] := by kernel_rfl
theorem tsz160 : tsz Try.prog 160 = some 90 := by kernel_rfl
theorem tagg160 : tagg Try.prog 160 = some true := by kernel_rfl
theorem tarr160 : tarr Try.prog 160 = some (9, 10) := by kernel_rfl
theorem tkind160 : tkind Try.prog 160 = some (.arr 9 159) := by kernel_rfl
theorem tpl160 : tplaces Try.prog 160 = none := by kernel_rfl
theorem tz160 : tzero Try.prog 160 = some [.int .u64 0, .int .u64 0, .int .u64 0, .int .u64 0, .bool false, .int .u64 0, .int .u64 0, .int .u64 0, .int .u64 0, .slice none 0 0, .int .u64 0, .int .u64 0, .int .u64 0, .int .u64 0, .bool false, .int .u64 0, .int .u64 0, .int .u64 0, .int .u64 0, .slice none 0 0, .int .u64 0, .int .u64 0, .int .u64 0, .int .u64 0, .bool false, .int .u64 0, .int .u64 0, .int .u64 0, .int .u64 0, .slice none 0 0, .int .u64 0, .int .u64 0, .int .u64 0, .int .u64 0, .bool false, .int .u64 0, .int .u64 0, .int .u64 0, .int .u64 0, .slice none 0 0, .int .u64 0, .int .u64 0, .int .u64 0, .int .u64 0, .bool false, .int .u64 0, .int .u64 0, .int .u64 0, .int .u64 0, .slice none 0 0, .int .u64 0, .int .u64 0, .int .u64 0, .int .u64 0, .bool false, .int .u64 0, .int .u64 0, .int .u64 0, .int .u64 0, .slice none 0 0, .int .u64 0, .int .u64 0, .int .u64 0, .int .u64 0, .bool false, .int .u64 0, .int .u64 0, .int .u64 0, .int .u64 0, .slice none 0 0, .int .u64 0, .int .u64 0, .int .u64 0, .int .u64 0, .bool false, .int .u64 0, .int .u64 0, .int .u64 0, .int .u64 0, .slice none 0 0, .int .u64 0, .int .u64 0, .int .u64 0, .int .u64 0, .bool false, .int .u64 0, .int .u64 0, .int .u64 0, .int .u64 0, .slice none 0 0] := by kernel_rfl
theorem tsz161 : tsz Try.prog 161 = some 90 := by kernel_rfl
theorem tagg161 : tagg Try.prog 161 = some true := by kernel_rfl
theorem tarr161 : tarr Try.prog 161 = none := by kernel_rfl
theorem tkind161 : tkind Try.prog 161 = some .oth := by kernel_rfl
theorem tfld161x0 : tfld Try.prog 161 0 = some (0, 160) := by kernel_rfl
theorem tpl161 : tplaces Try.prog 161 = some [(0, 90)] := by kernel_rfl
theorem tz161 : tzero Try.prog 161 = some [.int .u64 0, .int .u64 0, .int .u64 0, .int .u64 0, .bool false, .int .u64 0, .int .u64 0, .int .u64 0, .int .u64 0, .slice none 0 0, .int .u64 0, .int .u64 0, .int .u64 0, .int .u64 0, .bool false, .int .u64 0, .int .u64 0, .int .u64 0, .int .u64 0, .slice none 0 0, .int .u64 0, .int .u64 0, .int .u64 0, .int .u64 0, .bool false, .int .u64 0, .int .u64 0, .int .u64 0, .int .u64 0, .slice none 0 0, .int .u64 0, .int .u64 0, .int .u64 0, .int .u64 0, .bool false, .int .u64 0, .int .u64 0, .int .u64 0, .int .u64 0, .slice none 0 0, .int .u64 0, .int .u64 0, .int .u64 0, .int .u64 0, .bool false, .int .u64 0, .int .u64 0, .int .u64 0, .int .u64 0, .slice none 0 0, .int .u64 0, .int .u64 0, .int .u64 0, .int .u64 0, .bool false, .int .u64 0, .int .u64 0, .int .u64 0, .int .u64 0, .slice none 0 0, .int .u64 0, .int .u64 0, .int .u64 0, .int .u64 0, .bool false, .int .u64 0, .int .u64 0, .int .u64 0, .int .u64 0, .slice none 0 0, .int .u64 0, .int .u64 0, .int .u64 0, .int .u64 0, .bool false, .int .u64 0, .int .u64 0, .int .u64 0, .int .u64 0, .slice none 0 0, .int .u64 0, .int .u64 0, .int .u64 0, .int .u64 0, .bool false, .int .u64 0, .int .u64 0, .int .u64 0, .int .u64 0, .slice none 0 0] := by kernel_rfl
theorem tsz162 : tsz Try.prog 162 = some 90 := by kernel_rfl
theorem tagg162 : tagg Try.prog 162 = some true := by kernel_rfl
theorem tarr162 : tarr Try.prog 162 = none := by kernel_rfl
theorem tkind162 : tkind Try.prog 162 = some .oth := by kernel_rfl
theorem tfld162x0 : tfld Try.prog 162 0 = some (0, 160) := by kernel_rfl
theorem tpl162 : tplaces Try.prog 162 = some [(0, 90)] := by kernel_rfl
theorem tz162 : tzero Try.prog 162 = some [.int .u64 0, .int .u64 0, .int .u64 0, .int .u64 0, .bool false, .int .u64 0, .int .u64 0, .int .u64 0, .int .u64 0, .slice none 0 0, .int .u64 0, .int .u64 0, .int .u64 0, .int .u64 0, .bool false, .int .u64 0, .int .u64 0, .int .u64 0, .int .u64 0, .slice none 0 0, .int .u64 0, .int .u64 0, .int .u64 0, .int .u64 0, .bool false, .int .u64 0, .int .u64 0, .int .u64 0, .int .u64 0, .slice none 0 0, .int .u64 0, .int .u64 0, .int .u64 0, .int .u64 0, .bool false, .int .u64 0, .int .u64 0, .int .u64 0, .int .u64 0, .slice none 0 0, .int .u64 0, .int .u64 0, .int .u64 0, .int .u64 0, .bool false, .int .u64 0, .int .u64 0, .int .u64 0, .int .u64 0, .slice none 0 0, .int .u64 0, .int .u64 0, .int .u64 0, .int .u64 0, .bool false, .int .u64 0, .int .u64 0, .int .u64 0, .int .u64 0, .slice none 0 0, .int .u64 0, .int .u64 0, .int .u64 0, .int .u64 0, .bool false, .int .u64 0, .int .u64 0, .int .u64 0, .int .u64 0, .slice none 0 0, .int .u64 0, .int .u64 0, .int .u64 0, .int .u64 0, .bool false, .int .u64 0, .int .u64 0, .int .u64 0, .int .u64 0, .slice none 0 0, .int .u64 0, .int .u64 0, .int .u64 0, .int .u64 0, .bool false, .int .u64 0, .int .u64 0, .int .u64 0, .int .u64 0, .slice none 0 0] := by kernel_rfl
theorem tsz163 : tsz Try.prog 163 = some 1 := by kernel_rfl
theorem tagg163 : tagg Try.prog 163 = some false := by kernel_rfl
theorem tarr163 : tarr Try.prog 163 = none := by kernel_rfl
theorem tkind163 : tkind Try.prog 163 = some .oth := by kernel_rfl
theorem tpl163 : tplaces Try.prog 163 = none := by kernel_rfl
theorem tz163 : tzero Try.prog 163 = some [.pointer none] := by kernel_rfl
theorem tptr163 : tptr Try.prog 163 = some true := by kernel_rfl
theorem tsz167 : tsz Try.prog 167 = some 1 := by kernel_rfl
theorem tagg167 : tagg Try.prog 167 = some false := by kernel_rfl
theorem tarr167 : tarr Try.prog 167 = none := by kernel_rfl
theorem tkind167 : tkind Try.prog 167 = some .oth := by kernel_rfl
theorem tpl167 : tplaces Try.prog 167 = none := by kernel_rfl
theorem tz167 : tzero Try.prog 167 = some [.pointer none] := by kernel_rfl
theorem tptr167 : tptr Try.prog 167 = some true := by kernel_rfl
theorem tsz176 : tsz Try.prog 176 = some 2 := by kernel_rfl
theorem tagg176 : tagg Try.prog 176 = some true := by kernel_rfl
theorem tarr176 : tarr Try.prog 176 = none := by kernel_rfl
theorem tkind176 : tkind Try.prog 176 = some .oth := by kernel_rfl
theorem tfld176x0 : tfld Try.prog 176 0 = some (0, 9) := by kernel_rfl
theorem tfld176x1 : tfld Try.prog 176 1 = some (1, 89) := by kernel_rfl
theorem tpl176 : tplaces Try.prog 176 = some [(0, 1), (1, 1)] := by kernel_rfl
theorem tz176 : tzero Try.prog 176 = some [.string ByteArray.empty, .slice none 0 0] := by kernel_rfl
theorem tsz177 : tsz Try.prog 177 = some 2 := by kernel_rfl
theorem tagg177 : tagg Try.prog 177 = some true := by kernel_rfl
theorem tarr177 : tarr Try.prog 177 = none := by kernel_rfl
theorem tkind177 : tkind Try.prog 177 = some .oth := by kernel_rfl
theorem tfld177x0 : tfld Try.prog 177 0 = some (0, 9) := by kernel_rfl
theorem tfld177x1 : tfld Try.prog 177 1 = some (1, 89) := by kernel_rfl
theorem tpl177 : tplaces Try.prog 177 = some [(0, 1), (1, 1)] := by kernel_rfl
theorem tz177 : tzero Try.prog 177 = some [.string ByteArray.empty, .slice none 0 0] := by kernel_rfl
theorem tsz178 : tsz Try.prog 178 = some 4 := by kernel_rfl
theorem tagg178 : tagg Try.prog 178 = some true := by kernel_rfl
theorem tarr178 : tarr Try.prog 178 = none := by kernel_rfl
theorem tkind178 : tkind Try.prog 178 = some .oth := by kernel_rfl
theorem tfld178x0 : tfld Try.prog 178 0 = some (0, 177) := by kernel_rfl
theorem tfld178x1 : tfld Try.prog 178 1 = some (2, 3) := by kernel_rfl
theorem tfld178x2 : tfld Try.prog 178 2 = some (3, 4) := by kernel_rfl
theorem tpl178 : tplaces Try.prog 178 = some [(0, 2), (2, 1), (3, 1)] := by kernel_rfl
theorem tz178 : tzero Try.prog 178 = some [.string ByteArray.empty, .slice none 0 0, .int .i64 0, .bool false] := by kernel_rfl
theorem tsz179 : tsz Try.prog 179 = some 4 := by kernel_rfl
theorem tagg179 : tagg Try.prog 179 = some true := by kernel_rfl
theorem tarr179 : tarr Try.prog 179 = none := by kernel_rfl
theorem tkind179 : tkind Try.prog 179 = some .oth := by kernel_rfl
theorem tfld179x0 : tfld Try.prog 179 0 = some (0, 177) := by kernel_rfl
theorem tfld179x1 : tfld Try.prog 179 1 = some (2, 3) := by kernel_rfl
theorem tfld179x2 : tfld Try.prog 179 2 = some (3, 4) := by kernel_rfl
theorem tpl179 : tplaces Try.prog 179 = some [(0, 2), (2, 1), (3, 1)] := by kernel_rfl
theorem tz179 : tzero Try.prog 179 = some [.string ByteArray.empty, .slice none 0 0, .int .i64 0, .bool false] := by kernel_rfl
theorem tsz183 : tsz Try.prog 183 = some 1 := by kernel_rfl
theorem tagg183 : tagg Try.prog 183 = some true := by kernel_rfl
theorem tarr183 : tarr Try.prog 183 = none := by kernel_rfl
theorem tkind183 : tkind Try.prog 183 = some .oth := by kernel_rfl
theorem tfld183x0 : tfld Try.prog 183 0 = some (0, 132) := by kernel_rfl
theorem tpl183 : tplaces Try.prog 183 = some [(0, 1)] := by kernel_rfl
theorem tz183 : tzero Try.prog 183 = some [.slice none 0 0] := by kernel_rfl
theorem tsz184 : tsz Try.prog 184 = some 1 := by kernel_rfl
theorem tagg184 : tagg Try.prog 184 = some true := by kernel_rfl
theorem tarr184 : tarr Try.prog 184 = none := by kernel_rfl
theorem tkind184 : tkind Try.prog 184 = some .oth := by kernel_rfl
theorem tfld184x0 : tfld Try.prog 184 0 = some (0, 132) := by kernel_rfl
theorem tpl184 : tplaces Try.prog 184 = some [(0, 1)] := by kernel_rfl
theorem tz184 : tzero Try.prog 184 = some [.slice none 0 0] := by kernel_rfl
theorem tsz185 : tsz Try.prog 185 = some 1 := by kernel_rfl
theorem tagg185 : tagg Try.prog 185 = some false := by kernel_rfl
theorem tarr185 : tarr Try.prog 185 = none := by kernel_rfl
theorem tkind185 : tkind Try.prog 185 = some .oth := by kernel_rfl
theorem tpl185 : tplaces Try.prog 185 = none := by kernel_rfl
theorem tz185 : tzero Try.prog 185 = some [.int .u64 0] := by kernel_rfl
theorem tint185 : tint Try.prog 185 = some (some .u64) := by kernel_rfl
theorem tsz198 : tsz Try.prog 198 = some 1 := by kernel_rfl
theorem tagg198 : tagg Try.prog 198 = some true := by kernel_rfl
theorem tarr198 : tarr Try.prog 198 = none := by kernel_rfl
theorem tkind198 : tkind Try.prog 198 = some .oth := by kernel_rfl
theorem tfld198x0 : tfld Try.prog 198 0 = some (0, 149) := by kernel_rfl
theorem tpl198 : tplaces Try.prog 198 = some [(0, 1)] := by kernel_rfl
theorem tz198 : tzero Try.prog 198 = some [.slice none 0 0] := by kernel_rfl
theorem tsz199 : tsz Try.prog 199 = some 1 := by kernel_rfl
theorem tagg199 : tagg Try.prog 199 = some true := by kernel_rfl
theorem tarr199 : tarr Try.prog 199 = none := by kernel_rfl
theorem tkind199 : tkind Try.prog 199 = some .oth := by kernel_rfl
theorem tfld199x0 : tfld Try.prog 199 0 = some (0, 149) := by kernel_rfl
theorem tpl199 : tplaces Try.prog 199 = some [(0, 1)] := by kernel_rfl
theorem tz199 : tzero Try.prog 199 = some [.slice none 0 0] := by kernel_rfl
theorem tsz209 : tsz Try.prog 209 = some 1 := by kernel_rfl
theorem tagg209 : tagg Try.prog 209 = some false := by kernel_rfl
theorem tarr209 : tarr Try.prog 209 = none := by kernel_rfl
theorem tkind209 : tkind Try.prog 209 = some (.slc 23) := by kernel_rfl
theorem tpl209 : tplaces Try.prog 209 = none := by kernel_rfl
theorem tz209 : tzero Try.prog 209 = some [.slice none 0 0] := by kernel_rfl
theorem tslc209 : tslc Try.prog 209 = some true := by kernel_rfl
theorem tsz213 : tsz Try.prog 213 = some 1 := by kernel_rfl
theorem tagg213 : tagg Try.prog 213 = some false := by kernel_rfl
theorem tarr213 : tarr Try.prog 213 = none := by kernel_rfl
theorem tkind213 : tkind Try.prog 213 = some .oth := by kernel_rfl
theorem tpl213 : tplaces Try.prog 213 = none := by kernel_rfl
theorem tz213 : tzero Try.prog 213 = some [.pointer none] := by kernel_rfl
theorem tptr213 : tptr Try.prog 213 = some true := by kernel_rfl
theorem tsz214 : tsz Try.prog 214 = some 2 := by kernel_rfl
theorem tagg214 : tagg Try.prog 214 = some true := by kernel_rfl
theorem tarr214 : tarr Try.prog 214 = none := by kernel_rfl
theorem tkind214 : tkind Try.prog 214 = some .oth := by kernel_rfl
theorem tfld214x0 : tfld Try.prog 214 0 = some (0, 213) := by kernel_rfl
theorem tfld214x1 : tfld Try.prog 214 1 = some (1, 84) := by kernel_rfl
theorem tpl214 : tplaces Try.prog 214 = some [(0, 1), (1, 1)] := by kernel_rfl
theorem tz214 : tzero Try.prog 214 = some [.pointer none, .slice none 0 0] := by kernel_rfl
theorem tsz215 : tsz Try.prog 215 = some 2 := by kernel_rfl
theorem tagg215 : tagg Try.prog 215 = some true := by kernel_rfl
theorem tarr215 : tarr Try.prog 215 = none := by kernel_rfl
theorem tkind215 : tkind Try.prog 215 = some .oth := by kernel_rfl
theorem tfld215x0 : tfld Try.prog 215 0 = some (0, 213) := by kernel_rfl
theorem tfld215x1 : tfld Try.prog 215 1 = some (1, 84) := by kernel_rfl
theorem tpl215 : tplaces Try.prog 215 = some [(0, 1), (1, 1)] := by kernel_rfl
theorem tz215 : tzero Try.prog 215 = some [.pointer none, .slice none 0 0] := by kernel_rfl
theorem tsz217 : tsz Try.prog 217 = some 1 := by kernel_rfl
theorem tagg217 : tagg Try.prog 217 = some false := by kernel_rfl
theorem tarr217 : tarr Try.prog 217 = none := by kernel_rfl
theorem tkind217 : tkind Try.prog 217 = some .oth := by kernel_rfl
theorem tpl217 : tplaces Try.prog 217 = none := by kernel_rfl
theorem tz217 : tzero Try.prog 217 = some [.nilIface] := by kernel_rfl
theorem tsz218 : tsz Try.prog 218 = some 1 := by kernel_rfl
theorem tagg218 : tagg Try.prog 218 = some false := by kernel_rfl
theorem tarr218 : tarr Try.prog 218 = none := by kernel_rfl
theorem tkind218 : tkind Try.prog 218 = some .oth := by kernel_rfl
theorem tpl218 : tplaces Try.prog 218 = none := by kernel_rfl
theorem tz218 : tzero Try.prog 218 = some [.nilIface] := by kernel_rfl
theorem tsz237 : tsz Try.prog 237 = some 1 := by kernel_rfl
theorem tagg237 : tagg Try.prog 237 = some false := by kernel_rfl
theorem tarr237 : tarr Try.prog 237 = none := by kernel_rfl
theorem tkind237 : tkind Try.prog 237 = some (.slc 3) := by kernel_rfl
theorem tpl237 : tplaces Try.prog 237 = none := by kernel_rfl
theorem tz237 : tzero Try.prog 237 = some [.slice none 0 0] := by kernel_rfl
theorem tslc237 : tslc Try.prog 237 = some true := by kernel_rfl
theorem tsz240 : tsz Try.prog 240 = some 1 := by kernel_rfl
theorem tagg240 : tagg Try.prog 240 = some false := by kernel_rfl
theorem tarr240 : tarr Try.prog 240 = none := by kernel_rfl
theorem tkind240 : tkind Try.prog 240 = some .oth := by kernel_rfl
theorem tpl240 : tplaces Try.prog 240 = none := by kernel_rfl
theorem tz240 : tzero Try.prog 240 = some [.pointer none] := by kernel_rfl
theorem tptr240 : tptr Try.prog 240 = some true := by kernel_rfl
theorem tsz253 : tsz Try.prog 253 = some 4 := by kernel_rfl
theorem tagg253 : tagg Try.prog 253 = some true := by kernel_rfl
theorem tarr253 : tarr Try.prog 253 = none := by kernel_rfl
theorem tkind253 : tkind Try.prog 253 = some .oth := by kernel_rfl
theorem tfld253x0 : tfld Try.prog 253 0 = some (0, 17) := by kernel_rfl
theorem tfld253x1 : tfld Try.prog 253 1 = some (1, 17) := by kernel_rfl
theorem tfld253x2 : tfld Try.prog 253 2 = some (2, 17) := by kernel_rfl
theorem tfld253x3 : tfld Try.prog 253 3 = some (3, 9) := by kernel_rfl
theorem tpl253 : tplaces Try.prog 253 = some [(0, 1), (1, 1), (2, 1), (3, 1)] := by kernel_rfl
theorem tz253 : tzero Try.prog 253 = some [.pointer none, .pointer none, .pointer none, .string ByteArray.empty] := by kernel_rfl
theorem tsz254 : tsz Try.prog 254 = some 4 := by kernel_rfl
theorem tagg254 : tagg Try.prog 254 = some true := by kernel_rfl
theorem tarr254 : tarr Try.prog 254 = none := by kernel_rfl
theorem tkind254 : tkind Try.prog 254 = some .oth := by kernel_rfl
theorem tfld254x0 : tfld Try.prog 254 0 = some (0, 17) := by kernel_rfl
theorem tfld254x1 : tfld Try.prog 254 1 = some (1, 17) := by kernel_rfl
theorem tfld254x2 : tfld Try.prog 254 2 = some (2, 17) := by kernel_rfl
theorem tfld254x3 : tfld Try.prog 254 3 = some (3, 9) := by kernel_rfl
theorem tpl254 : tplaces Try.prog 254 = some [(0, 1), (1, 1), (2, 1), (3, 1)] := by kernel_rfl
theorem tz254 : tzero Try.prog 254 = some [.pointer none, .pointer none, .pointer none, .string ByteArray.empty] := by kernel_rfl
theorem tsz255 : tsz Try.prog 255 = some 0 := by kernel_rfl
theorem tagg255 : tagg Try.prog 255 = some true := by kernel_rfl
theorem tarr255 : tarr Try.prog 255 = none := by kernel_rfl
theorem tkind255 : tkind Try.prog 255 = some (.arr 0 16) := by kernel_rfl
theorem tpl255 : tplaces Try.prog 255 = none := by kernel_rfl
theorem tz255 : tzero Try.prog 255 = some [] := by kernel_rfl
theorem tsz256 : tsz Try.prog 256 = some 0 := by kernel_rfl
theorem tagg256 : tagg Try.prog 256 = some true := by kernel_rfl
theorem tarr256 : tarr Try.prog 256 = none := by kernel_rfl
theorem tkind256 : tkind Try.prog 256 = some .oth := by kernel_rfl
theorem tfld256x0 : tfld Try.prog 256 0 = some (0, 255) := by kernel_rfl
theorem tpl256 : tplaces Try.prog 256 = some [(0, 0)] := by kernel_rfl
theorem tz256 : tzero Try.prog 256 = some [] := by kernel_rfl
theorem tsz257 : tsz Try.prog 257 = some 0 := by kernel_rfl
theorem tagg257 : tagg Try.prog 257 = some true := by kernel_rfl
theorem tarr257 : tarr Try.prog 257 = none := by kernel_rfl
theorem tkind257 : tkind Try.prog 257 = some .oth := by kernel_rfl
theorem tfld257x0 : tfld Try.prog 257 0 = some (0, 255) := by kernel_rfl
theorem tpl257 : tplaces Try.prog 257 = some [(0, 0)] := by kernel_rfl
theorem tz257 : tzero Try.prog 257 = some [] := by kernel_rfl
theorem tsz258 : tsz Try.prog 258 = some 1 := by kernel_rfl
theorem tagg258 : tagg Try.prog 258 = some false := by kernel_rfl
theorem tarr258 : tarr Try.prog 258 = none := by kernel_rfl
theorem tkind258 : tkind Try.prog 258 = some .oth := by kernel_rfl
theorem tpl258 : tplaces Try.prog 258 = none := by kernel_rfl
theorem tz258 : tzero Try.prog 258 = some [.int .u8 0] := by kernel_rfl
theorem tint258 : tint Try.prog 258 = some (some .u8) := by kernel_rfl
theorem tsz259 : tsz Try.prog 259 = some 1 := by kernel_rfl
theorem tagg259 : tagg Try.prog 259 = some false := by kernel_rfl
theorem tarr259 : tarr Try.prog 259 = none := by kernel_rfl
theorem tkind259 : tkind Try.prog 259 = some .oth := by kernel_rfl
theorem tpl259 : tplaces Try.prog 259 = none := by kernel_rfl
theorem tz259 : tzero Try.prog 259 = some [.int .u8 0] := by kernel_rfl
theorem tint259 : tint Try.prog 259 = some (some .u8) := by kernel_rfl
theorem tsz261 : tsz Try.prog 261 = some 1 := by kernel_rfl
theorem tagg261 : tagg Try.prog 261 = some false := by kernel_rfl
theorem tarr261 : tarr Try.prog 261 = none := by kernel_rfl
theorem tkind261 : tkind Try.prog 261 = some .oth := by kernel_rfl
theorem tpl261 : tplaces Try.prog 261 = none := by kernel_rfl
theorem tz261 : tzero Try.prog 261 = some [.int .i32 0] := by kernel_rfl
theorem tint261 : tint Try.prog 261 = some (some .i32) := by kernel_rfl
theorem tsz262 : tsz Try.prog 262 = some 1 := by kernel_rfl
theorem tagg262 : tagg Try.prog 262 = some false := by kernel_rfl
theorem tarr262 : tarr Try.prog 262 = none := by kernel_rfl
theorem tkind262 : tkind Try.prog 262 = some .oth := by kernel_rfl
theorem tpl262 : tplaces Try.prog 262 = none := by kernel_rfl
theorem tz262 : tzero Try.prog 262 = some [.int .i32 0] := by kernel_rfl
theorem tint262 : tint Try.prog 262 = some (some .i32) := by kernel_rfl
theorem tsz263 : tsz Try.prog 263 = some 11 := by kernel_rfl
theorem tagg263 : tagg Try.prog 263 = some true := by kernel_rfl
theorem tarr263 : tarr Try.prog 263 = none := by kernel_rfl
theorem tkind263 : tkind Try.prog 263 = some .oth := by kernel_rfl
theorem tfld263x0 : tfld Try.prog 263 0 = some (0, 12) := by kernel_rfl
theorem tfld263x1 : tfld Try.prog 263 1 = some (1, 12) := by kernel_rfl
theorem tfld263x2 : tfld Try.prog 263 2 = some (2, 90) := by kernel_rfl
theorem tfld263x3 : tfld Try.prog 263 3 = some (3, 258) := by kernel_rfl
theorem tfld263x4 : tfld Try.prog 263 4 = some (4, 5) := by kernel_rfl
theorem tfld263x5 : tfld Try.prog 263 5 = some (5, 5) := by kernel_rfl
theorem tfld263x6 : tfld Try.prog 263 6 = some (6, 259) := by kernel_rfl
theorem tfld263x7 : tfld Try.prog 263 7 = some (7, 260) := by kernel_rfl
theorem tfld263x8 : tfld Try.prog 263 8 = some (8, 240) := by kernel_rfl
theorem tfld263x9 : tfld Try.prog 263 9 = some (9, 261) := by kernel_rfl
theorem tfld263x10 : tfld Try.prog 263 10 = some (10, 262) := by kernel_rfl
theorem tpl263 : tplaces Try.prog 263 = some [(0, 1), (1, 1), (2, 1), (3, 1), (4, 1), (5, 1), (6, 1), (7, 1), (8, 1), (9, 1), (10, 1)] := by kernel_rfl
theorem tz263 : tzero Try.prog 263 = some [.int .u64 0, .int .u64 0, .int .u32 0, .int .u8 0, .int .u8 0, .int .u8 0, .int .u8 0, .nilFunc, .pointer none, .int .i32 0, .int .i32 0] := by kernel_rfl
theorem tsz264 : tsz Try.prog 264 = some 11 := by kernel_rfl
theorem tagg264 : tagg Try.prog 264 = some true := by kernel_rfl
theorem tarr264 : tarr Try.prog 264 = none := by kernel_rfl
theorem tkind264 : tkind Try.prog 264 = some .oth := by kernel_rfl
theorem tfld264x0 : tfld Try.prog 264 0 = some (0, 12) := by kernel_rfl
theorem tfld264x1 : tfld Try.prog 264 1 = some (1, 12) := by kernel_rfl
theorem tfld264x2 : tfld Try.prog 264 2 = some (2, 90) := by kernel_rfl
theorem tfld264x3 : tfld Try.prog 264 3 = some (3, 258) := by kernel_rfl
theorem tfld264x4 : tfld Try.prog 264 4 = some (4, 5) := by kernel_rfl
theorem tfld264x5 : tfld Try.prog 264 5 = some (5, 5) := by kernel_rfl
theorem tfld264x6 : tfld Try.prog 264 6 = some (6, 259) := by kernel_rfl
theorem tfld264x7 : tfld Try.prog 264 7 = some (7, 260) := by kernel_rfl
theorem tfld264x8 : tfld Try.prog 264 8 = some (8, 240) := by kernel_rfl
theorem tfld264x9 : tfld Try.prog 264 9 = some (9, 261) := by kernel_rfl
theorem tfld264x10 : tfld Try.prog 264 10 = some (10, 262) := by kernel_rfl
theorem tpl264 : tplaces Try.prog 264 = some [(0, 1), (1, 1), (2, 1), (3, 1), (4, 1), (5, 1), (6, 1), (7, 1), (8, 1), (9, 1), (10, 1)] := by kernel_rfl
theorem tz264 : tzero Try.prog 264 = some [.int .u64 0, .int .u64 0, .int .u32 0, .int .u8 0, .int .u8 0, .int .u8 0, .int .u8 0, .nilFunc, .pointer none, .int .i32 0, .int .i32 0] := by kernel_rfl
attribute [go_sem] tsz2 tagg2 tarr2 tkind2 tpl2 tz2 tint2 tsz3 tagg3 tarr3 tkind3 tpl3 tz3 tby3 tint3 tsz4 tagg4 tarr4 tkind4 tpl4 tz4 tbool4 tsz5 tagg5 tarr5 tkind5 tpl5 tz5 tby5 tint5 tsz6 tagg6 tarr6 tkind6 tpl6 tz6 tint6 tsz7 tagg7 tarr7 tkind7 tfld7x0 tfld7x1 tfld7x2 tfld7x3 tpl7 tz7 tsz8 tagg8 tarr8 tkind8 tfld8x0 tfld8x1 tfld8x2 tfld8x3 tpl8 tz8 tsz9 tagg9 tarr9 tkind9 tpl9 tz9 tby9 tsz10 tagg10 tarr10 tkind10 tpl10 tz10 tsz11 tagg11 tarr11 tkind11 tpl11 tz11 tsz12 tagg12 tarr12 tkind12 tpl12 tz12 tint12 tsz13 tagg13 tarr13 tkind13 tfld13x0 tfld13x1 tpl13 tz13 tsz14 tagg14 tarr14 tkind14 tfld14x0 tfld14x1 tpl14 tz14 tsz15 tagg15 tarr15 tkind15 tpl15 tz15 tptr15 tsz16 tagg16 tarr16 tkind16 tpl16 tz16 tptr16 tsz17 tagg17 tarr17 tkind17 tpl17 tz17 tptr17 tsz18 tagg18 tarr18 tkind18 tfld18x0 tpl18 tz18 tsz19 tagg19 tarr19 tkind19 tfld19x0 tpl19 tz19 tsz20 tagg20 tarr20 tkind20 tpl20 tz20 tsz21 tagg21 tarr21 tkind21 tpl21 tz21 tint21 tsz22 tagg22 tarr22 tkind22 tpl22 tz22 tslc22 tsz23 tagg23 tarr23 tkind23 tpl23 tz23 tby23 tint23 tsz24 tagg24 tarr24 tkind24 tpl24 tz24 tsz25 tagg25 tarr25 tkind25 tpl25 tz25 tleaf25 tsz26 tagg26 tarr26 tkind26 tfld26x0 tfld26x1 tpl26 tz26 tsz27 tagg27 tarr27 tkind27 tfld27x0 tfld27x1 tpl27 tz27 tby27 tsz29 tagg29 tarr29 tkind29 tpl29 tz29 tptr29 tsz31 tagg31 tarr31 tkind31 tpl31 tz31 tptr31 tsz32 tagg32 tarr32 tkind32 tpl32 tz32 tleaf32 tsz33 tagg33 tarr33 tkind33 tpl33 tz33 tslc33 tsz34 tagg34 tarr34 tkind34 tfld34x0 tfld34x1 tfld34x2 tfld34x3 tpl34 tz34 tsz35 tagg35 tarr35 tkind35 tfld35x0 tfld35x1 tfld35x2 tfld35x3 tpl35 tz35 tsz36 tagg36 tarr36 tkind36 tpl36 tz36 tsz37 tagg37 tarr37 tkind37 tfld37x0 tpl37 tz37 tsz38 tagg38 tarr38 tkind38 tfld38x0 tpl38 tz38 tsz40 tagg40 tarr40 tkind40 tfld40x0 tfld40x1 tfld40x2 tfld40x3 tpl40 tz40 tsz41 tagg41 tarr41 tkind41 tfld41x0 tfld41x1 tfld41x2 tfld41x3 tpl41 tz41 tleaf41 tby41 tsz42 tagg42 tarr42 tkind42 tfld42x0 tfld42x1 tfld42x2 tpl42 tz42 tsz43 tagg43 tarr43 tkind43 tfld43x0 tfld43x1 tfld43x2 tpl43 tz43 tby43 tsz44 tagg44 tarr44 tkind44 tfld44x0 tfld44x1 tfld44x2 tfld44x3 tfld44x4 tpl44 tz44 tsz45 tagg45 tarr45 tkind45 tfld45x0 tfld45x1 tfld45x2 tfld45x3 tfld45x4 tpl45 tz45 tby45 tsz47 tagg47 tarr47 tkind47 tpl47 tz47 tint47 tsz56 tagg56 tarr56 tkind56 tfld56x0 tfld56x1 tfld56x2 tfld56x3 tpl56 tz56 tleaf56 tby56 tsz58 tagg58 tarr58 tkind58 tpl58 tz58 tslc58 tsz75 tagg75 tarr75 tkind75 tpl75 tz75 tslc75 tsz80 tagg80 tarr80 tkind80 tpl80 tz80 tslc80 tsz84 tagg84 tarr84 tkind84 tpl84 tz84 tslc84 tsz85 tagg85 tarr85 tkind85 tpl85 tz85 tsz89 tagg89 tarr89 tkind89 tpl89 tz89 tslc89 tsz90 tagg90 tarr90 tkind90 tpl90 tz90 tint90 tsz91 tagg91 tarr91 tkind91 tpl91 tz91 tptr91 tsz100 tagg100 tarr100 tkind100 tpl100 tz100 tslc100 tsz101 tagg101 tarr101 tkind101 tpl101 tz101 tptr101 tsz103 tagg103 tarr103 tkind103 tpl103 tz103 tptr103 tsz104 tagg104 tarr104 tkind104 tpl104 tz104 tslc104 tsz105 tagg105 tarr105 tkind105 tfld105x0 tpl105 tz105 tsz106 tagg106 tarr106 tkind106 tfld106x0 tpl106 tz106 tsz107 tagg107 tarr107 tkind107 tfld107x0 tfld107x1 tpl107 tz107 tsz108 tagg108 tarr108 tkind108 tfld108x0 tfld108x1 tpl108 tz108 tleaf108 tby108 tsz109 tagg109 tarr109 tkind109 tfld109x0 tfld109x1 tpl109 tz109 tsz110 tagg110 tarr110 tkind110 tfld110x0 tfld110x1 tpl110 tz110 tby110 tsz111 tagg111 tarr111 tkind111 tfld111x0 tfld111x1 tpl111 tz111 tsz112 tagg112 tarr112 tkind112 tfld112x0 tfld112x1 tfld112x2 tfld112x3 tpl112 tz112 tsz113 tagg113 tarr113 tkind113 tfld113x0 tfld113x1 tfld113x2 tfld113x3 tpl113 tz113 tby113 tsz119 tagg119 tarr119 tkind119 tfld119x0 tfld119x1 tpl119 tz119 tsz120 tagg120 tarr120 tkind120 tfld120x0 tfld120x1 tpl120 tz120 tleaf120 tsz122 tagg122 tarr122 tkind122 tfld122x0 tfld122x1 tpl122 tz122 tsz123 tagg123 tarr123 tkind123 tfld123x0 tfld123x1 tpl123 tz123 tby123 tsz126 tagg126 tarr126 tkind126 tfld126x0 tfld126x1 tpl126 tz126 tsz127 tagg127 tarr127 tkind127 tfld127x0 tfld127x1 tpl127 tz127 tby127 tsz132 tagg132 tarr132 tkind132 tpl132 tz132 tslc132 tsz135 tagg135 tarr135 tkind135 tpl135 tz135 tslc135 tsz136 tagg136 tarr136 tkind136 tpl136 tz136 tptr136 tsz138 tagg138 tarr138 tkind138 tpl138 tz138 tslc138 tsz141 tagg141 tarr141 tkind141 tfld141x0 tfld141x1 tpl141 tz141 tsz142 tagg142 tarr142 tkind142 tfld142x0 tfld142x1 tpl142 tz142 tleaf142 tby142 tsz149 tagg149 tarr149 tkind149 tpl149 tz149 tslc149 tsz154 tagg154 tarr154 tkind154 tfld154x0 tfld154x1 tpl154 tz154 tsz155 tagg155 tarr155 tkind155 tfld155x0 tfld155x1 tpl155 tz155 tsz156 tagg156 tarr156 tkind156 tfld156x0 tfld156x1 tpl156 tz156 tsz157 tagg157 tarr157 tkind157 tfld157x0 tfld157x1 tpl157 tz157 tsz158 tagg158 tarr158 tkind158 tfld158x0 tfld158x1 tpl158 tz158 tsz159 tagg159 tarr159 tkind159 tfld159x0 tfld159x1 tpl159 tz159 tsz160 tagg160 tarr160 tkind160 tpl160 tz160 tsz161 tagg161 tarr161 tkind161 tfld161x0 tpl161 tz161 tsz162 tagg162 tarr162 tkind162 tfld162x0 tpl162 tz162 tsz163 tagg163 tarr163 tkind163 tpl163 tz163 tptr163 tsz167 tagg167 tarr167 tkind167 tpl167 tz167 tptr167 tsz176 tagg176 tarr176 tkind176 tfld176x0 tfld176x1 tpl176 tz176 tsz177 tagg177 tarr177 tkind177 tfld177x0 tfld177x1 tpl177 tz177 tsz178 tagg178 tarr178 tkind178 tfld178x0 tfld178x1 tfld178x2 tpl178 tz178 tsz179 tagg179 tarr179 tkind179 tfld179x0 tfld179x1 tfld179x2 tpl179 tz179 tsz183 tagg183 tarr183 tkind183 tfld183x0 tpl183 tz183 tsz184 tagg184 tarr184 tkind184 tfld184x0 tpl184 tz184 tsz185 tagg185 tarr185 tkind185 tpl185 tz185 tint185 tsz198 tagg198 tarr198 tkind198 tfld198x0 tpl198 tz198 tsz199 tagg199 tarr199 tkind199 tfld199x0 tpl199 tz199 tsz209 tagg209 tarr209 tkind209 tpl209 tz209 tslc209 tsz213 tagg213 tarr213 tkind213 tpl213 tz213 tptr213 tsz214 tagg214 tarr214 tkind214 tfld214x0 tfld214x1 tpl214 tz214 tsz215 tagg215 tarr215 tkind215 tfld215x0 tfld215x1 tpl215 tz215 tsz217 tagg217 tarr217 tkind217 tpl217 tz217 tsz218 tagg218 tarr218 tkind218 tpl218 tz218 tsz237 tagg237 tarr237 tkind237 tpl237 tz237 tslc237 tsz240 tagg240 tarr240 tkind240 tpl240 tz240 tptr240 tsz253 tagg253 tarr253 tkind253 tfld253x0 tfld253x1 tfld253x2 tfld253x3 tpl253 tz253 tsz254 tagg254 tarr254 tkind254 tfld254x0 tfld254x1 tfld254x2 tfld254x3 tpl254 tz254 tsz255 tagg255 tarr255 tkind255 tpl255 tz255 tsz256 tagg256 tarr256 tkind256 tfld256x0 tpl256 tz256 tsz257 tagg257 tarr257 tkind257 tfld257x0 tpl257 tz257 tsz258 tagg258 tarr258 tkind258 tpl258 tz258 tint258 tsz259 tagg259 tarr259 tkind259 tpl259 tz259 tint259 tsz261 tagg261 tarr261 tkind261 tpl261 tz261 tint261 tsz262 tagg262 tarr262 tkind262 tpl262 tz262 tint262 tsz263 tagg263 tarr263 tkind263 tfld263x0 tfld263x1 tfld263x2 tfld263x3 tfld263x4 tfld263x5 tfld263x6 tfld263x7 tfld263x8 tfld263x9 tfld263x10 tpl263 tz263 tsz264 tagg264 tarr264 tkind264 tfld264x0 tfld264x1 tfld264x2 tfld264x3 tfld264x4 tfld264x5 tfld264x6 tfld264x7 tfld264x8 tfld264x9 tfld264x10 tpl264 tz264
end Go.Proofs.Ytfokingbglkmjaa
