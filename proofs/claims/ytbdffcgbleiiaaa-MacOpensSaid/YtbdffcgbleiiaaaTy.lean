/-
  What the program's tables say of its types: how many cells, where a field lies, what a variable holds at first. Each by the kernel's own reckoning.
  Conditions: none.
-/
import Derived.Test.YtbdffcgbleiiaaaProg
import Derived.Test.YtbdffcgbleiiaaaSx11
namespace Go.Proofs.Ytbdffcgbleiiaaa
open Go.Sx

theorem tsz2 : tsz Try.prog 2 = some 1 := by kernel_rfl
theorem tagg2 : tagg Try.prog 2 = some false := by kernel_rfl
theorem tarr2 : tarr Try.prog 2 = none := by kernel_rfl
theorem tkind2 : tkind Try.prog 2 = some .oth := by kernel_rfl
theorem tpl2 : tplaces Try.prog 2 = none := by kernel_rfl
theorem tz2 : tzero Try.prog 2 = some [.int .i64 0] := by kernel_rfl
theorem tint2 : tint Try.prog 2 = some (some .i64) := by kernel_rfl
theorem tsz3 : tsz Try.prog 3 = some 1 := by kernel_rfl
theorem tagg3 : tagg Try.prog 3 = some false := by kernel_rfl
theorem tarr3 : tarr Try.prog 3 = none := by kernel_rfl
theorem tkind3 : tkind Try.prog 3 = some .oth := by kernel_rfl
theorem tpl3 : tplaces Try.prog 3 = none := by kernel_rfl
theorem tz3 : tzero Try.prog 3 = some [.int .i64 0] := by kernel_rfl
theorem tby3 : tby Try.prog 3 = some 8 := by kernel_rfl
theorem tint3 : tint Try.prog 3 = some (some .i64) := by kernel_rfl
theorem tsz4 : tsz Try.prog 4 = some 1 := by kernel_rfl
theorem tagg4 : tagg Try.prog 4 = some false := by kernel_rfl
theorem tarr4 : tarr Try.prog 4 = none := by kernel_rfl
theorem tkind4 : tkind Try.prog 4 = some .oth := by kernel_rfl
theorem tpl4 : tplaces Try.prog 4 = none := by kernel_rfl
theorem tz4 : tzero Try.prog 4 = some [.bool false] := by kernel_rfl
theorem tbool4 : tbool Try.prog 4 = some true := by kernel_rfl
theorem tsz5 : tsz Try.prog 5 = some 1 := by kernel_rfl
theorem tagg5 : tagg Try.prog 5 = some false := by kernel_rfl
theorem tarr5 : tarr Try.prog 5 = none := by kernel_rfl
theorem tkind5 : tkind Try.prog 5 = some .oth := by kernel_rfl
theorem tpl5 : tplaces Try.prog 5 = none := by kernel_rfl
theorem tz5 : tzero Try.prog 5 = some [.int .u8 0] := by kernel_rfl
theorem tby5 : tby Try.prog 5 = some 1 := by kernel_rfl
theorem tint5 : tint Try.prog 5 = some (some .u8) := by kernel_rfl
theorem tsz6 : tsz Try.prog 6 = some 1 := by kernel_rfl
theorem tagg6 : tagg Try.prog 6 = some false := by kernel_rfl
theorem tarr6 : tarr Try.prog 6 = none := by kernel_rfl
theorem tkind6 : tkind Try.prog 6 = some .oth := by kernel_rfl
theorem tpl6 : tplaces Try.prog 6 = none := by kernel_rfl
theorem tz6 : tzero Try.prog 6 = some [.int .u8 0] := by kernel_rfl
theorem tint6 : tint Try.prog 6 = some (some .u8) := by kernel_rfl
theorem tsz7 : tsz Try.prog 7 = some 4 := by kernel_rfl
theorem tagg7 : tagg Try.prog 7 = some true := by kernel_rfl
theorem tarr7 : tarr Try.prog 7 = none := by kernel_rfl
theorem tkind7 : tkind Try.prog 7 = some .oth := by kernel_rfl
theorem tfld7x0 : tfld Try.prog 7 0 = some (0, 2) := by kernel_rfl
theorem tfld7x1 : tfld Try.prog 7 1 = some (1, 3) := by kernel_rfl
theorem tfld7x2 : tfld Try.prog 7 2 = some (2, 4) := by kernel_rfl
theorem tfld7x3 : tfld Try.prog 7 3 = some (3, 6) := by kernel_rfl
theorem tpl7 : tplaces Try.prog 7 = some [(0, 1), (1, 1), (2, 1), (3, 1)] := by kernel_rfl
theorem tz7 : tzero Try.prog 7 = some [.int .i64 0, .int .i64 0, .bool false, .int .u8 0] := by kernel_rfl
theorem tsz8 : tsz Try.prog 8 = some 4 := by kernel_rfl
theorem tagg8 : tagg Try.prog 8 = some true := by kernel_rfl
theorem tarr8 : tarr Try.prog 8 = none := by kernel_rfl
theorem tkind8 : tkind Try.prog 8 = some .oth := by kernel_rfl
theorem tfld8x0 : tfld Try.prog 8 0 = some (0, 2) := by kernel_rfl
theorem tfld8x1 : tfld Try.prog 8 1 = some (1, 3) := by kernel_rfl
theorem tfld8x2 : tfld Try.prog 8 2 = some (2, 4) := by kernel_rfl
theorem tfld8x3 : tfld Try.prog 8 3 = some (3, 6) := by kernel_rfl
theorem tpl8 : tplaces Try.prog 8 = some [(0, 1), (1, 1), (2, 1), (3, 1)] := by kernel_rfl
theorem tz8 : tzero Try.prog 8 = some [.int .i64 0, .int .i64 0, .bool false, .int .u8 0] := by kernel_rfl
theorem tsz9 : tsz Try.prog 9 = some 1 := by kernel_rfl
theorem tagg9 : tagg Try.prog 9 = some false := by kernel_rfl
theorem tarr9 : tarr Try.prog 9 = none := by kernel_rfl
theorem tkind9 : tkind Try.prog 9 = some .str := by kernel_rfl
theorem tpl9 : tplaces Try.prog 9 = none := by kernel_rfl
theorem tz9 : tzero Try.prog 9 = some [.string ByteArray.empty] := by kernel_rfl
theorem tsz10 : tsz Try.prog 10 = some 1 := by kernel_rfl
theorem tagg10 : tagg Try.prog 10 = some false := by kernel_rfl
theorem tarr10 : tarr Try.prog 10 = none := by kernel_rfl
theorem tkind10 : tkind Try.prog 10 = some .str := by kernel_rfl
theorem tpl10 : tplaces Try.prog 10 = none := by kernel_rfl
theorem tz10 : tzero Try.prog 10 = some [.string ByteArray.empty] := by kernel_rfl
theorem tsz11 : tsz Try.prog 11 = some 1 := by kernel_rfl
theorem tagg11 : tagg Try.prog 11 = some false := by kernel_rfl
theorem tarr11 : tarr Try.prog 11 = none := by kernel_rfl
theorem tkind11 : tkind Try.prog 11 = some .str := by kernel_rfl
theorem tpl11 : tplaces Try.prog 11 = none := by kernel_rfl
theorem tz11 : tzero Try.prog 11 = some [.string ByteArray.empty] := by kernel_rfl
theorem tsz12 : tsz Try.prog 12 = some 1 := by kernel_rfl
theorem tagg12 : tagg Try.prog 12 = some false := by kernel_rfl
theorem tarr12 : tarr Try.prog 12 = none := by kernel_rfl
theorem tkind12 : tkind Try.prog 12 = some .oth := by kernel_rfl
theorem tpl12 : tplaces Try.prog 12 = none := by kernel_rfl
theorem tz12 : tzero Try.prog 12 = some [.int .u64 0] := by kernel_rfl
theorem tint12 : tint Try.prog 12 = some (some .u64) := by kernel_rfl
theorem tsz13 : tsz Try.prog 13 = some 2 := by kernel_rfl
theorem tagg13 : tagg Try.prog 13 = some true := by kernel_rfl
theorem tarr13 : tarr Try.prog 13 = none := by kernel_rfl
theorem tkind13 : tkind Try.prog 13 = some .oth := by kernel_rfl
theorem tfld13x0 : tfld Try.prog 13 0 = some (0, 9) := by kernel_rfl
theorem tfld13x1 : tfld Try.prog 13 1 = some (1, 12) := by kernel_rfl
theorem tpl13 : tplaces Try.prog 13 = some [(0, 1), (1, 1)] := by kernel_rfl
theorem tz13 : tzero Try.prog 13 = some [.string ByteArray.empty, .int .u64 0] := by kernel_rfl
theorem tsz14 : tsz Try.prog 14 = some 2 := by kernel_rfl
theorem tagg14 : tagg Try.prog 14 = some true := by kernel_rfl
theorem tarr14 : tarr Try.prog 14 = none := by kernel_rfl
theorem tkind14 : tkind Try.prog 14 = some .oth := by kernel_rfl
theorem tfld14x0 : tfld Try.prog 14 0 = some (0, 9) := by kernel_rfl
theorem tfld14x1 : tfld Try.prog 14 1 = some (1, 12) := by kernel_rfl
theorem tpl14 : tplaces Try.prog 14 = some [(0, 1), (1, 1)] := by kernel_rfl
theorem tz14 : tzero Try.prog 14 = some [.string ByteArray.empty, .int .u64 0] := by kernel_rfl
theorem tsz15 : tsz Try.prog 15 = some 1 := by kernel_rfl
theorem tagg15 : tagg Try.prog 15 = some false := by kernel_rfl
theorem tarr15 : tarr Try.prog 15 = none := by kernel_rfl
theorem tkind15 : tkind Try.prog 15 = some .oth := by kernel_rfl
theorem tpl15 : tplaces Try.prog 15 = none := by kernel_rfl
theorem tz15 : tzero Try.prog 15 = some [.pointer none] := by kernel_rfl
theorem tptr15 : tptr Try.prog 15 = some true := by kernel_rfl
theorem tsz16 : tsz Try.prog 16 = some 1 := by kernel_rfl
theorem tagg16 : tagg Try.prog 16 = some false := by kernel_rfl
theorem tarr16 : tarr Try.prog 16 = none := by kernel_rfl
theorem tkind16 : tkind Try.prog 16 = some .oth := by kernel_rfl
theorem tpl16 : tplaces Try.prog 16 = none := by kernel_rfl
theorem tz16 : tzero Try.prog 16 = some [.pointer none] := by kernel_rfl
theorem tptr16 : tptr Try.prog 16 = some true := by kernel_rfl
theorem tsz17 : tsz Try.prog 17 = some 1 := by kernel_rfl
theorem tagg17 : tagg Try.prog 17 = some false := by kernel_rfl
theorem tarr17 : tarr Try.prog 17 = none := by kernel_rfl
theorem tkind17 : tkind Try.prog 17 = some .oth := by kernel_rfl
theorem tpl17 : tplaces Try.prog 17 = none := by kernel_rfl
theorem tz17 : tzero Try.prog 17 = some [.pointer none] := by kernel_rfl
theorem tptr17 : tptr Try.prog 17 = some true := by kernel_rfl
theorem tsz18 : tsz Try.prog 18 = some 1 := by kernel_rfl
theorem tagg18 : tagg Try.prog 18 = some true := by kernel_rfl
theorem tarr18 : tarr Try.prog 18 = none := by kernel_rfl
theorem tkind18 : tkind Try.prog 18 = some .oth := by kernel_rfl
theorem tfld18x0 : tfld Try.prog 18 0 = some (0, 17) := by kernel_rfl
theorem tpl18 : tplaces Try.prog 18 = some [(0, 1)] := by kernel_rfl
theorem tz18 : tzero Try.prog 18 = some [.pointer none] := by kernel_rfl
theorem tsz19 : tsz Try.prog 19 = some 1 := by kernel_rfl
theorem tagg19 : tagg Try.prog 19 = some true := by kernel_rfl
theorem tarr19 : tarr Try.prog 19 = none := by kernel_rfl
theorem tkind19 : tkind Try.prog 19 = some .oth := by kernel_rfl
theorem tfld19x0 : tfld Try.prog 19 0 = some (0, 17) := by kernel_rfl
theorem tpl19 : tplaces Try.prog 19 = some [(0, 1)] := by kernel_rfl
theorem tz19 : tzero Try.prog 19 = some [.pointer none] := by kernel_rfl
theorem tsz20 : tsz Try.prog 20 = some 1 := by kernel_rfl
theorem tagg20 : tagg Try.prog 20 = some false := by kernel_rfl
theorem tarr20 : tarr Try.prog 20 = none := by kernel_rfl
theorem tkind20 : tkind Try.prog 20 = some .oth := by kernel_rfl
theorem tpl20 : tplaces Try.prog 20 = none := by kernel_rfl
theorem tz20 : tzero Try.prog 20 = some [.nilIface] := by kernel_rfl
theorem tsz21 : tsz Try.prog 21 = some 1 := by kernel_rfl
theorem tagg21 : tagg Try.prog 21 = some false := by kernel_rfl
theorem tarr21 : tarr Try.prog 21 = none := by kernel_rfl
theorem tkind21 : tkind Try.prog 21 = some .oth := by kernel_rfl
theorem tpl21 : tplaces Try.prog 21 = none := by kernel_rfl
theorem tz21 : tzero Try.prog 21 = some [.int .i32 0] := by kernel_rfl
theorem tint21 : tint Try.prog 21 = some (some .i32) := by kernel_rfl
theorem tsz22 : tsz Try.prog 22 = some 1 := by kernel_rfl
theorem tagg22 : tagg Try.prog 22 = some false := by kernel_rfl
theorem tarr22 : tarr Try.prog 22 = none := by kernel_rfl
theorem tkind22 : tkind Try.prog 22 = some (.slc 40) := by kernel_rfl
theorem tpl22 : tplaces Try.prog 22 = none := by kernel_rfl
theorem tz22 : tzero Try.prog 22 = some [.slice none 0 0] := by kernel_rfl
theorem tslc22 : tslc Try.prog 22 = some true := by kernel_rfl
theorem tsz24 : tsz Try.prog 24 = some 1 := by kernel_rfl
theorem tagg24 : tagg Try.prog 24 = some false := by kernel_rfl
theorem tarr24 : tarr Try.prog 24 = none := by kernel_rfl
theorem tkind24 : tkind Try.prog 24 = some .oth := by kernel_rfl
theorem tpl24 : tplaces Try.prog 24 = none := by kernel_rfl
theorem tz24 : tzero Try.prog 24 = some [.pointer none] := by kernel_rfl
theorem tptr24 : tptr Try.prog 24 = some true := by kernel_rfl
theorem tsz26 : tsz Try.prog 26 = some 1 := by kernel_rfl
theorem tagg26 : tagg Try.prog 26 = some false := by kernel_rfl
theorem tarr26 : tarr Try.prog 26 = none := by kernel_rfl
theorem tkind26 : tkind Try.prog 26 = some .oth := by kernel_rfl
theorem tpl26 : tplaces Try.prog 26 = none := by kernel_rfl
theorem tz26 : tzero Try.prog 26 = some [.pointer none] := by kernel_rfl
theorem tptr26 : tptr Try.prog 26 = some true := by kernel_rfl
theorem tsz27 : tsz Try.prog 27 = some 1 := by kernel_rfl
theorem tagg27 : tagg Try.prog 27 = some false := by kernel_rfl
theorem tarr27 : tarr Try.prog 27 = none := by kernel_rfl
theorem tkind27 : tkind Try.prog 27 = some (.slc 56) := by kernel_rfl
theorem tpl27 : tplaces Try.prog 27 = none := by kernel_rfl
theorem tz27 : tzero Try.prog 27 = some [.slice none 0 0] := by kernel_rfl
theorem tslc27 : tslc Try.prog 27 = some true := by kernel_rfl
theorem tsz28 : tsz Try.prog 28 = some 1 := by kernel_rfl
theorem tagg28 : tagg Try.prog 28 = some true := by kernel_rfl
theorem tarr28 : tarr Try.prog 28 = none := by kernel_rfl
theorem tkind28 : tkind Try.prog 28 = some .oth := by kernel_rfl
theorem tfld28x0 : tfld Try.prog 28 0 = some (0, 27) := by kernel_rfl
theorem tpl28 : tplaces Try.prog 28 = some [(0, 1)] := by kernel_rfl
theorem tz28 : tzero Try.prog 28 = some [.slice none 0 0] := by kernel_rfl
theorem tsz29 : tsz Try.prog 29 = some 1 := by kernel_rfl
theorem tagg29 : tagg Try.prog 29 = some true := by kernel_rfl
theorem tarr29 : tarr Try.prog 29 = none := by kernel_rfl
theorem tkind29 : tkind Try.prog 29 = some .oth := by kernel_rfl
theorem tfld29x0 : tfld Try.prog 29 0 = some (0, 27) := by kernel_rfl
theorem tpl29 : tplaces Try.prog 29 = some [(0, 1)] := by kernel_rfl
theorem tz29 : tzero Try.prog 29 = some [.slice none 0 0] := by kernel_rfl
theorem tsz30 : tsz Try.prog 30 = some 1 := by kernel_rfl
theorem tagg30 : tagg Try.prog 30 = some false := by kernel_rfl
theorem tarr30 : tarr Try.prog 30 = none := by kernel_rfl
theorem tkind30 : tkind Try.prog 30 = some .oth := by kernel_rfl
theorem tpl30 : tplaces Try.prog 30 = none := by kernel_rfl
theorem tz30 : tzero Try.prog 30 = some [.int .u64 0] := by kernel_rfl
theorem tby30 : tby Try.prog 30 = some 8 := by kernel_rfl
theorem tint30 : tint Try.prog 30 = some (some .u64) := by kernel_rfl
theorem tsz31 : tsz Try.prog 31 = some 4 := by kernel_rfl
theorem tagg31 : tagg Try.prog 31 = some true := by kernel_rfl
theorem tarr31 : tarr Try.prog 31 = none := by kernel_rfl
theorem tkind31 : tkind Try.prog 31 = some (.arr 4 30) := by kernel_rfl
theorem tpl31 : tplaces Try.prog 31 = none := by kernel_rfl
theorem tz31 : tzero Try.prog 31 = some [.int .u64 0, .int .u64 0, .int .u64 0, .int .u64 0] := by kernel_rfl
theorem tsz32 : tsz Try.prog 32 = some 4 := by kernel_rfl
theorem tagg32 : tagg Try.prog 32 = some true := by kernel_rfl
theorem tarr32 : tarr Try.prog 32 = none := by kernel_rfl
theorem tkind32 : tkind Try.prog 32 = some (.arr 4 30) := by kernel_rfl
theorem tpl32 : tplaces Try.prog 32 = none := by kernel_rfl
theorem tz32 : tzero Try.prog 32 = some [.int .u64 0, .int .u64 0, .int .u64 0, .int .u64 0] := by kernel_rfl
theorem tleaf32 : tleaf Try.prog 32 = some [.i, .i, .i, .i] := by kernel_rfl
theorem tsz33 : tsz Try.prog 33 = some 5 := by kernel_rfl
theorem tagg33 : tagg Try.prog 33 = some true := by kernel_rfl
theorem tarr33 : tarr Try.prog 33 = none := by kernel_rfl
theorem tkind33 : tkind Try.prog 33 = some .oth := by kernel_rfl
theorem tfld33x0 : tfld Try.prog 33 0 = some (0, 32) := by kernel_rfl
theorem tfld33x1 : tfld Try.prog 33 1 = some (4, 3) := by kernel_rfl
theorem tpl33 : tplaces Try.prog 33 = some [(0, 4), (4, 1)] := by kernel_rfl
theorem tz33 : tzero Try.prog 33 = some [.int .u64 0, .int .u64 0, .int .u64 0, .int .u64 0, .int .i64 0] := by kernel_rfl
theorem tsz34 : tsz Try.prog 34 = some 5 := by kernel_rfl
theorem tagg34 : tagg Try.prog 34 = some true := by kernel_rfl
theorem tarr34 : tarr Try.prog 34 = none := by kernel_rfl
theorem tkind34 : tkind Try.prog 34 = some .oth := by kernel_rfl
theorem tfld34x0 : tfld Try.prog 34 0 = some (0, 32) := by kernel_rfl
theorem tfld34x1 : tfld Try.prog 34 1 = some (4, 3) := by kernel_rfl
theorem tpl34 : tplaces Try.prog 34 = some [(0, 4), (4, 1)] := by kernel_rfl
theorem tz34 : tzero Try.prog 34 = some [.int .u64 0, .int .u64 0, .int .u64 0, .int .u64 0, .int .i64 0] := by kernel_rfl
theorem tleaf34 : tleaf Try.prog 34 = some [.i, .i, .i, .i, .i] := by kernel_rfl
theorem tby34 : tby Try.prog 34 = some 40 := by kernel_rfl
theorem tsz35 : tsz Try.prog 35 = some 6 := by kernel_rfl
theorem tagg35 : tagg Try.prog 35 = some true := by kernel_rfl
theorem tarr35 : tarr Try.prog 35 = none := by kernel_rfl
theorem tkind35 : tkind Try.prog 35 = some .oth := by kernel_rfl
theorem tfld35x0 : tfld Try.prog 35 0 = some (0, 34) := by kernel_rfl
theorem tfld35x1 : tfld Try.prog 35 1 = some (5, 4) := by kernel_rfl
theorem tpl35 : tplaces Try.prog 35 = some [(0, 5), (5, 1)] := by kernel_rfl
theorem tz35 : tzero Try.prog 35 = some [.int .u64 0, .int .u64 0, .int .u64 0, .int .u64 0, .int .i64 0, .bool false] := by kernel_rfl
theorem tsz36 : tsz Try.prog 36 = some 6 := by kernel_rfl
theorem tagg36 : tagg Try.prog 36 = some true := by kernel_rfl
theorem tarr36 : tarr Try.prog 36 = none := by kernel_rfl
theorem tkind36 : tkind Try.prog 36 = some .oth := by kernel_rfl
theorem tfld36x0 : tfld Try.prog 36 0 = some (0, 34) := by kernel_rfl
theorem tfld36x1 : tfld Try.prog 36 1 = some (5, 4) := by kernel_rfl
theorem tpl36 : tplaces Try.prog 36 = some [(0, 5), (5, 1)] := by kernel_rfl
theorem tz36 : tzero Try.prog 36 = some [.int .u64 0, .int .u64 0, .int .u64 0, .int .u64 0, .int .i64 0, .bool false] := by kernel_rfl
theorem tby36 : tby Try.prog 36 = some 48 := by kernel_rfl
theorem tsz37 : tsz Try.prog 37 = some 5 := by kernel_rfl
theorem tagg37 : tagg Try.prog 37 = some true := by kernel_rfl
theorem tarr37 : tarr Try.prog 37 = none := by kernel_rfl
theorem tkind37 : tkind Try.prog 37 = some .oth := by kernel_rfl
theorem tfld37x0 : tfld Try.prog 37 0 = some (0, 32) := by kernel_rfl
theorem tfld37x1 : tfld Try.prog 37 1 = some (4, 4) := by kernel_rfl
theorem tpl37 : tplaces Try.prog 37 = some [(0, 4), (4, 1)] := by kernel_rfl
theorem tz37 : tzero Try.prog 37 = some [.int .u64 0, .int .u64 0, .int .u64 0, .int .u64 0, .bool false] := by kernel_rfl
theorem tsz38 : tsz Try.prog 38 = some 5 := by kernel_rfl
theorem tagg38 : tagg Try.prog 38 = some true := by kernel_rfl
theorem tarr38 : tarr Try.prog 38 = none := by kernel_rfl
theorem tkind38 : tkind Try.prog 38 = some .oth := by kernel_rfl
theorem tfld38x0 : tfld Try.prog 38 0 = some (0, 32) := by kernel_rfl
theorem tfld38x1 : tfld Try.prog 38 1 = some (4, 4) := by kernel_rfl
theorem tpl38 : tplaces Try.prog 38 = some [(0, 4), (4, 1)] := by kernel_rfl
theorem tz38 : tzero Try.prog 38 = some [.int .u64 0, .int .u64 0, .int .u64 0, .int .u64 0, .bool false] := by kernel_rfl
theorem tsz39 : tsz Try.prog 39 = some 13 := by kernel_rfl
theorem tagg39 : tagg Try.prog 39 = some true := by kernel_rfl
theorem tarr39 : tarr Try.prog 39 = none := by kernel_rfl
theorem tkind39 : tkind Try.prog 39 = some .oth := by kernel_rfl
theorem tfld39x0 : tfld Try.prog 39 0 = some (0, 5) := by kernel_rfl
theorem tfld39x1 : tfld Try.prog 39 1 = some (1, 36) := by kernel_rfl
theorem tfld39x2 : tfld Try.prog 39 2 = some (7, 9) := by kernel_rfl
theorem tfld39x3 : tfld Try.prog 39 3 = some (8, 38) := by kernel_rfl
theorem tpl39 : tplaces Try.prog 39 = some [(0, 1), (1, 6), (7, 1), (8, 5)] := by kernel_rfl
theorem tz39 : tzero Try.prog 39 = some [.int .u8 0, .int .u64 0, .int .u64 0, .int .u64 0, .int .u64 0, .int .i64 0, .bool false, .string ByteArray.empty, .int .u64 0, .int .u64 0, .int .u64 0, .int .u64 0, .bool false] := by kernel_rfl
theorem tsz40 : tsz Try.prog 40 = some 13 := by kernel_rfl
theorem tagg40 : tagg Try.prog 40 = some true := by kernel_rfl
theorem tarr40 : tarr Try.prog 40 = none := by kernel_rfl
theorem tkind40 : tkind Try.prog 40 = some .oth := by kernel_rfl
theorem tfld40x0 : tfld Try.prog 40 0 = some (0, 5) := by kernel_rfl
theorem tfld40x1 : tfld Try.prog 40 1 = some (1, 36) := by kernel_rfl
theorem tfld40x2 : tfld Try.prog 40 2 = some (7, 9) := by kernel_rfl
theorem tfld40x3 : tfld Try.prog 40 3 = some (8, 38) := by kernel_rfl
theorem tpl40 : tplaces Try.prog 40 = some [(0, 1), (1, 6), (7, 1), (8, 5)] := by kernel_rfl
theorem tz40 : tzero Try.prog 40 = some [.int .u8 0, .int .u64 0, .int .u64 0, .int .u64 0, .int .u64 0, .int .i64 0, .bool false, .string ByteArray.empty, .int .u64 0, .int .u64 0, .int .u64 0, .int .u64 0, .bool false] := by kernel_rfl
theorem tby40 : tby Try.prog 40 = some 112 := by kernel_rfl
theorem tsz45 : tsz Try.prog 45 = some 4 := by kernel_rfl
theorem tagg45 : tagg Try.prog 45 = some true := by kernel_rfl
theorem tarr45 : tarr Try.prog 45 = none := by kernel_rfl
theorem tkind45 : tkind Try.prog 45 = some (.arr 4 30) := by kernel_rfl
theorem tpl45 : tplaces Try.prog 45 = none := by kernel_rfl
theorem tz45 : tzero Try.prog 45 = some [.int .u64 0, .int .u64 0, .int .u64 0, .int .u64 0] := by kernel_rfl
theorem tsz48 : tsz Try.prog 48 = some 5 := by kernel_rfl
theorem tagg48 : tagg Try.prog 48 = some true := by kernel_rfl
theorem tarr48 : tarr Try.prog 48 = none := by kernel_rfl
theorem tkind48 : tkind Try.prog 48 = some .oth := by kernel_rfl
theorem tfld48x0 : tfld Try.prog 48 0 = some (0, 45) := by kernel_rfl
theorem tfld48x1 : tfld Try.prog 48 1 = some (4, 3) := by kernel_rfl
theorem tpl48 : tplaces Try.prog 48 = some [(0, 4), (4, 1)] := by kernel_rfl
theorem tz48 : tzero Try.prog 48 = some [.int .u64 0, .int .u64 0, .int .u64 0, .int .u64 0, .int .i64 0] := by kernel_rfl
theorem tsz49 : tsz Try.prog 49 = some 5 := by kernel_rfl
theorem tagg49 : tagg Try.prog 49 = some true := by kernel_rfl
theorem tarr49 : tarr Try.prog 49 = none := by kernel_rfl
theorem tkind49 : tkind Try.prog 49 = some .oth := by kernel_rfl
theorem tfld49x0 : tfld Try.prog 49 0 = some (0, 45) := by kernel_rfl
theorem tfld49x1 : tfld Try.prog 49 1 = some (4, 3) := by kernel_rfl
theorem tpl49 : tplaces Try.prog 49 = some [(0, 4), (4, 1)] := by kernel_rfl
theorem tz49 : tzero Try.prog 49 = some [.int .u64 0, .int .u64 0, .int .u64 0, .int .u64 0, .int .i64 0] := by kernel_rfl
theorem tleaf49 : tleaf Try.prog 49 = some [.i, .i, .i, .i, .i] := by kernel_rfl
theorem tsz51 : tsz Try.prog 51 = some 6 := by kernel_rfl
theorem tagg51 : tagg Try.prog 51 = some true := by kernel_rfl
theorem tarr51 : tarr Try.prog 51 = none := by kernel_rfl
theorem tkind51 : tkind Try.prog 51 = some .oth := by kernel_rfl
theorem tfld51x0 : tfld Try.prog 51 0 = some (0, 34) := by kernel_rfl
theorem tfld51x1 : tfld Try.prog 51 1 = some (5, 9) := by kernel_rfl
theorem tpl51 : tplaces Try.prog 51 = some [(0, 5), (5, 1)] := by kernel_rfl
theorem tz51 : tzero Try.prog 51 = some [.int .u64 0, .int .u64 0, .int .u64 0, .int .u64 0, .int .i64 0, .string ByteArray.empty] := by kernel_rfl
theorem tsz52 : tsz Try.prog 52 = some 6 := by kernel_rfl
theorem tagg52 : tagg Try.prog 52 = some true := by kernel_rfl
theorem tarr52 : tarr Try.prog 52 = none := by kernel_rfl
theorem tkind52 : tkind Try.prog 52 = some .oth := by kernel_rfl
theorem tfld52x0 : tfld Try.prog 52 0 = some (0, 34) := by kernel_rfl
theorem tfld52x1 : tfld Try.prog 52 1 = some (5, 9) := by kernel_rfl
theorem tpl52 : tplaces Try.prog 52 = some [(0, 5), (5, 1)] := by kernel_rfl
theorem tz52 : tzero Try.prog 52 = some [.int .u64 0, .int .u64 0, .int .u64 0, .int .u64 0, .int .i64 0, .string ByteArray.empty] := by kernel_rfl
theorem tby52 : tby Try.prog 52 = some 56 := by kernel_rfl
theorem tsz55 : tsz Try.prog 55 = some 6 := by kernel_rfl
theorem tagg55 : tagg Try.prog 55 = some true := by kernel_rfl
theorem tarr55 : tarr Try.prog 55 = none := by kernel_rfl
theorem tkind55 : tkind Try.prog 55 = some .oth := by kernel_rfl
theorem tfld55x0 : tfld Try.prog 55 0 = some (0, 49) := by kernel_rfl
theorem tfld55x1 : tfld Try.prog 55 1 = some (5, 9) := by kernel_rfl
theorem tpl55 : tplaces Try.prog 55 = some [(0, 5), (5, 1)] := by kernel_rfl
theorem tz55 : tzero Try.prog 55 = some [.int .u64 0, .int .u64 0, .int .u64 0, .int .u64 0, .int .i64 0, .string ByteArray.empty] := by kernel_rfl
theorem tsz56 : tsz Try.prog 56 = some 6 := by kernel_rfl
theorem tagg56 : tagg Try.prog 56 = some true := by kernel_rfl
theorem tarr56 : tarr Try.prog 56 = none := by kernel_rfl
theorem tkind56 : tkind Try.prog 56 = some .oth := by kernel_rfl
theorem tfld56x0 : tfld Try.prog 56 0 = some (0, 49) := by kernel_rfl
theorem tfld56x1 : tfld Try.prog 56 1 = some (5, 9) := by kernel_rfl
theorem tpl56 : tplaces Try.prog 56 = some [(0, 5), (5, 1)] := by kernel_rfl
theorem tz56 : tzero Try.prog 56 = some [.int .u64 0, .int .u64 0, .int .u64 0, .int .u64 0, .int .i64 0, .string ByteArray.empty] := by kernel_rfl
theorem tby56 : tby Try.prog 56 = some 56 := by kernel_rfl
theorem tsz61 : tsz Try.prog 61 = some 1 := by kernel_rfl
theorem tagg61 : tagg Try.prog 61 = some false := by kernel_rfl
theorem tarr61 : tarr Try.prog 61 = none := by kernel_rfl
theorem tkind61 : tkind Try.prog 61 = some (.slc 52) := by kernel_rfl
theorem tpl61 : tplaces Try.prog 61 = none := by kernel_rfl
theorem tz61 : tzero Try.prog 61 = some [.slice none 0 0] := by kernel_rfl
theorem tslc61 : tslc Try.prog 61 = some true := by kernel_rfl
theorem tsz65 : tsz Try.prog 65 = some 1 := by kernel_rfl
theorem tagg65 : tagg Try.prog 65 = some false := by kernel_rfl
theorem tarr65 : tarr Try.prog 65 = none := by kernel_rfl
theorem tkind65 : tkind Try.prog 65 = some (.slc 36) := by kernel_rfl
theorem tpl65 : tplaces Try.prog 65 = none := by kernel_rfl
theorem tz65 : tzero Try.prog 65 = some [.slice none 0 0] := by kernel_rfl
theorem tslc65 : tslc Try.prog 65 = some true := by kernel_rfl
theorem tsz66 : tsz Try.prog 66 = some 1 := by kernel_rfl
theorem tagg66 : tagg Try.prog 66 = some false := by kernel_rfl
theorem tarr66 : tarr Try.prog 66 = none := by kernel_rfl
theorem tkind66 : tkind Try.prog 66 = some .oth := by kernel_rfl
theorem tpl66 : tplaces Try.prog 66 = none := by kernel_rfl
theorem tz66 : tzero Try.prog 66 = some [.pointer none] := by kernel_rfl
theorem tptr66 : tptr Try.prog 66 = some true := by kernel_rfl
theorem tsz68 : tsz Try.prog 68 = some 1 := by kernel_rfl
theorem tagg68 : tagg Try.prog 68 = some false := by kernel_rfl
theorem tarr68 : tarr Try.prog 68 = none := by kernel_rfl
theorem tkind68 : tkind Try.prog 68 = some (.slc 34) := by kernel_rfl
theorem tpl68 : tplaces Try.prog 68 = none := by kernel_rfl
theorem tz68 : tzero Try.prog 68 = some [.slice none 0 0] := by kernel_rfl
theorem tslc68 : tslc Try.prog 68 = some true := by kernel_rfl
theorem tsz71 : tsz Try.prog 71 = some 6 := by kernel_rfl
theorem tagg71 : tagg Try.prog 71 = some true := by kernel_rfl
theorem tarr71 : tarr Try.prog 71 = none := by kernel_rfl
theorem tkind71 : tkind Try.prog 71 = some .oth := by kernel_rfl
theorem tfld71x0 : tfld Try.prog 71 0 = some (0, 34) := by kernel_rfl
theorem tfld71x1 : tfld Try.prog 71 1 = some (5, 3) := by kernel_rfl
theorem tpl71 : tplaces Try.prog 71 = some [(0, 5), (5, 1)] := by kernel_rfl
theorem tz71 : tzero Try.prog 71 = some [.int .u64 0, .int .u64 0, .int .u64 0, .int .u64 0, .int .i64 0, .int .i64 0] := by kernel_rfl
theorem tsz72 : tsz Try.prog 72 = some 6 := by kernel_rfl
theorem tagg72 : tagg Try.prog 72 = some true := by kernel_rfl
theorem tarr72 : tarr Try.prog 72 = none := by kernel_rfl
theorem tkind72 : tkind Try.prog 72 = some .oth := by kernel_rfl
theorem tfld72x0 : tfld Try.prog 72 0 = some (0, 34) := by kernel_rfl
theorem tfld72x1 : tfld Try.prog 72 1 = some (5, 3) := by kernel_rfl
theorem tpl72 : tplaces Try.prog 72 = some [(0, 5), (5, 1)] := by kernel_rfl
theorem tz72 : tzero Try.prog 72 = some [.int .u64 0, .int .u64 0, .int .u64 0, .int .u64 0, .int .i64 0, .int .i64 0] := by kernel_rfl
theorem tleaf72 : tleaf Try.prog 72 = some [.i, .i, .i, .i, .i, .i] := by kernel_rfl
theorem tby72 : tby Try.prog 72 = some 48 := by kernel_rfl
theorem tsz80 : tsz Try.prog 80 = some 1 := by kernel_rfl
theorem tagg80 : tagg Try.prog 80 = some false := by kernel_rfl
theorem tarr80 : tarr Try.prog 80 = none := by kernel_rfl
theorem tkind80 : tkind Try.prog 80 = some (.slc 72) := by kernel_rfl
theorem tpl80 : tplaces Try.prog 80 = none := by kernel_rfl
theorem tz80 : tzero Try.prog 80 = some [.slice none 0 0] := by kernel_rfl
theorem tslc80 : tslc Try.prog 80 = some true := by kernel_rfl
theorem tsz88 : tsz Try.prog 88 = some 4 := by kernel_rfl
theorem tagg88 : tagg Try.prog 88 = some true := by kernel_rfl
theorem tarr88 : tarr Try.prog 88 = none := by kernel_rfl
theorem tkind88 : tkind Try.prog 88 = some .oth := by kernel_rfl
theorem tfld88x0 : tfld Try.prog 88 0 = some (0, 3) := by kernel_rfl
theorem tfld88x1 : tfld Try.prog 88 1 = some (1, 9) := by kernel_rfl
theorem tfld88x2 : tfld Try.prog 88 2 = some (2, 3) := by kernel_rfl
theorem tfld88x3 : tfld Try.prog 88 3 = some (3, 30) := by kernel_rfl
theorem tpl88 : tplaces Try.prog 88 = some [(0, 1), (1, 1), (2, 1), (3, 1)] := by kernel_rfl
theorem tz88 : tzero Try.prog 88 = some [.int .i64 0, .string ByteArray.empty, .int .i64 0, .int .u64 0] := by kernel_rfl
theorem tsz89 : tsz Try.prog 89 = some 4 := by kernel_rfl
theorem tagg89 : tagg Try.prog 89 = some true := by kernel_rfl
theorem tarr89 : tarr Try.prog 89 = none := by kernel_rfl
theorem tkind89 : tkind Try.prog 89 = some .oth := by kernel_rfl
theorem tfld89x0 : tfld Try.prog 89 0 = some (0, 3) := by kernel_rfl
theorem tfld89x1 : tfld Try.prog 89 1 = some (1, 9) := by kernel_rfl
theorem tfld89x2 : tfld Try.prog 89 2 = some (2, 3) := by kernel_rfl
theorem tfld89x3 : tfld Try.prog 89 3 = some (3, 30) := by kernel_rfl
theorem tpl89 : tplaces Try.prog 89 = some [(0, 1), (1, 1), (2, 1), (3, 1)] := by kernel_rfl
theorem tz89 : tzero Try.prog 89 = some [.int .i64 0, .string ByteArray.empty, .int .i64 0, .int .u64 0] := by kernel_rfl
theorem tleaf89 : tleaf Try.prog 89 = some [.i, .s, .i, .i] := by kernel_rfl
theorem tsz90 : tsz Try.prog 90 = some 5 := by kernel_rfl
theorem tagg90 : tagg Try.prog 90 = some true := by kernel_rfl
theorem tarr90 : tarr Try.prog 90 = none := by kernel_rfl
theorem tkind90 : tkind Try.prog 90 = some .oth := by kernel_rfl
theorem tfld90x0 : tfld Try.prog 90 0 = some (0, 89) := by kernel_rfl
theorem tfld90x1 : tfld Try.prog 90 1 = some (4, 4) := by kernel_rfl
theorem tpl90 : tplaces Try.prog 90 = some [(0, 4), (4, 1)] := by kernel_rfl
theorem tz90 : tzero Try.prog 90 = some [.int .i64 0, .string ByteArray.empty, .int .i64 0, .int .u64 0, .bool false] := by kernel_rfl
theorem tsz91 : tsz Try.prog 91 = some 5 := by kernel_rfl
theorem tagg91 : tagg Try.prog 91 = some true := by kernel_rfl
theorem tarr91 : tarr Try.prog 91 = none := by kernel_rfl
theorem tkind91 : tkind Try.prog 91 = some .oth := by kernel_rfl
theorem tfld91x0 : tfld Try.prog 91 0 = some (0, 89) := by kernel_rfl
theorem tfld91x1 : tfld Try.prog 91 1 = some (4, 4) := by kernel_rfl
theorem tpl91 : tplaces Try.prog 91 = some [(0, 4), (4, 1)] := by kernel_rfl
theorem tz91 : tzero Try.prog 91 = some [.int .i64 0, .string ByteArray.empty, .int .i64 0, .int .u64 0, .bool false] := by kernel_rfl
theorem tsz96 : tsz Try.prog 96 = some 4 := by kernel_rfl
theorem tagg96 : tagg Try.prog 96 = some true := by kernel_rfl
theorem tarr96 : tarr Try.prog 96 = none := by kernel_rfl
theorem tkind96 : tkind Try.prog 96 = some .oth := by kernel_rfl
theorem tfld96x0 : tfld Try.prog 96 0 = some (0, 3) := by kernel_rfl
theorem tfld96x1 : tfld Try.prog 96 1 = some (1, 9) := by kernel_rfl
theorem tfld96x2 : tfld Try.prog 96 2 = some (2, 3) := by kernel_rfl
theorem tfld96x3 : tfld Try.prog 96 3 = some (3, 30) := by kernel_rfl
theorem tpl96 : tplaces Try.prog 96 = some [(0, 1), (1, 1), (2, 1), (3, 1)] := by kernel_rfl
theorem tz96 : tzero Try.prog 96 = some [.int .i64 0, .string ByteArray.empty, .int .i64 0, .int .u64 0] := by kernel_rfl
theorem tleaf96 : tleaf Try.prog 96 = some [.i, .s, .i, .i] := by kernel_rfl
theorem tsz101 : tsz Try.prog 101 = some 1 := by kernel_rfl
theorem tagg101 : tagg Try.prog 101 = some false := by kernel_rfl
theorem tarr101 : tarr Try.prog 101 = none := by kernel_rfl
theorem tkind101 : tkind Try.prog 101 = some .oth := by kernel_rfl
theorem tpl101 : tplaces Try.prog 101 = none := by kernel_rfl
theorem tz101 : tzero Try.prog 101 = some [.int .i64 0] := by kernel_rfl
theorem tint101 : tint Try.prog 101 = some (some .i64) := by kernel_rfl
theorem tsz109 : tsz Try.prog 109 = some 1 := by kernel_rfl
theorem tagg109 : tagg Try.prog 109 = some false := by kernel_rfl
theorem tarr109 : tarr Try.prog 109 = none := by kernel_rfl
theorem tkind109 : tkind Try.prog 109 = some .oth := by kernel_rfl
theorem tpl109 : tplaces Try.prog 109 = none := by kernel_rfl
theorem tz109 : tzero Try.prog 109 = some [.int .i8 0] := by kernel_rfl
theorem tint109 : tint Try.prog 109 = some (some .i8) := by kernel_rfl
theorem tsz110 : tsz Try.prog 110 = some 1 := by kernel_rfl
theorem tagg110 : tagg Try.prog 110 = some false := by kernel_rfl
theorem tarr110 : tarr Try.prog 110 = none := by kernel_rfl
theorem tkind110 : tkind Try.prog 110 = some (.slc 5) := by kernel_rfl
theorem tpl110 : tplaces Try.prog 110 = none := by kernel_rfl
theorem tz110 : tzero Try.prog 110 = some [.slice none 0 0] := by kernel_rfl
theorem tslc110 : tslc Try.prog 110 = some true := by kernel_rfl
theorem tsz112 : tsz Try.prog 112 = some 1 := by kernel_rfl
theorem tagg112 : tagg Try.prog 112 = some true := by kernel_rfl
theorem tarr112 : tarr Try.prog 112 = none := by kernel_rfl
theorem tkind112 : tkind Try.prog 112 = some .oth := by kernel_rfl
theorem tfld112x0 : tfld Try.prog 112 0 = some (0, 61) := by kernel_rfl
theorem tpl112 : tplaces Try.prog 112 = some [(0, 1)] := by kernel_rfl
theorem tz112 : tzero Try.prog 112 = some [.slice none 0 0] := by kernel_rfl
theorem tsz113 : tsz Try.prog 113 = some 1 := by kernel_rfl
theorem tagg113 : tagg Try.prog 113 = some true := by kernel_rfl
theorem tarr113 : tarr Try.prog 113 = none := by kernel_rfl
theorem tkind113 : tkind Try.prog 113 = some .oth := by kernel_rfl
theorem tfld113x0 : tfld Try.prog 113 0 = some (0, 61) := by kernel_rfl
theorem tpl113 : tplaces Try.prog 113 = some [(0, 1)] := by kernel_rfl
theorem tz113 : tzero Try.prog 113 = some [.slice none 0 0] := by kernel_rfl
theorem tsz114 : tsz Try.prog 114 = some 1 := by kernel_rfl
theorem tagg114 : tagg Try.prog 114 = some false := by kernel_rfl
theorem tarr114 : tarr Try.prog 114 = none := by kernel_rfl
theorem tkind114 : tkind Try.prog 114 = some .oth := by kernel_rfl
theorem tpl114 : tplaces Try.prog 114 = none := by kernel_rfl
theorem tz114 : tzero Try.prog 114 = some [.int .u64 0] := by kernel_rfl
theorem tint114 : tint Try.prog 114 = some (some .u64) := by kernel_rfl
theorem tsz126 : tsz Try.prog 126 = some 1 := by kernel_rfl
theorem tagg126 : tagg Try.prog 126 = some true := by kernel_rfl
theorem tarr126 : tarr Try.prog 126 = none := by kernel_rfl
theorem tkind126 : tkind Try.prog 126 = some .oth := by kernel_rfl
theorem tfld126x0 : tfld Try.prog 126 0 = some (0, 80) := by kernel_rfl
theorem tpl126 : tplaces Try.prog 126 = some [(0, 1)] := by kernel_rfl
theorem tz126 : tzero Try.prog 126 = some [.slice none 0 0] := by kernel_rfl
theorem tsz127 : tsz Try.prog 127 = some 1 := by kernel_rfl
theorem tagg127 : tagg Try.prog 127 = some true := by kernel_rfl
theorem tarr127 : tarr Try.prog 127 = none := by kernel_rfl
theorem tkind127 : tkind Try.prog 127 = some .oth := by kernel_rfl
theorem tfld127x0 : tfld Try.prog 127 0 = some (0, 80) := by kernel_rfl
theorem tpl127 : tplaces Try.prog 127 = some [(0, 1)] := by kernel_rfl
theorem tz127 : tzero Try.prog 127 = some [.slice none 0 0] := by kernel_rfl
theorem tsz139 : tsz Try.prog 139 = some 1 := by kernel_rfl
theorem tagg139 : tagg Try.prog 139 = some false := by kernel_rfl
theorem tarr139 : tarr Try.prog 139 = none := by kernel_rfl
theorem tkind139 : tkind Try.prog 139 = some (.slc 30) := by kernel_rfl
theorem tpl139 : tplaces Try.prog 139 = none := by kernel_rfl
theorem tz139 : tzero Try.prog 139 = some [.slice none 0 0] := by kernel_rfl
theorem tslc139 : tslc Try.prog 139 = some true := by kernel_rfl
theorem tsz148 : tsz Try.prog 148 = some 32 := by kernel_rfl
theorem tagg148 : tagg Try.prog 148 = some true := by kernel_rfl
theorem tarr148 : tarr Try.prog 148 = none := by kernel_rfl
theorem tkind148 : tkind Try.prog 148 = some (.arr 32 5) := by kernel_rfl
theorem tpl148 : tplaces Try.prog 148 = none := by kernel_rfl
theorem tz148 : tzero Try.prog 148 = some [.int .u8 0, .int .u8 0, .int .u8 0, .int .u8 0, .int .u8 0, .int .u8 0, .int .u8 0, .int .u8 0, .int .u8 0, .int .u8 0, .int .u8 0, .int .u8 0, .int .u8 0, .int .u8 0, .int .u8 0, .int .u8 0, .int .u8 0, .int .u8 0, .int .u8 0, .int .u8 0, .int .u8 0, .int .u8 0, .int .u8 0, .int .u8 0, .int .u8 0, .int .u8 0, .int .u8 0, .int .u8 0, .int .u8 0, .int .u8 0, .int .u8 0, .int .u8 0] := by kernel_rfl
theorem tleaf148 : tleaf Try.prog 148 = some [.i, .i, .i, .i, .i, .i, .i, .i, .i, .i, .i, .i, .i, .i, .i, .i, .i, .i, .i, .i, .i, .i, .i, .i, .i, .i, .i, .i, .i, .i, .i, .i] := by kernel_rfl
theorem tsz151 : tsz Try.prog 151 = some 2 := by kernel_rfl
theorem tagg151 : tagg Try.prog 151 = some true := by kernel_rfl
theorem tarr151 : tarr Try.prog 151 = none := by kernel_rfl
theorem tkind151 : tkind Try.prog 151 = some .oth := by kernel_rfl
theorem tfld151x0 : tfld Try.prog 151 0 = some (0, 9) := by kernel_rfl
theorem tfld151x1 : tfld Try.prog 151 1 = some (1, 4) := by kernel_rfl
theorem tpl151 : tplaces Try.prog 151 = some [(0, 1), (1, 1)] := by kernel_rfl
theorem tz151 : tzero Try.prog 151 = some [.string ByteArray.empty, .bool false] := by kernel_rfl
theorem tsz152 : tsz Try.prog 152 = some 2 := by kernel_rfl
theorem tagg152 : tagg Try.prog 152 = some true := by kernel_rfl
theorem tarr152 : tarr Try.prog 152 = none := by kernel_rfl
theorem tkind152 : tkind Try.prog 152 = some .oth := by kernel_rfl
theorem tfld152x0 : tfld Try.prog 152 0 = some (0, 9) := by kernel_rfl
theorem tfld152x1 : tfld Try.prog 152 1 = some (1, 4) := by kernel_rfl
theorem tpl152 : tplaces Try.prog 152 = some [(0, 1), (1, 1)] := by kernel_rfl
theorem tz152 : tzero Try.prog 152 = some [.string ByteArray.empty, .bool false] := by kernel_rfl
theorem tsz157 : tsz Try.prog 157 = some 2 := by kernel_rfl
theorem tagg157 : tagg Try.prog 157 = some true := by kernel_rfl
theorem tarr157 : tarr Try.prog 157 = none := by kernel_rfl
theorem tkind157 : tkind Try.prog 157 = some .oth := by kernel_rfl
theorem tfld157x0 : tfld Try.prog 157 0 = some (0, 9) := by kernel_rfl
theorem tfld157x1 : tfld Try.prog 157 1 = some (1, 4) := by kernel_rfl
theorem tpl157 : tplaces Try.prog 157 = some [(0, 1), (1, 1)] := by kernel_rfl
theorem tz157 : tzero Try.prog 157 = some [.string ByteArray.empty, .bool false] := by kernel_rfl
theorem tsz177 : tsz Try.prog 177 = some 1 := by kernel_rfl
theorem tagg177 : tagg Try.prog 177 = some false := by kernel_rfl
theorem tarr177 : tarr Try.prog 177 = none := by kernel_rfl
theorem tkind177 : tkind Try.prog 177 = some (.slc 3) := by kernel_rfl
theorem tpl177 : tplaces Try.prog 177 = none := by kernel_rfl
theorem tz177 : tzero Try.prog 177 = some [.slice none 0 0] := by kernel_rfl
theorem tslc177 : tslc Try.prog 177 = some true := by kernel_rfl
theorem tsz180 : tsz Try.prog 180 = some 1 := by kernel_rfl
theorem tagg180 : tagg Try.prog 180 = some false := by kernel_rfl
theorem tarr180 : tarr Try.prog 180 = none := by kernel_rfl
theorem tkind180 : tkind Try.prog 180 = some .oth := by kernel_rfl
theorem tpl180 : tplaces Try.prog 180 = none := by kernel_rfl
theorem tz180 : tzero Try.prog 180 = some [.int .u32 0] := by kernel_rfl
theorem tint180 : tint Try.prog 180 = some (some .u32) := by kernel_rfl
theorem tsz181 : tsz Try.prog 181 = some 8 := by kernel_rfl
theorem tagg181 : tagg Try.prog 181 = some true := by kernel_rfl
theorem tarr181 : tarr Try.prog 181 = none := by kernel_rfl
theorem tkind181 : tkind Try.prog 181 = some (.arr 8 180) := by kernel_rfl
theorem tpl181 : tplaces Try.prog 181 = none := by kernel_rfl
theorem tz181 : tzero Try.prog 181 = some [.int .u32 0, .int .u32 0, .int .u32 0, .int .u32 0, .int .u32 0, .int .u32 0, .int .u32 0, .int .u32 0] := by kernel_rfl
theorem tsz187 : tsz Try.prog 187 = some 64 := by kernel_rfl
theorem tagg187 : tagg Try.prog 187 = some true := by kernel_rfl
theorem tarr187 : tarr Try.prog 187 = none := by kernel_rfl
theorem tkind187 : tkind Try.prog 187 = some (.arr 64 180) := by kernel_rfl
theorem tpl187 : tplaces Try.prog 187 = none := by kernel_rfl
theorem tz187 : tzero Try.prog 187 = some [.int .u32 0, .int .u32 0, .int .u32 0, .int .u32 0, .int .u32 0, .int .u32 0, .int .u32 0, .int .u32 0, .int .u32 0, .int .u32 0, .int .u32 0, .int .u32 0, .int .u32 0, .int .u32 0, .int .u32 0, .int .u32 0, .int .u32 0, .int .u32 0, .int .u32 0, .int .u32 0, .int .u32 0, .int .u32 0, .int .u32 0, .int .u32 0, .int .u32 0, .int .u32 0, .int .u32 0, .int .u32 0, .int .u32 0, .int .u32 0, .int .u32 0, .int .u32 0, .int .u32 0, .int .u32 0, .int .u32 0, .int .u32 0, .int .u32 0, .int .u32 0, .int .u32 0, .int .u32 0, .int .u32 0, .int .u32 0, .int .u32 0, .int .u32 0, .int .u32 0, .int .u32 0, .int .u32 0, .int .u32 0, .int .u32 0, .int .u32 0, .int .u32 0, .int .u32 0, .int .u32 0, .int .u32 0, .int .u32 0, .int .u32 0, .int .u32 0, .int .u32 0, .int .u32 0, .int .u32 0, .int .u32 0, .int .u32 0, .int .u32 0, .int .u32 0] := by kernel_rfl
theorem tsz190 : tsz Try.prog 190 = some 8 := by kernel_rfl
theorem tagg190 : tagg Try.prog 190 = some true := by kernel_rfl
theorem tarr190 : tarr Try.prog 190 = none := by kernel_rfl
theorem tkind190 : tkind Try.prog 190 = some (.arr 8 5) := by kernel_rfl
theorem tpl190 : tplaces Try.prog 190 = none := by kernel_rfl
theorem tz190 : tzero Try.prog 190 = some [.int .u8 0, .int .u8 0, .int .u8 0, .int .u8 0, .int .u8 0, .int .u8 0, .int .u8 0, .int .u8 0] := by kernel_rfl
theorem tsz200 : tsz Try.prog 200 = some 1 := by kernel_rfl
theorem tagg200 : tagg Try.prog 200 = some false := by kernel_rfl
theorem tarr200 : tarr Try.prog 200 = none := by kernel_rfl
theorem tkind200 : tkind Try.prog 200 = some .oth := by kernel_rfl
theorem tpl200 : tplaces Try.prog 200 = none := by kernel_rfl
theorem tz200 : tzero Try.prog 200 = some [.pointer none] := by kernel_rfl
theorem tptr200 : tptr Try.prog 200 = some true := by kernel_rfl
theorem tsz201 : tsz Try.prog 201 = some 2 := by kernel_rfl
theorem tagg201 : tagg Try.prog 201 = some true := by kernel_rfl
theorem tarr201 : tarr Try.prog 201 = none := by kernel_rfl
theorem tkind201 : tkind Try.prog 201 = some .oth := by kernel_rfl
theorem tfld201x0 : tfld Try.prog 201 0 = some (0, 200) := by kernel_rfl
theorem tfld201x1 : tfld Try.prog 201 1 = some (1, 110) := by kernel_rfl
theorem tpl201 : tplaces Try.prog 201 = some [(0, 1), (1, 1)] := by kernel_rfl
theorem tz201 : tzero Try.prog 201 = some [.pointer none, .slice none 0 0] := by kernel_rfl
theorem tsz202 : tsz Try.prog 202 = some 2 := by kernel_rfl
theorem tagg202 : tagg Try.prog 202 = some true := by kernel_rfl
theorem tarr202 : tarr Try.prog 202 = none := by kernel_rfl
theorem tkind202 : tkind Try.prog 202 = some .oth := by kernel_rfl
theorem tfld202x0 : tfld Try.prog 202 0 = some (0, 200) := by kernel_rfl
theorem tfld202x1 : tfld Try.prog 202 1 = some (1, 110) := by kernel_rfl
theorem tpl202 : tplaces Try.prog 202 = some [(0, 1), (1, 1)] := by kernel_rfl
theorem tz202 : tzero Try.prog 202 = some [.pointer none, .slice none 0 0] := by kernel_rfl
theorem tsz204 : tsz Try.prog 204 = some 1 := by kernel_rfl
theorem tagg204 : tagg Try.prog 204 = some false := by kernel_rfl
theorem tarr204 : tarr Try.prog 204 = none := by kernel_rfl
theorem tkind204 : tkind Try.prog 204 = some .oth := by kernel_rfl
theorem tpl204 : tplaces Try.prog 204 = none := by kernel_rfl
theorem tz204 : tzero Try.prog 204 = some [.nilIface] := by kernel_rfl
theorem tsz205 : tsz Try.prog 205 = some 1 := by kernel_rfl
theorem tagg205 : tagg Try.prog 205 = some false := by kernel_rfl
theorem tarr205 : tarr Try.prog 205 = none := by kernel_rfl
theorem tkind205 : tkind Try.prog 205 = some .oth := by kernel_rfl
theorem tpl205 : tplaces Try.prog 205 = none := by kernel_rfl
theorem tz205 : tzero Try.prog 205 = some [.nilIface] := by kernel_rfl
theorem tsz216 : tsz Try.prog 216 = some 1 := by kernel_rfl
theorem tagg216 : tagg Try.prog 216 = some false := by kernel_rfl
theorem tarr216 : tarr Try.prog 216 = none := by kernel_rfl
theorem tkind216 : tkind Try.prog 216 = some .oth := by kernel_rfl
theorem tpl216 : tplaces Try.prog 216 = none := by kernel_rfl
theorem tz216 : tzero Try.prog 216 = some [.pointer none] := by kernel_rfl
theorem tptr216 : tptr Try.prog 216 = some true := by kernel_rfl
theorem tsz221 : tsz Try.prog 221 = some 6 := by kernel_rfl
theorem tagg221 : tagg Try.prog 221 = some true := by kernel_rfl
theorem tarr221 : tarr Try.prog 221 = none := by kernel_rfl
theorem tkind221 : tkind Try.prog 221 = some (.arr 6 30) := by kernel_rfl
theorem tpl221 : tplaces Try.prog 221 = none := by kernel_rfl
theorem tz221 : tzero Try.prog 221 = some [.int .u64 0, .int .u64 0, .int .u64 0, .int .u64 0, .int .u64 0, .int .u64 0] := by kernel_rfl
theorem tsz222 : tsz Try.prog 222 = some 4 := by kernel_rfl
theorem tagg222 : tagg Try.prog 222 = some true := by kernel_rfl
theorem tarr222 : tarr Try.prog 222 = none := by kernel_rfl
theorem tkind222 : tkind Try.prog 222 = some .oth := by kernel_rfl
theorem tfld222x0 : tfld Try.prog 222 0 = some (0, 17) := by kernel_rfl
theorem tfld222x1 : tfld Try.prog 222 1 = some (1, 17) := by kernel_rfl
theorem tfld222x2 : tfld Try.prog 222 2 = some (2, 17) := by kernel_rfl
theorem tfld222x3 : tfld Try.prog 222 3 = some (3, 9) := by kernel_rfl
theorem tpl222 : tplaces Try.prog 222 = some [(0, 1), (1, 1), (2, 1), (3, 1)] := by kernel_rfl
theorem tz222 : tzero Try.prog 222 = some [.pointer none, .pointer none, .pointer none, .string ByteArray.empty] := by kernel_rfl
theorem tsz223 : tsz Try.prog 223 = some 4 := by kernel_rfl
theorem tagg223 : tagg Try.prog 223 = some true := by kernel_rfl
theorem tarr223 : tarr Try.prog 223 = none := by kernel_rfl
theorem tkind223 : tkind Try.prog 223 = some .oth := by kernel_rfl
theorem tfld223x0 : tfld Try.prog 223 0 = some (0, 17) := by kernel_rfl
theorem tfld223x1 : tfld Try.prog 223 1 = some (1, 17) := by kernel_rfl
theorem tfld223x2 : tfld Try.prog 223 2 = some (2, 17) := by kernel_rfl
theorem tfld223x3 : tfld Try.prog 223 3 = some (3, 9) := by kernel_rfl
theorem tpl223 : tplaces Try.prog 223 = some [(0, 1), (1, 1), (2, 1), (3, 1)] := by kernel_rfl
theorem tz223 : tzero Try.prog 223 = some [.pointer none, .pointer none, .pointer none, .string ByteArray.empty] := by kernel_rfl
theorem tsz224 : tsz Try.prog 224 = some 0 := by kernel_rfl
theorem tagg224 : tagg Try.prog 224 = some true := by kernel_rfl
theorem tarr224 : tarr Try.prog 224 = none := by kernel_rfl
theorem tkind224 : tkind Try.prog 224 = some (.arr 0 16) := by kernel_rfl
theorem tpl224 : tplaces Try.prog 224 = none := by kernel_rfl
theorem tz224 : tzero Try.prog 224 = some [] := by kernel_rfl
theorem tsz225 : tsz Try.prog 225 = some 0 := by kernel_rfl
theorem tagg225 : tagg Try.prog 225 = some true := by kernel_rfl
theorem tarr225 : tarr Try.prog 225 = none := by kernel_rfl
theorem tkind225 : tkind Try.prog 225 = some .oth := by kernel_rfl
theorem tfld225x0 : tfld Try.prog 225 0 = some (0, 224) := by kernel_rfl
theorem tpl225 : tplaces Try.prog 225 = some [(0, 0)] := by kernel_rfl
theorem tz225 : tzero Try.prog 225 = some [] := by kernel_rfl
theorem tsz226 : tsz Try.prog 226 = some 0 := by kernel_rfl
theorem tagg226 : tagg Try.prog 226 = some true := by kernel_rfl
theorem tarr226 : tarr Try.prog 226 = none := by kernel_rfl
theorem tkind226 : tkind Try.prog 226 = some .oth := by kernel_rfl
theorem tfld226x0 : tfld Try.prog 226 0 = some (0, 224) := by kernel_rfl
theorem tpl226 : tplaces Try.prog 226 = some [(0, 0)] := by kernel_rfl
theorem tz226 : tzero Try.prog 226 = some [] := by kernel_rfl
theorem tsz227 : tsz Try.prog 227 = some 1 := by kernel_rfl
theorem tagg227 : tagg Try.prog 227 = some false := by kernel_rfl
theorem tarr227 : tarr Try.prog 227 = none := by kernel_rfl
theorem tkind227 : tkind Try.prog 227 = some .oth := by kernel_rfl
theorem tpl227 : tplaces Try.prog 227 = none := by kernel_rfl
theorem tz227 : tzero Try.prog 227 = some [.int .u8 0] := by kernel_rfl
theorem tint227 : tint Try.prog 227 = some (some .u8) := by kernel_rfl
theorem tsz228 : tsz Try.prog 228 = some 1 := by kernel_rfl
theorem tagg228 : tagg Try.prog 228 = some false := by kernel_rfl
theorem tarr228 : tarr Try.prog 228 = none := by kernel_rfl
theorem tkind228 : tkind Try.prog 228 = some .oth := by kernel_rfl
theorem tpl228 : tplaces Try.prog 228 = none := by kernel_rfl
theorem tz228 : tzero Try.prog 228 = some [.int .u8 0] := by kernel_rfl
theorem tint228 : tint Try.prog 228 = some (some .u8) := by kernel_rfl
theorem tsz230 : tsz Try.prog 230 = some 1 := by kernel_rfl
theorem tagg230 : tagg Try.prog 230 = some false := by kernel_rfl
theorem tarr230 : tarr Try.prog 230 = none := by kernel_rfl
theorem tkind230 : tkind Try.prog 230 = some .oth := by kernel_rfl
theorem tpl230 : tplaces Try.prog 230 = none := by kernel_rfl
theorem tz230 : tzero Try.prog 230 = some [.int .i32 0] := by kernel_rfl
theorem tint230 : tint Try.prog 230 = some (some .i32) := by kernel_rfl
theorem tsz231 : tsz Try.prog 231 = some 1 := by kernel_rfl
theorem tagg231 : tagg Try.prog 231 = some false := by kernel_rfl
theorem tarr231 : tarr Try.prog 231 = none := by kernel_rfl
theorem tkind231 : tkind Try.prog 231 = some .oth := by kernel_rfl
theorem tpl231 : tplaces Try.prog 231 = none := by kernel_rfl
theorem tz231 : tzero Try.prog 231 = some [.int .i32 0] := by kernel_rfl
theorem tint231 : tint Try.prog 231 = some (some .i32) := by kernel_rfl
theorem tsz232 : tsz Try.prog 232 = some 11 := by kernel_rfl
theorem tagg232 : tagg Try.prog 232 = some true := by kernel_rfl
theorem tarr232 : tarr Try.prog 232 = none := by kernel_rfl
theorem tkind232 : tkind Try.prog 232 = some .oth := by kernel_rfl
theorem tfld232x0 : tfld Try.prog 232 0 = some (0, 12) := by kernel_rfl
theorem tfld232x1 : tfld Try.prog 232 1 = some (1, 12) := by kernel_rfl
theorem tfld232x2 : tfld Try.prog 232 2 = some (2, 180) := by kernel_rfl
theorem tfld232x3 : tfld Try.prog 232 3 = some (3, 227) := by kernel_rfl
theorem tfld232x4 : tfld Try.prog 232 4 = some (4, 5) := by kernel_rfl
theorem tfld232x5 : tfld Try.prog 232 5 = some (5, 5) := by kernel_rfl
theorem tfld232x6 : tfld Try.prog 232 6 = some (6, 228) := by kernel_rfl
theorem tfld232x7 : tfld Try.prog 232 7 = some (7, 229) := by kernel_rfl
theorem tfld232x8 : tfld Try.prog 232 8 = some (8, 216) := by kernel_rfl
theorem tfld232x9 : tfld Try.prog 232 9 = some (9, 230) := by kernel_rfl
theorem tfld232x10 : tfld Try.prog 232 10 = some (10, 231) := by kernel_rfl
theorem tpl232 : tplaces Try.prog 232 = some [(0, 1), (1, 1), (2, 1), (3, 1), (4, 1), (5, 1), (6, 1), (7, 1), (8, 1), (9, 1), (10, 1)] := by kernel_rfl
theorem tz232 : tzero Try.prog 232 = some [.int .u64 0, .int .u64 0, .int .u32 0, .int .u8 0, .int .u8 0, .int .u8 0, .int .u8 0, .nilFunc, .pointer none, .int .i32 0, .int .i32 0] := by kernel_rfl
theorem tsz233 : tsz Try.prog 233 = some 11 := by kernel_rfl
theorem tagg233 : tagg Try.prog 233 = some true := by kernel_rfl
theorem tarr233 : tarr Try.prog 233 = none := by kernel_rfl
theorem tkind233 : tkind Try.prog 233 = some .oth := by kernel_rfl
theorem tfld233x0 : tfld Try.prog 233 0 = some (0, 12) := by kernel_rfl
theorem tfld233x1 : tfld Try.prog 233 1 = some (1, 12) := by kernel_rfl
theorem tfld233x2 : tfld Try.prog 233 2 = some (2, 180) := by kernel_rfl
theorem tfld233x3 : tfld Try.prog 233 3 = some (3, 227) := by kernel_rfl
theorem tfld233x4 : tfld Try.prog 233 4 = some (4, 5) := by kernel_rfl
theorem tfld233x5 : tfld Try.prog 233 5 = some (5, 5) := by kernel_rfl
theorem tfld233x6 : tfld Try.prog 233 6 = some (6, 228) := by kernel_rfl
theorem tfld233x7 : tfld Try.prog 233 7 = some (7, 229) := by kernel_rfl
theorem tfld233x8 : tfld Try.prog 233 8 = some (8, 216) := by kernel_rfl
theorem tfld233x9 : tfld Try.prog 233 9 = some (9, 230) := by kernel_rfl
theorem tfld233x10 : tfld Try.prog 233 10 = some (10, 231) := by kernel_rfl
theorem tpl233 : tplaces Try.prog 233 = some [(0, 1), (1, 1), (2, 1), (3, 1), (4, 1), (5, 1), (6, 1), (7, 1), (8, 1), (9, 1), (10, 1)] := by kernel_rfl
theorem tz233 : tzero Try.prog 233 = some [.int .u64 0, .int .u64 0, .int .u32 0, .int .u8 0, .int .u8 0, .int .u8 0, .int .u8 0, .nilFunc, .pointer none, .int .i32 0, .int .i32 0] := by kernel_rfl
attribute [go_sem] tsz2 tagg2 tarr2 tkind2 tpl2 tz2 tint2 tsz3 tagg3 tarr3 tkind3 tpl3 tz3 tby3 tint3 tsz4 tagg4 tarr4 tkind4 tpl4 tz4 tbool4 tsz5 tagg5 tarr5 tkind5 tpl5 tz5 tby5 tint5 tsz6 tagg6 tarr6 tkind6 tpl6 tz6 tint6 tsz7 tagg7 tarr7 tkind7 tfld7x0 tfld7x1 tfld7x2 tfld7x3 tpl7 tz7 tsz8 tagg8 tarr8 tkind8 tfld8x0 tfld8x1 tfld8x2 tfld8x3 tpl8 tz8 tsz9 tagg9 tarr9 tkind9 tpl9 tz9 tsz10 tagg10 tarr10 tkind10 tpl10 tz10 tsz11 tagg11 tarr11 tkind11 tpl11 tz11 tsz12 tagg12 tarr12 tkind12 tpl12 tz12 tint12 tsz13 tagg13 tarr13 tkind13 tfld13x0 tfld13x1 tpl13 tz13 tsz14 tagg14 tarr14 tkind14 tfld14x0 tfld14x1 tpl14 tz14 tsz15 tagg15 tarr15 tkind15 tpl15 tz15 tptr15 tsz16 tagg16 tarr16 tkind16 tpl16 tz16 tptr16 tsz17 tagg17 tarr17 tkind17 tpl17 tz17 tptr17 tsz18 tagg18 tarr18 tkind18 tfld18x0 tpl18 tz18 tsz19 tagg19 tarr19 tkind19 tfld19x0 tpl19 tz19 tsz20 tagg20 tarr20 tkind20 tpl20 tz20 tsz21 tagg21 tarr21 tkind21 tpl21 tz21 tint21 tsz22 tagg22 tarr22 tkind22 tpl22 tz22 tslc22 tsz24 tagg24 tarr24 tkind24 tpl24 tz24 tptr24 tsz26 tagg26 tarr26 tkind26 tpl26 tz26 tptr26 tsz27 tagg27 tarr27 tkind27 tpl27 tz27 tslc27 tsz28 tagg28 tarr28 tkind28 tfld28x0 tpl28 tz28 tsz29 tagg29 tarr29 tkind29 tfld29x0 tpl29 tz29 tsz30 tagg30 tarr30 tkind30 tpl30 tz30 tby30 tint30 tsz31 tagg31 tarr31 tkind31 tpl31 tz31 tsz32 tagg32 tarr32 tkind32 tpl32 tz32 tleaf32 tsz33 tagg33 tarr33 tkind33 tfld33x0 tfld33x1 tpl33 tz33 tsz34 tagg34 tarr34 tkind34 tfld34x0 tfld34x1 tpl34 tz34 tleaf34 tby34 tsz35 tagg35 tarr35 tkind35 tfld35x0 tfld35x1 tpl35 tz35 tsz36 tagg36 tarr36 tkind36 tfld36x0 tfld36x1 tpl36 tz36 tby36 tsz37 tagg37 tarr37 tkind37 tfld37x0 tfld37x1 tpl37 tz37 tsz38 tagg38 tarr38 tkind38 tfld38x0 tfld38x1 tpl38 tz38 tsz39 tagg39 tarr39 tkind39 tfld39x0 tfld39x1 tfld39x2 tfld39x3 tpl39 tz39 tsz40 tagg40 tarr40 tkind40 tfld40x0 tfld40x1 tfld40x2 tfld40x3 tpl40 tz40 tby40 tsz45 tagg45 tarr45 tkind45 tpl45 tz45 tsz48 tagg48 tarr48 tkind48 tfld48x0 tfld48x1 tpl48 tz48 tsz49 tagg49 tarr49 tkind49 tfld49x0 tfld49x1 tpl49 tz49 tleaf49 tsz51 tagg51 tarr51 tkind51 tfld51x0 tfld51x1 tpl51 tz51 tsz52 tagg52 tarr52 tkind52 tfld52x0 tfld52x1 tpl52 tz52 tby52 tsz55 tagg55 tarr55 tkind55 tfld55x0 tfld55x1 tpl55 tz55 tsz56 tagg56 tarr56 tkind56 tfld56x0 tfld56x1 tpl56 tz56 tby56 tsz61 tagg61 tarr61 tkind61 tpl61 tz61 tslc61 tsz65 tagg65 tarr65 tkind65 tpl65 tz65 tslc65 tsz66 tagg66 tarr66 tkind66 tpl66 tz66 tptr66 tsz68 tagg68 tarr68 tkind68 tpl68 tz68 tslc68 tsz71 tagg71 tarr71 tkind71 tfld71x0 tfld71x1 tpl71 tz71 tsz72 tagg72 tarr72 tkind72 tfld72x0 tfld72x1 tpl72 tz72 tleaf72 tby72 tsz80 tagg80 tarr80 tkind80 tpl80 tz80 tslc80 tsz88 tagg88 tarr88 tkind88 tfld88x0 tfld88x1 tfld88x2 tfld88x3 tpl88 tz88 tsz89 tagg89 tarr89 tkind89 tfld89x0 tfld89x1 tfld89x2 tfld89x3 tpl89 tz89 tleaf89 tsz90 tagg90 tarr90 tkind90 tfld90x0 tfld90x1 tpl90 tz90 tsz91 tagg91 tarr91 tkind91 tfld91x0 tfld91x1 tpl91 tz91 tsz96 tagg96 tarr96 tkind96 tfld96x0 tfld96x1 tfld96x2 tfld96x3 tpl96 tz96 tleaf96 tsz101 tagg101 tarr101 tkind101 tpl101 tz101 tint101 tsz109 tagg109 tarr109 tkind109 tpl109 tz109 tint109 tsz110 tagg110 tarr110 tkind110 tpl110 tz110 tslc110 tsz112 tagg112 tarr112 tkind112 tfld112x0 tpl112 tz112 tsz113 tagg113 tarr113 tkind113 tfld113x0 tpl113 tz113 tsz114 tagg114 tarr114 tkind114 tpl114 tz114 tint114 tsz126 tagg126 tarr126 tkind126 tfld126x0 tpl126 tz126 tsz127 tagg127 tarr127 tkind127 tfld127x0 tpl127 tz127 tsz139 tagg139 tarr139 tkind139 tpl139 tz139 tslc139 tsz148 tagg148 tarr148 tkind148 tpl148 tz148 tleaf148 tsz151 tagg151 tarr151 tkind151 tfld151x0 tfld151x1 tpl151 tz151 tsz152 tagg152 tarr152 tkind152 tfld152x0 tfld152x1 tpl152 tz152 tsz157 tagg157 tarr157 tkind157 tfld157x0 tfld157x1 tpl157 tz157 tsz177 tagg177 tarr177 tkind177 tpl177 tz177 tslc177 tsz180 tagg180 tarr180 tkind180 tpl180 tz180 tint180 tsz181 tagg181 tarr181 tkind181 tpl181 tz181 tsz187 tagg187 tarr187 tkind187 tpl187 tz187 tsz190 tagg190 tarr190 tkind190 tpl190 tz190 tsz200 tagg200 tarr200 tkind200 tpl200 tz200 tptr200 tsz201 tagg201 tarr201 tkind201 tfld201x0 tfld201x1 tpl201 tz201 tsz202 tagg202 tarr202 tkind202 tfld202x0 tfld202x1 tpl202 tz202 tsz204 tagg204 tarr204 tkind204 tpl204 tz204 tsz205 tagg205 tarr205 tkind205 tpl205 tz205 tsz216 tagg216 tarr216 tkind216 tpl216 tz216 tptr216 tsz221 tagg221 tarr221 tkind221 tpl221 tz221 tsz222 tagg222 tarr222 tkind222 tfld222x0 tfld222x1 tfld222x2 tfld222x3 tpl222 tz222 tsz223 tagg223 tarr223 tkind223 tfld223x0 tfld223x1 tfld223x2 tfld223x3 tpl223 tz223 tsz224 tagg224 tarr224 tkind224 tpl224 tz224 tsz225 tagg225 tarr225 tkind225 tfld225x0 tpl225 tz225 tsz226 tagg226 tarr226 tkind226 tfld226x0 tpl226 tz226 tsz227 tagg227 tarr227 tkind227 tpl227 tz227 tint227 tsz228 tagg228 tarr228 tkind228 tpl228 tz228 tint228 tsz230 tagg230 tarr230 tkind230 tpl230 tz230 tint230 tsz231 tagg231 tarr231 tkind231 tpl231 tz231 tint231 tsz232 tagg232 tarr232 tkind232 tfld232x0 tfld232x1 tfld232x2 tfld232x3 tfld232x4 tfld232x5 tfld232x6 tfld232x7 tfld232x8 tfld232x9 tfld232x10 tpl232 tz232 tsz233 tagg233 tarr233 tkind233 tfld233x0 tfld233x1 tfld233x2 tfld233x3 tfld233x4 tfld233x5 tfld233x6 tfld233x7 tfld233x8 tfld233x9 tfld233x10 tpl233 tz233
end Go.Proofs.Ytbdffcgbleiiaaa
