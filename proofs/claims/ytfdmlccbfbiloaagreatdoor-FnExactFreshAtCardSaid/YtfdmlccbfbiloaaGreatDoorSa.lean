import Derived.Test.YtfdmlccbfbiloaaGreatDoorVe
import Derived.Test.YtfdmlccbfbiloaaGreatDoorProg
import Derived.Lib.Join
import Derived.Test.YtfdmlccbfbiloaaGreatDoorSh
import Derived.Lib.IndexLaws
import Derived.Shelf.Strings.SlTrimAscii
namespace Go.Proofs.YtfdmlccbfbiloaaGreatDoor
open Go Go.Proofs.YtfdmlccbfbiloaaGreatDoor.Vs
variable [Gl]
set_option linter.unusedSectionVars false
def ti1 : TI := ⟨1, 8, .other, [.nilFunc]⟩
set_option maxRecDepth 100000 in
theorem tiok1 : TIok Tryz.prog 1 ti1 := TIok.of Tryz.type1 Tryz.underlying1 rfl rfl rfl rfl rfl rfl trivial
def ti2 : TI := ⟨1, 8, .int .i64, [(.int .i64 0)]⟩
set_option maxRecDepth 100000 in
theorem tiok2 : TIok Tryz.prog 2 ti2 := TIok.of Tryz.type2 Tryz.underlying2 rfl rfl rfl rfl rfl rfl rfl
def ti3 : TI := ⟨1, 8, .int .i64, [(.int .i64 0)]⟩
set_option maxRecDepth 100000 in
theorem tiok3 : TIok Tryz.prog 3 ti3 := TIok.of Tryz.type3 Tryz.underlying3 rfl rfl rfl rfl rfl rfl rfl
def ti4 : TI := ⟨1, 1, .bool, [(.bool false)]⟩
set_option maxRecDepth 100000 in
theorem tiok4 : TIok Tryz.prog 4 ti4 := TIok.of Tryz.type4 Tryz.underlying4 rfl rfl rfl rfl rfl rfl rfl
def ti5 : TI := ⟨1, 1, .int .u8, [(.int .u8 0)]⟩
set_option maxRecDepth 100000 in
theorem tiok5 : TIok Tryz.prog 5 ti5 := TIok.of Tryz.type5 Tryz.underlying5 rfl rfl rfl rfl rfl rfl rfl
def ti6 : TI := ⟨1, 1, .int .u8, [(.int .u8 0)]⟩
set_option maxRecDepth 100000 in
theorem tiok6 : TIok Tryz.prog 6 ti6 := TIok.of Tryz.type6 Tryz.underlying6 rfl rfl rfl rfl rfl rfl rfl
def ti7 : TI := ⟨4, 24, .struct [(0, 2), (1, 3), (2, 4), (3, 6)], [(.int .i64 0), (.int .i64 0), (.bool false), (.int .u8 0)]⟩
set_option maxRecDepth 100000 in
theorem tiok7 : TIok Tryz.prog 7 ti7 := TIok.of Tryz.type7 Tryz.underlying7 rfl rfl rfl rfl rfl rfl ⟨_, rfl, rfl⟩
def ti8 : TI := ⟨4, 24, .struct [(0, 2), (1, 3), (2, 4), (3, 6)], [(.int .i64 0), (.int .i64 0), (.bool false), (.int .u8 0)]⟩
set_option maxRecDepth 100000 in
theorem tiok8 : TIok Tryz.prog 8 ti8 := TIok.of Tryz.type8 Tryz.underlying8 rfl rfl rfl rfl rfl rfl ⟨_, rfl, rfl⟩
def ti9 : TI := ⟨1, 16, .string, [(.string ⟨⟨[]⟩⟩)]⟩
set_option maxRecDepth 100000 in
theorem tiok9 : TIok Tryz.prog 9 ti9 := TIok.of Tryz.type9 Tryz.underlying9 rfl rfl rfl rfl rfl rfl rfl
def ti11 : TI := ⟨1, 16, .string, [(.string ⟨⟨[]⟩⟩)]⟩
set_option maxRecDepth 100000 in
theorem tiok11 : TIok Tryz.prog 11 ti11 := TIok.of Tryz.type11 Tryz.underlying11 rfl rfl rfl rfl rfl rfl rfl
def ti12 : TI := ⟨1, 8, .int .u64, [(.int .u64 0)]⟩
set_option maxRecDepth 100000 in
theorem tiok12 : TIok Tryz.prog 12 ti12 := TIok.of Tryz.type12 Tryz.underlying12 rfl rfl rfl rfl rfl rfl rfl
def ti13 : TI := ⟨2, 24, .struct [(0, 9), (1, 12)], [(.string ⟨⟨[]⟩⟩), (.int .u64 0)]⟩
set_option maxRecDepth 100000 in
theorem tiok13 : TIok Tryz.prog 13 ti13 := TIok.of Tryz.type13 Tryz.underlying13 rfl rfl rfl rfl rfl rfl ⟨_, rfl, rfl⟩
def ti15 : TI := ⟨1, 8, .ptr 226, [(.pointer none)]⟩
set_option maxRecDepth 100000 in
theorem tiok15 : TIok Tryz.prog 15 ti15 := TIok.of Tryz.type15 Tryz.underlying15 rfl rfl rfl rfl rfl rfl rfl
def ti16 : TI := ⟨1, 8, .ptr 229, [(.pointer none)]⟩
set_option maxRecDepth 100000 in
theorem tiok16 : TIok Tryz.prog 16 ti16 := TIok.of Tryz.type16 Tryz.underlying16 rfl rfl rfl rfl rfl rfl rfl
def ti17 : TI := ⟨1, 8, .ptr 236, [(.pointer none)]⟩
set_option maxRecDepth 100000 in
theorem tiok17 : TIok Tryz.prog 17 ti17 := TIok.of Tryz.type17 Tryz.underlying17 rfl rfl rfl rfl rfl rfl rfl
def ti18 : TI := ⟨1, 8, .struct [(0, 17)], [(.pointer none)]⟩
set_option maxRecDepth 100000 in
theorem tiok18 : TIok Tryz.prog 18 ti18 := TIok.of Tryz.type18 Tryz.underlying18 rfl rfl rfl rfl rfl rfl ⟨_, rfl, rfl⟩
def ti19 : TI := ⟨1, 8, .struct [(0, 17)], [(.pointer none)]⟩
set_option maxRecDepth 100000 in
theorem tiok19 : TIok Tryz.prog 19 ti19 := TIok.of Tryz.type19 Tryz.underlying19 rfl rfl rfl rfl rfl rfl ⟨_, rfl, rfl⟩
def ti20 : TI := ⟨1, 16, .other, [.nilIface]⟩
set_option maxRecDepth 100000 in
theorem tiok20 : TIok Tryz.prog 20 ti20 := TIok.of Tryz.type20 Tryz.underlying20 rfl rfl rfl rfl rfl rfl trivial
def ti21 : TI := ⟨1, 4, .int .i32, [(.int .i32 0)]⟩
set_option maxRecDepth 100000 in
theorem tiok21 : TIok Tryz.prog 21 ti21 := TIok.of Tryz.type21 Tryz.underlying21 rfl rfl rfl rfl rfl rfl rfl
def ti22 : TI := ⟨2, 24, .struct [(0, 2), (1, 9)], [(.int .i64 0), (.string ⟨⟨[]⟩⟩)]⟩
set_option maxRecDepth 100000 in
theorem tiok22 : TIok Tryz.prog 22 ti22 := TIok.of Tryz.type22 Tryz.underlying22 rfl rfl rfl rfl rfl rfl ⟨_, rfl, rfl⟩
def ti23 : TI := ⟨2, 24, .struct [(0, 2), (1, 9)], [(.int .i64 0), (.string ⟨⟨[]⟩⟩)]⟩
set_option maxRecDepth 100000 in
theorem tiok23 : TIok Tryz.prog 23 ti23 := TIok.of Tryz.type23 Tryz.underlying23 rfl rfl rfl rfl rfl rfl ⟨_, rfl, rfl⟩
def ti24 : TI := ⟨1, 24, .slice 82, [(.slice none 0 0)]⟩
set_option maxRecDepth 100000 in
theorem tiok24 : TIok Tryz.prog 24 ti24 := TIok.of Tryz.type24 Tryz.underlying24 rfl rfl rfl rfl rfl rfl rfl
def ti25 : TI := ⟨3, 48, .struct [(0, 2), (1, 24), (2, 9)], [(.int .i64 0), (.slice none 0 0), (.string ⟨⟨[]⟩⟩)]⟩
set_option maxRecDepth 100000 in
theorem tiok25 : TIok Tryz.prog 25 ti25 := TIok.of Tryz.type25 Tryz.underlying25 rfl rfl rfl rfl rfl rfl ⟨_, rfl, rfl⟩
def ti26 : TI := ⟨3, 48, .struct [(0, 2), (1, 24), (2, 9)], [(.int .i64 0), (.slice none 0 0), (.string ⟨⟨[]⟩⟩)]⟩
set_option maxRecDepth 100000 in
theorem tiok26 : TIok Tryz.prog 26 ti26 := TIok.of Tryz.type26 Tryz.underlying26 rfl rfl rfl rfl rfl rfl ⟨_, rfl, rfl⟩
def ti27 : TI := ⟨8, 112, .struct [(0, 9), (1, 24), (2, 26), (5, 2), (6, 2), (7, 2)], [(.string ⟨⟨[]⟩⟩), (.slice none 0 0), (.int .i64 0), (.slice none 0 0), (.string ⟨⟨[]⟩⟩), (.int .i64 0), (.int .i64 0), (.int .i64 0)]⟩
set_option maxRecDepth 100000 in
theorem tiok27 : TIok Tryz.prog 27 ti27 := TIok.of Tryz.type27 Tryz.underlying27 rfl rfl rfl rfl rfl rfl ⟨_, rfl, rfl⟩
def ti28 : TI := ⟨8, 112, .struct [(0, 9), (1, 24), (2, 26), (5, 2), (6, 2), (7, 2)], [(.string ⟨⟨[]⟩⟩), (.slice none 0 0), (.int .i64 0), (.slice none 0 0), (.string ⟨⟨[]⟩⟩), (.int .i64 0), (.int .i64 0), (.int .i64 0)]⟩
set_option maxRecDepth 100000 in
theorem tiok28 : TIok Tryz.prog 28 ti28 := TIok.of Tryz.type28 Tryz.underlying28 rfl rfl rfl rfl rfl rfl ⟨_, rfl, rfl⟩
def ti29 : TI := ⟨1, 8, .other, [.nilFunc]⟩
set_option maxRecDepth 100000 in
theorem tiok29 : TIok Tryz.prog 29 ti29 := TIok.of Tryz.type29 Tryz.underlying29 rfl rfl rfl rfl rfl rfl trivial
def ti30 : TI := ⟨1, 8, .other, [.nilFunc]⟩
set_option maxRecDepth 100000 in
theorem tiok30 : TIok Tryz.prog 30 ti30 := TIok.of Tryz.type30 Tryz.underlying30 rfl rfl rfl rfl rfl rfl trivial
def ti31 : TI := ⟨1, 8, .other, [.nilFunc]⟩
set_option maxRecDepth 100000 in
theorem tiok31 : TIok Tryz.prog 31 ti31 := TIok.of Tryz.type31 Tryz.underlying31 rfl rfl rfl rfl rfl rfl trivial
def ti32 : TI := ⟨2, 24, .struct [(0, 2), (1, 9)], [(.int .i64 0), (.string ⟨⟨[]⟩⟩)]⟩
set_option maxRecDepth 100000 in
theorem tiok32 : TIok Tryz.prog 32 ti32 := TIok.of Tryz.type32 Tryz.underlying32 rfl rfl rfl rfl rfl rfl ⟨_, rfl, rfl⟩
def ti33 : TI := ⟨1, 8, .other, [.nilFunc]⟩
set_option maxRecDepth 100000 in
theorem tiok33 : TIok Tryz.prog 33 ti33 := TIok.of Tryz.type33 Tryz.underlying33 rfl rfl rfl rfl rfl rfl trivial
def ti34 : TI := ⟨1, 24, .slice 91, [(.slice none 0 0)]⟩
set_option maxRecDepth 100000 in
theorem tiok34 : TIok Tryz.prog 34 ti34 := TIok.of Tryz.type34 Tryz.underlying34 rfl rfl rfl rfl rfl rfl rfl
def ti35 : TI := ⟨3, 48, .struct [(0, 2), (1, 34), (2, 9)], [(.int .i64 0), (.slice none 0 0), (.string ⟨⟨[]⟩⟩)]⟩
set_option maxRecDepth 100000 in
theorem tiok35 : TIok Tryz.prog 35 ti35 := TIok.of Tryz.type35 Tryz.underlying35 rfl rfl rfl rfl rfl rfl ⟨_, rfl, rfl⟩
def ti36 : TI := ⟨3, 48, .struct [(0, 2), (1, 34), (2, 9)], [(.int .i64 0), (.slice none 0 0), (.string ⟨⟨[]⟩⟩)]⟩
set_option maxRecDepth 100000 in
theorem tiok36 : TIok Tryz.prog 36 ti36 := TIok.of Tryz.type36 Tryz.underlying36 rfl rfl rfl rfl rfl rfl ⟨_, rfl, rfl⟩
def ti37 : TI := ⟨8, 112, .struct [(0, 9), (1, 34), (2, 36), (5, 2), (6, 2), (7, 2)], [(.string ⟨⟨[]⟩⟩), (.slice none 0 0), (.int .i64 0), (.slice none 0 0), (.string ⟨⟨[]⟩⟩), (.int .i64 0), (.int .i64 0), (.int .i64 0)]⟩
set_option maxRecDepth 100000 in
theorem tiok37 : TIok Tryz.prog 37 ti37 := TIok.of Tryz.type37 Tryz.underlying37 rfl rfl rfl rfl rfl rfl ⟨_, rfl, rfl⟩
def ti38 : TI := ⟨8, 112, .struct [(0, 9), (1, 34), (2, 36), (5, 2), (6, 2), (7, 2)], [(.string ⟨⟨[]⟩⟩), (.slice none 0 0), (.int .i64 0), (.slice none 0 0), (.string ⟨⟨[]⟩⟩), (.int .i64 0), (.int .i64 0), (.int .i64 0)]⟩
set_option maxRecDepth 100000 in
theorem tiok38 : TIok Tryz.prog 38 ti38 := TIok.of Tryz.type38 Tryz.underlying38 rfl rfl rfl rfl rfl rfl ⟨_, rfl, rfl⟩
def ti39 : TI := ⟨1, 8, .other, [.nilFunc]⟩
set_option maxRecDepth 100000 in
theorem tiok39 : TIok Tryz.prog 39 ti39 := TIok.of Tryz.type39 Tryz.underlying39 rfl rfl rfl rfl rfl rfl trivial
def ti40 : TI := ⟨1, 8, .other, [.nilFunc]⟩
set_option maxRecDepth 100000 in
theorem tiok40 : TIok Tryz.prog 40 ti40 := TIok.of Tryz.type40 Tryz.underlying40 rfl rfl rfl rfl rfl rfl trivial
def ti41 : TI := ⟨1, 8, .other, [.nilFunc]⟩
set_option maxRecDepth 100000 in
theorem tiok41 : TIok Tryz.prog 41 ti41 := TIok.of Tryz.type41 Tryz.underlying41 rfl rfl rfl rfl rfl rfl trivial
def ti42 : TI := ⟨1, 24, .slice 9, [(.slice none 0 0)]⟩
set_option maxRecDepth 100000 in
theorem tiok42 : TIok Tryz.prog 42 ti42 := TIok.of Tryz.type42 Tryz.underlying42 rfl rfl rfl rfl rfl rfl rfl
def ti43 : TI := ⟨1, 8, .other, [.nilFunc]⟩
set_option maxRecDepth 100000 in
theorem tiok43 : TIok Tryz.prog 43 ti43 := TIok.of Tryz.type43 Tryz.underlying43 rfl rfl rfl rfl rfl rfl trivial
def ti44 : TI := ⟨1, 8, .other, [.nilFunc]⟩
set_option maxRecDepth 100000 in
theorem tiok44 : TIok Tryz.prog 44 ti44 := TIok.of Tryz.type44 Tryz.underlying44 rfl rfl rfl rfl rfl rfl trivial
def ti45 : TI := ⟨1, 8, .other, [.nilFunc]⟩
set_option maxRecDepth 100000 in
theorem tiok45 : TIok Tryz.prog 45 ti45 := TIok.of Tryz.type45 Tryz.underlying45 rfl rfl rfl rfl rfl rfl trivial
def ti46 : TI := ⟨1, 8, .other, [.nilFunc]⟩
set_option maxRecDepth 100000 in
theorem tiok46 : TIok Tryz.prog 46 ti46 := TIok.of Tryz.type46 Tryz.underlying46 rfl rfl rfl rfl rfl rfl trivial
def ti47 : TI := ⟨1, 8, .other, [.nilFunc]⟩
set_option maxRecDepth 100000 in
theorem tiok47 : TIok Tryz.prog 47 ti47 := TIok.of Tryz.type47 Tryz.underlying47 rfl rfl rfl rfl rfl rfl trivial
def ti48 : TI := ⟨1, 24, .slice 28, [(.slice none 0 0)]⟩
set_option maxRecDepth 100000 in
theorem tiok48 : TIok Tryz.prog 48 ti48 := TIok.of Tryz.type48 Tryz.underlying48 rfl rfl rfl rfl rfl rfl rfl
def ti49 : TI := ⟨1, 8, .other, [.nilFunc]⟩
set_option maxRecDepth 100000 in
theorem tiok49 : TIok Tryz.prog 49 ti49 := TIok.of Tryz.type49 Tryz.underlying49 rfl rfl rfl rfl rfl rfl trivial
def ti50 : TI := ⟨1, 24, .slice 38, [(.slice none 0 0)]⟩
set_option maxRecDepth 100000 in
theorem tiok50 : TIok Tryz.prog 50 ti50 := TIok.of Tryz.type50 Tryz.underlying50 rfl rfl rfl rfl rfl rfl rfl
def ti51 : TI := ⟨1, 8, .other, [.nilFunc]⟩
set_option maxRecDepth 100000 in
theorem tiok51 : TIok Tryz.prog 51 ti51 := TIok.of Tryz.type51 Tryz.underlying51 rfl rfl rfl rfl rfl rfl trivial
def ti52 : TI := ⟨1, 8, .other, [.nilFunc]⟩
set_option maxRecDepth 100000 in
theorem tiok52 : TIok Tryz.prog 52 ti52 := TIok.of Tryz.type52 Tryz.underlying52 rfl rfl rfl rfl rfl rfl trivial
def ti53 : TI := ⟨1, 8, .other, [.nilFunc]⟩
set_option maxRecDepth 100000 in
theorem tiok53 : TIok Tryz.prog 53 ti53 := TIok.of Tryz.type53 Tryz.underlying53 rfl rfl rfl rfl rfl rfl trivial
def ti54 : TI := ⟨1, 8, .other, [.nilFunc]⟩
set_option maxRecDepth 100000 in
theorem tiok54 : TIok Tryz.prog 54 ti54 := TIok.of Tryz.type54 Tryz.underlying54 rfl rfl rfl rfl rfl rfl trivial
def ti55 : TI := ⟨1, 8, .other, [.nilFunc]⟩
set_option maxRecDepth 100000 in
theorem tiok55 : TIok Tryz.prog 55 ti55 := TIok.of Tryz.type55 Tryz.underlying55 rfl rfl rfl rfl rfl rfl trivial
def ti56 : TI := ⟨1, 8, .other, [.nilFunc]⟩
set_option maxRecDepth 100000 in
theorem tiok56 : TIok Tryz.prog 56 ti56 := TIok.of Tryz.type56 Tryz.underlying56 rfl rfl rfl rfl rfl rfl trivial
def ti57 : TI := ⟨1, 8, .other, [.nilFunc]⟩
set_option maxRecDepth 100000 in
theorem tiok57 : TIok Tryz.prog 57 ti57 := TIok.of Tryz.type57 Tryz.underlying57 rfl rfl rfl rfl rfl rfl trivial
def ti58 : TI := ⟨1, 8, .other, [.nilFunc]⟩
set_option maxRecDepth 100000 in
theorem tiok58 : TIok Tryz.prog 58 ti58 := TIok.of Tryz.type58 Tryz.underlying58 rfl rfl rfl rfl rfl rfl trivial
def ti59 : TI := ⟨1, 8, .other, [.nilFunc]⟩
set_option maxRecDepth 100000 in
theorem tiok59 : TIok Tryz.prog 59 ti59 := TIok.of Tryz.type59 Tryz.underlying59 rfl rfl rfl rfl rfl rfl trivial
def ti60 : TI := ⟨1, 8, .other, [.nilFunc]⟩
set_option maxRecDepth 100000 in
theorem tiok60 : TIok Tryz.prog 60 ti60 := TIok.of Tryz.type60 Tryz.underlying60 rfl rfl rfl rfl rfl rfl trivial
def ti61 : TI := ⟨1, 8, .other, [.nilFunc]⟩
set_option maxRecDepth 100000 in
theorem tiok61 : TIok Tryz.prog 61 ti61 := TIok.of Tryz.type61 Tryz.underlying61 rfl rfl rfl rfl rfl rfl trivial
def ti62 : TI := ⟨1, 8, .other, [.nilFunc]⟩
set_option maxRecDepth 100000 in
theorem tiok62 : TIok Tryz.prog 62 ti62 := TIok.of Tryz.type62 Tryz.underlying62 rfl rfl rfl rfl rfl rfl trivial
def ti63 : TI := ⟨1, 8, .other, [.nilFunc]⟩
set_option maxRecDepth 100000 in
theorem tiok63 : TIok Tryz.prog 63 ti63 := TIok.of Tryz.type63 Tryz.underlying63 rfl rfl rfl rfl rfl rfl trivial
def ti64 : TI := ⟨1, 8, .other, [.nilFunc]⟩
set_option maxRecDepth 100000 in
theorem tiok64 : TIok Tryz.prog 64 ti64 := TIok.of Tryz.type64 Tryz.underlying64 rfl rfl rfl rfl rfl rfl trivial
def ti65 : TI := ⟨1, 8, .other, [.nilFunc]⟩
set_option maxRecDepth 100000 in
theorem tiok65 : TIok Tryz.prog 65 ti65 := TIok.of Tryz.type65 Tryz.underlying65 rfl rfl rfl rfl rfl rfl trivial
def ti66 : TI := ⟨1, 8, .other, [.nilFunc]⟩
set_option maxRecDepth 100000 in
theorem tiok66 : TIok Tryz.prog 66 ti66 := TIok.of Tryz.type66 Tryz.underlying66 rfl rfl rfl rfl rfl rfl trivial
def ti67 : TI := ⟨1, 8, .other, [.nilFunc]⟩
set_option maxRecDepth 100000 in
theorem tiok67 : TIok Tryz.prog 67 ti67 := TIok.of Tryz.type67 Tryz.underlying67 rfl rfl rfl rfl rfl rfl trivial
def ti68 : TI := ⟨1, 8, .other, [.nilFunc]⟩
set_option maxRecDepth 100000 in
theorem tiok68 : TIok Tryz.prog 68 ti68 := TIok.of Tryz.type68 Tryz.underlying68 rfl rfl rfl rfl rfl rfl trivial
def ti69 : TI := ⟨1, 8, .other, [.nilFunc]⟩
set_option maxRecDepth 100000 in
theorem tiok69 : TIok Tryz.prog 69 ti69 := TIok.of Tryz.type69 Tryz.underlying69 rfl rfl rfl rfl rfl rfl trivial
def ti70 : TI := ⟨1, 8, .other, [.nilFunc]⟩
set_option maxRecDepth 100000 in
theorem tiok70 : TIok Tryz.prog 70 ti70 := TIok.of Tryz.type70 Tryz.underlying70 rfl rfl rfl rfl rfl rfl trivial
def ti71 : TI := ⟨1, 8, .other, [.nilFunc]⟩
set_option maxRecDepth 100000 in
theorem tiok71 : TIok Tryz.prog 71 ti71 := TIok.of Tryz.type71 Tryz.underlying71 rfl rfl rfl rfl rfl rfl trivial
def ti72 : TI := ⟨1, 8, .other, [.nilFunc]⟩
set_option maxRecDepth 100000 in
theorem tiok72 : TIok Tryz.prog 72 ti72 := TIok.of Tryz.type72 Tryz.underlying72 rfl rfl rfl rfl rfl rfl trivial
def ti73 : TI := ⟨1, 8, .other, [.nilFunc]⟩
set_option maxRecDepth 100000 in
theorem tiok73 : TIok Tryz.prog 73 ti73 := TIok.of Tryz.type73 Tryz.underlying73 rfl rfl rfl rfl rfl rfl trivial
def ti75 : TI := ⟨1, 8, .other, [.nilFunc]⟩
set_option maxRecDepth 100000 in
theorem tiok75 : TIok Tryz.prog 75 ti75 := TIok.of Tryz.type75 Tryz.underlying75 rfl rfl rfl rfl rfl rfl trivial
def ti76 : TI := ⟨1, 8, .other, [.nilFunc]⟩
set_option maxRecDepth 100000 in
theorem tiok76 : TIok Tryz.prog 76 ti76 := TIok.of Tryz.type76 Tryz.underlying76 rfl rfl rfl rfl rfl rfl trivial
def ti77 : TI := ⟨1, 8, .other, [.nilFunc]⟩
set_option maxRecDepth 100000 in
theorem tiok77 : TIok Tryz.prog 77 ti77 := TIok.of Tryz.type77 Tryz.underlying77 rfl rfl rfl rfl rfl rfl trivial
def ti78 : TI := ⟨1, 8, .other, [.nilFunc]⟩
set_option maxRecDepth 100000 in
theorem tiok78 : TIok Tryz.prog 78 ti78 := TIok.of Tryz.type78 Tryz.underlying78 rfl rfl rfl rfl rfl rfl trivial
def ti79 : TI := ⟨1, 8, .other, [.nilFunc]⟩
set_option maxRecDepth 100000 in
theorem tiok79 : TIok Tryz.prog 79 ti79 := TIok.of Tryz.type79 Tryz.underlying79 rfl rfl rfl rfl rfl rfl trivial
def ti80 : TI := ⟨1, 8, .other, [.nilFunc]⟩
set_option maxRecDepth 100000 in
theorem tiok80 : TIok Tryz.prog 80 ti80 := TIok.of Tryz.type80 Tryz.underlying80 rfl rfl rfl rfl rfl rfl trivial
def ti81 : TI := ⟨2, 32, .struct [(0, 9), (1, 9)], [(.string ⟨⟨[]⟩⟩), (.string ⟨⟨[]⟩⟩)]⟩
set_option maxRecDepth 100000 in
theorem tiok81 : TIok Tryz.prog 81 ti81 := TIok.of Tryz.type81 Tryz.underlying81 rfl rfl rfl rfl rfl rfl ⟨_, rfl, rfl⟩
def ti82 : TI := ⟨2, 32, .struct [(0, 9), (1, 9)], [(.string ⟨⟨[]⟩⟩), (.string ⟨⟨[]⟩⟩)]⟩
set_option maxRecDepth 100000 in
theorem tiok82 : TIok Tryz.prog 82 ti82 := TIok.of Tryz.type82 Tryz.underlying82 rfl rfl rfl rfl rfl rfl ⟨_, rfl, rfl⟩
def ti83 : TI := ⟨1, 8, .other, [.nilFunc]⟩
set_option maxRecDepth 100000 in
theorem tiok83 : TIok Tryz.prog 83 ti83 := TIok.of Tryz.type83 Tryz.underlying83 rfl rfl rfl rfl rfl rfl trivial
def ti84 : TI := ⟨1, 8, .other, [.nilFunc]⟩
set_option maxRecDepth 100000 in
theorem tiok84 : TIok Tryz.prog 84 ti84 := TIok.of Tryz.type84 Tryz.underlying84 rfl rfl rfl rfl rfl rfl trivial
def ti85 : TI := ⟨1, 24, .slice 2, [(.slice none 0 0)]⟩
set_option maxRecDepth 100000 in
theorem tiok85 : TIok Tryz.prog 85 ti85 := TIok.of Tryz.type85 Tryz.underlying85 rfl rfl rfl rfl rfl rfl rfl
def ti86 : TI := ⟨7, 32, .struct [(0, 2), (1, 2), (2, 2), (3, 4), (4, 4), (5, 4), (6, 4)], [(.int .i64 0), (.int .i64 0), (.int .i64 0), (.bool false), (.bool false), (.bool false), (.bool false)]⟩
set_option maxRecDepth 100000 in
theorem tiok86 : TIok Tryz.prog 86 ti86 := TIok.of Tryz.type86 Tryz.underlying86 rfl rfl rfl rfl rfl rfl ⟨_, rfl, rfl⟩
def ti87 : TI := ⟨7, 32, .struct [(0, 2), (1, 2), (2, 2), (3, 4), (4, 4), (5, 4), (6, 4)], [(.int .i64 0), (.int .i64 0), (.int .i64 0), (.bool false), (.bool false), (.bool false), (.bool false)]⟩
set_option maxRecDepth 100000 in
theorem tiok87 : TIok Tryz.prog 87 ti87 := TIok.of Tryz.type87 Tryz.underlying87 rfl rfl rfl rfl rfl rfl ⟨_, rfl, rfl⟩
def ti88 : TI := ⟨1, 8, .other, [.nilFunc]⟩
set_option maxRecDepth 100000 in
theorem tiok88 : TIok Tryz.prog 88 ti88 := TIok.of Tryz.type88 Tryz.underlying88 rfl rfl rfl rfl rfl rfl trivial
def ti90 : TI := ⟨1, 8, .other, [.nilFunc]⟩
set_option maxRecDepth 100000 in
theorem tiok90 : TIok Tryz.prog 90 ti90 := TIok.of Tryz.type90 Tryz.underlying90 rfl rfl rfl rfl rfl rfl trivial
def ti91 : TI := ⟨2, 32, .struct [(0, 9), (1, 9)], [(.string ⟨⟨[]⟩⟩), (.string ⟨⟨[]⟩⟩)]⟩
set_option maxRecDepth 100000 in
theorem tiok91 : TIok Tryz.prog 91 ti91 := TIok.of Tryz.type91 Tryz.underlying91 rfl rfl rfl rfl rfl rfl ⟨_, rfl, rfl⟩
def ti92 : TI := ⟨1, 8, .other, [.nilFunc]⟩
set_option maxRecDepth 100000 in
theorem tiok92 : TIok Tryz.prog 92 ti92 := TIok.of Tryz.type92 Tryz.underlying92 rfl rfl rfl rfl rfl rfl trivial
def ti93 : TI := ⟨2, 24, .struct [(0, 4), (1, 9)], [(.bool false), (.string ⟨⟨[]⟩⟩)]⟩
set_option maxRecDepth 100000 in
theorem tiok93 : TIok Tryz.prog 93 ti93 := TIok.of Tryz.type93 Tryz.underlying93 rfl rfl rfl rfl rfl rfl ⟨_, rfl, rfl⟩
def ti94 : TI := ⟨2, 24, .struct [(0, 4), (1, 9)], [(.bool false), (.string ⟨⟨[]⟩⟩)]⟩
set_option maxRecDepth 100000 in
theorem tiok94 : TIok Tryz.prog 94 ti94 := TIok.of Tryz.type94 Tryz.underlying94 rfl rfl rfl rfl rfl rfl ⟨_, rfl, rfl⟩
def ti96 : TI := ⟨1, 8, .other, [.nilFunc]⟩
set_option maxRecDepth 100000 in
theorem tiok96 : TIok Tryz.prog 96 ti96 := TIok.of Tryz.type96 Tryz.underlying96 rfl rfl rfl rfl rfl rfl trivial
def ti97 : TI := ⟨1, 8, .other, [.nilFunc]⟩
set_option maxRecDepth 100000 in
theorem tiok97 : TIok Tryz.prog 97 ti97 := TIok.of Tryz.type97 Tryz.underlying97 rfl rfl rfl rfl rfl rfl trivial
def ti98 : TI := ⟨1, 8, .other, [.nilFunc]⟩
set_option maxRecDepth 100000 in
theorem tiok98 : TIok Tryz.prog 98 ti98 := TIok.of Tryz.type98 Tryz.underlying98 rfl rfl rfl rfl rfl rfl trivial
def ti99 : TI := ⟨1, 8, .other, [.nilFunc]⟩
set_option maxRecDepth 100000 in
theorem tiok99 : TIok Tryz.prog 99 ti99 := TIok.of Tryz.type99 Tryz.underlying99 rfl rfl rfl rfl rfl rfl trivial
def ti101 : TI := ⟨1, 8, .other, [.nilFunc]⟩
set_option maxRecDepth 100000 in
theorem tiok101 : TIok Tryz.prog 101 ti101 := TIok.of Tryz.type101 Tryz.underlying101 rfl rfl rfl rfl rfl rfl trivial
def ti102 : TI := ⟨1, 8, .other, [.nilFunc]⟩
set_option maxRecDepth 100000 in
theorem tiok102 : TIok Tryz.prog 102 ti102 := TIok.of Tryz.type102 Tryz.underlying102 rfl rfl rfl rfl rfl rfl trivial
def ti103 : TI := ⟨1, 8, .other, [.nilFunc]⟩
set_option maxRecDepth 100000 in
theorem tiok103 : TIok Tryz.prog 103 ti103 := TIok.of Tryz.type103 Tryz.underlying103 rfl rfl rfl rfl rfl rfl trivial
def ti104 : TI := ⟨1, 8, .other, [.nilFunc]⟩
set_option maxRecDepth 100000 in
theorem tiok104 : TIok Tryz.prog 104 ti104 := TIok.of Tryz.type104 Tryz.underlying104 rfl rfl rfl rfl rfl rfl trivial
def ti105 : TI := ⟨1, 8, .other, [.nilFunc]⟩
set_option maxRecDepth 100000 in
theorem tiok105 : TIok Tryz.prog 105 ti105 := TIok.of Tryz.type105 Tryz.underlying105 rfl rfl rfl rfl rfl rfl trivial
def ti106 : TI := ⟨1, 8, .other, [.nilFunc]⟩
set_option maxRecDepth 100000 in
theorem tiok106 : TIok Tryz.prog 106 ti106 := TIok.of Tryz.type106 Tryz.underlying106 rfl rfl rfl rfl rfl rfl trivial
def ti107 : TI := ⟨1, 8, .other, [.nilFunc]⟩
set_option maxRecDepth 100000 in
theorem tiok107 : TIok Tryz.prog 107 ti107 := TIok.of Tryz.type107 Tryz.underlying107 rfl rfl rfl rfl rfl rfl trivial
def ti108 : TI := ⟨1, 8, .other, [.nilFunc]⟩
set_option maxRecDepth 100000 in
theorem tiok108 : TIok Tryz.prog 108 ti108 := TIok.of Tryz.type108 Tryz.underlying108 rfl rfl rfl rfl rfl rfl trivial
def ti109 : TI := ⟨1, 8, .other, [.nilFunc]⟩
set_option maxRecDepth 100000 in
theorem tiok109 : TIok Tryz.prog 109 ti109 := TIok.of Tryz.type109 Tryz.underlying109 rfl rfl rfl rfl rfl rfl trivial
def ti110 : TI := ⟨1, 8, .other, [.nilFunc]⟩
set_option maxRecDepth 100000 in
theorem tiok110 : TIok Tryz.prog 110 ti110 := TIok.of Tryz.type110 Tryz.underlying110 rfl rfl rfl rfl rfl rfl trivial
def ti111 : TI := ⟨1, 8, .other, [.nilFunc]⟩
set_option maxRecDepth 100000 in
theorem tiok111 : TIok Tryz.prog 111 ti111 := TIok.of Tryz.type111 Tryz.underlying111 rfl rfl rfl rfl rfl rfl trivial
def ti112 : TI := ⟨1, 8, .other, [.nilFunc]⟩
set_option maxRecDepth 100000 in
theorem tiok112 : TIok Tryz.prog 112 ti112 := TIok.of Tryz.type112 Tryz.underlying112 rfl rfl rfl rfl rfl rfl trivial
def ti113 : TI := ⟨1, 8, .other, [.nilFunc]⟩
set_option maxRecDepth 100000 in
theorem tiok113 : TIok Tryz.prog 113 ti113 := TIok.of Tryz.type113 Tryz.underlying113 rfl rfl rfl rfl rfl rfl trivial
def ti114 : TI := ⟨1, 24, .slice 5, [(.slice none 0 0)]⟩
set_option maxRecDepth 100000 in
theorem tiok114 : TIok Tryz.prog 114 ti114 := TIok.of Tryz.type114 Tryz.underlying114 rfl rfl rfl rfl rfl rfl rfl
def ti115 : TI := ⟨1, 8, .other, [.nilFunc]⟩
set_option maxRecDepth 100000 in
theorem tiok115 : TIok Tryz.prog 115 ti115 := TIok.of Tryz.type115 Tryz.underlying115 rfl rfl rfl rfl rfl rfl trivial
def ti116 : TI := ⟨1, 8, .other, [.nilFunc]⟩
set_option maxRecDepth 100000 in
theorem tiok116 : TIok Tryz.prog 116 ti116 := TIok.of Tryz.type116 Tryz.underlying116 rfl rfl rfl rfl rfl rfl trivial
def ti117 : TI := ⟨1, 8, .other, [.nilFunc]⟩
set_option maxRecDepth 100000 in
theorem tiok117 : TIok Tryz.prog 117 ti117 := TIok.of Tryz.type117 Tryz.underlying117 rfl rfl rfl rfl rfl rfl trivial
def ti118 : TI := ⟨1, 8, .other, [.nilFunc]⟩
set_option maxRecDepth 100000 in
theorem tiok118 : TIok Tryz.prog 118 ti118 := TIok.of Tryz.type118 Tryz.underlying118 rfl rfl rfl rfl rfl rfl trivial
def ti119 : TI := ⟨1, 8, .other, [.nilFunc]⟩
set_option maxRecDepth 100000 in
theorem tiok119 : TIok Tryz.prog 119 ti119 := TIok.of Tryz.type119 Tryz.underlying119 rfl rfl rfl rfl rfl rfl trivial
def ti120 : TI := ⟨6, 48, .struct [(0, 2), (1, 2), (2, 2), (3, 2), (4, 2), (5, 2)], [(.int .i64 0), (.int .i64 0), (.int .i64 0), (.int .i64 0), (.int .i64 0), (.int .i64 0)]⟩
set_option maxRecDepth 100000 in
theorem tiok120 : TIok Tryz.prog 120 ti120 := TIok.of Tryz.type120 Tryz.underlying120 rfl rfl rfl rfl rfl rfl ⟨_, rfl, rfl⟩
def ti121 : TI := ⟨6, 48, .struct [(0, 2), (1, 2), (2, 2), (3, 2), (4, 2), (5, 2)], [(.int .i64 0), (.int .i64 0), (.int .i64 0), (.int .i64 0), (.int .i64 0), (.int .i64 0)]⟩
set_option maxRecDepth 100000 in
theorem tiok121 : TIok Tryz.prog 121 ti121 := TIok.of Tryz.type121 Tryz.underlying121 rfl rfl rfl rfl rfl rfl ⟨_, rfl, rfl⟩
def ti123 : TI := ⟨1, 8, .other, [.nilFunc]⟩
set_option maxRecDepth 100000 in
theorem tiok123 : TIok Tryz.prog 123 ti123 := TIok.of Tryz.type123 Tryz.underlying123 rfl rfl rfl rfl rfl rfl trivial
def ti124 : TI := ⟨1, 8, .other, [.nilFunc]⟩
set_option maxRecDepth 100000 in
theorem tiok124 : TIok Tryz.prog 124 ti124 := TIok.of Tryz.type124 Tryz.underlying124 rfl rfl rfl rfl rfl rfl trivial
def ti125 : TI := ⟨1, 8, .other, [.nilFunc]⟩
set_option maxRecDepth 100000 in
theorem tiok125 : TIok Tryz.prog 125 ti125 := TIok.of Tryz.type125 Tryz.underlying125 rfl rfl rfl rfl rfl rfl trivial
def ti126 : TI := ⟨1, 8, .other, [.nilFunc]⟩
set_option maxRecDepth 100000 in
theorem tiok126 : TIok Tryz.prog 126 ti126 := TIok.of Tryz.type126 Tryz.underlying126 rfl rfl rfl rfl rfl rfl trivial
def ti127 : TI := ⟨1, 8, .other, [.nilFunc]⟩
set_option maxRecDepth 100000 in
theorem tiok127 : TIok Tryz.prog 127 ti127 := TIok.of Tryz.type127 Tryz.underlying127 rfl rfl rfl rfl rfl rfl trivial
def ti128 : TI := ⟨1, 16, .other, [.nilIface]⟩
set_option maxRecDepth 100000 in
theorem tiok128 : TIok Tryz.prog 128 ti128 := TIok.of Tryz.type128 Tryz.underlying128 rfl rfl rfl rfl rfl rfl trivial
def ti132 : TI := ⟨1, 8, .other, [.nilFunc]⟩
set_option maxRecDepth 100000 in
theorem tiok132 : TIok Tryz.prog 132 ti132 := TIok.of Tryz.type132 Tryz.underlying132 rfl rfl rfl rfl rfl rfl trivial
def ti133 : TI := ⟨1, 8, .other, [.nilFunc]⟩
set_option maxRecDepth 100000 in
theorem tiok133 : TIok Tryz.prog 133 ti133 := TIok.of Tryz.type133 Tryz.underlying133 rfl rfl rfl rfl rfl rfl trivial
def ti134 : TI := ⟨1, 8, .other, [.nilFunc]⟩
set_option maxRecDepth 100000 in
theorem tiok134 : TIok Tryz.prog 134 ti134 := TIok.of Tryz.type134 Tryz.underlying134 rfl rfl rfl rfl rfl rfl trivial
def ti135 : TI := ⟨1, 8, .other, [.nilFunc]⟩
set_option maxRecDepth 100000 in
theorem tiok135 : TIok Tryz.prog 135 ti135 := TIok.of Tryz.type135 Tryz.underlying135 rfl rfl rfl rfl rfl rfl trivial
def ti136 : TI := ⟨1, 8, .other, [.nilFunc]⟩
set_option maxRecDepth 100000 in
theorem tiok136 : TIok Tryz.prog 136 ti136 := TIok.of Tryz.type136 Tryz.underlying136 rfl rfl rfl rfl rfl rfl trivial
def ti137 : TI := ⟨1, 8, .other, [.nilFunc]⟩
set_option maxRecDepth 100000 in
theorem tiok137 : TIok Tryz.prog 137 ti137 := TIok.of Tryz.type137 Tryz.underlying137 rfl rfl rfl rfl rfl rfl trivial
def ti138 : TI := ⟨1, 8, .other, [.nilFunc]⟩
set_option maxRecDepth 100000 in
theorem tiok138 : TIok Tryz.prog 138 ti138 := TIok.of Tryz.type138 Tryz.underlying138 rfl rfl rfl rfl rfl rfl trivial
def ti139 : TI := ⟨1, 8, .other, [.nilFunc]⟩
set_option maxRecDepth 100000 in
theorem tiok139 : TIok Tryz.prog 139 ti139 := TIok.of Tryz.type139 Tryz.underlying139 rfl rfl rfl rfl rfl rfl trivial
def ti140 : TI := ⟨1, 8, .other, [.nilFunc]⟩
set_option maxRecDepth 100000 in
theorem tiok140 : TIok Tryz.prog 140 ti140 := TIok.of Tryz.type140 Tryz.underlying140 rfl rfl rfl rfl rfl rfl trivial
def ti141 : TI := ⟨1, 8, .ptr 2, [(.pointer none)]⟩
set_option maxRecDepth 100000 in
theorem tiok141 : TIok Tryz.prog 141 ti141 := TIok.of Tryz.type141 Tryz.underlying141 rfl rfl rfl rfl rfl rfl rfl
def ti142 : TI := ⟨1, 8, .other, [.nilFunc]⟩
set_option maxRecDepth 100000 in
theorem tiok142 : TIok Tryz.prog 142 ti142 := TIok.of Tryz.type142 Tryz.underlying142 rfl rfl rfl rfl rfl rfl trivial
def ti144 : TI := ⟨1, 8, .other, [.nilFunc]⟩
set_option maxRecDepth 100000 in
theorem tiok144 : TIok Tryz.prog 144 ti144 := TIok.of Tryz.type144 Tryz.underlying144 rfl rfl rfl rfl rfl rfl trivial
def ti145 : TI := ⟨1, 8, .other, [.nilFunc]⟩
set_option maxRecDepth 100000 in
theorem tiok145 : TIok Tryz.prog 145 ti145 := TIok.of Tryz.type145 Tryz.underlying145 rfl rfl rfl rfl rfl rfl trivial
def ti146 : TI := ⟨1, 8, .other, [.nilFunc]⟩
set_option maxRecDepth 100000 in
theorem tiok146 : TIok Tryz.prog 146 ti146 := TIok.of Tryz.type146 Tryz.underlying146 rfl rfl rfl rfl rfl rfl trivial
def ti147 : TI := ⟨1, 8, .other, [.nilFunc]⟩
set_option maxRecDepth 100000 in
theorem tiok147 : TIok Tryz.prog 147 ti147 := TIok.of Tryz.type147 Tryz.underlying147 rfl rfl rfl rfl rfl rfl trivial
def ti148 : TI := ⟨1, 24, .slice 3, [(.slice none 0 0)]⟩
set_option maxRecDepth 100000 in
theorem tiok148 : TIok Tryz.prog 148 ti148 := TIok.of Tryz.type148 Tryz.underlying148 rfl rfl rfl rfl rfl rfl rfl
def ti149 : TI := ⟨1, 8, .other, [.nilFunc]⟩
set_option maxRecDepth 100000 in
theorem tiok149 : TIok Tryz.prog 149 ti149 := TIok.of Tryz.type149 Tryz.underlying149 rfl rfl rfl rfl rfl rfl trivial
def ti150 : TI := ⟨1, 8, .other, [.nilFunc]⟩
set_option maxRecDepth 100000 in
theorem tiok150 : TIok Tryz.prog 150 ti150 := TIok.of Tryz.type150 Tryz.underlying150 rfl rfl rfl rfl rfl rfl trivial
def ti151 : TI := ⟨1, 8, .other, [.nilFunc]⟩
set_option maxRecDepth 100000 in
theorem tiok151 : TIok Tryz.prog 151 ti151 := TIok.of Tryz.type151 Tryz.underlying151 rfl rfl rfl rfl rfl rfl trivial
def ti152 : TI := ⟨1, 8, .other, [.nilFunc]⟩
set_option maxRecDepth 100000 in
theorem tiok152 : TIok Tryz.prog 152 ti152 := TIok.of Tryz.type152 Tryz.underlying152 rfl rfl rfl rfl rfl rfl trivial
def ti153 : TI := ⟨1, 8, .ptr 155, [(.pointer none)]⟩
set_option maxRecDepth 100000 in
theorem tiok153 : TIok Tryz.prog 153 ti153 := TIok.of Tryz.type153 Tryz.underlying153 rfl rfl rfl rfl rfl rfl rfl
def ti154 : TI := ⟨2, 32, .struct [(0, 153), (1, 114)], [(.pointer none), (.slice none 0 0)]⟩
set_option maxRecDepth 100000 in
theorem tiok154 : TIok Tryz.prog 154 ti154 := TIok.of Tryz.type154 Tryz.underlying154 rfl rfl rfl rfl rfl rfl ⟨_, rfl, rfl⟩
def ti155 : TI := ⟨2, 32, .struct [(0, 153), (1, 114)], [(.pointer none), (.slice none 0 0)]⟩
set_option maxRecDepth 100000 in
theorem tiok155 : TIok Tryz.prog 155 ti155 := TIok.of Tryz.type155 Tryz.underlying155 rfl rfl rfl rfl rfl rfl ⟨_, rfl, rfl⟩
def ti156 : TI := ⟨1, 8, .other, [.nilFunc]⟩
set_option maxRecDepth 100000 in
theorem tiok156 : TIok Tryz.prog 156 ti156 := TIok.of Tryz.type156 Tryz.underlying156 rfl rfl rfl rfl rfl rfl trivial
def ti159 : TI := ⟨1, 8, .other, [.nilFunc]⟩
set_option maxRecDepth 100000 in
theorem tiok159 : TIok Tryz.prog 159 ti159 := TIok.of Tryz.type159 Tryz.underlying159 rfl rfl rfl rfl rfl rfl trivial
def ti160 : TI := ⟨1, 8, .other, [.nilFunc]⟩
set_option maxRecDepth 100000 in
theorem tiok160 : TIok Tryz.prog 160 ti160 := TIok.of Tryz.type160 Tryz.underlying160 rfl rfl rfl rfl rfl rfl trivial
def ti162 : TI := ⟨1, 8, .other, [.nilFunc]⟩
set_option maxRecDepth 100000 in
theorem tiok162 : TIok Tryz.prog 162 ti162 := TIok.of Tryz.type162 Tryz.underlying162 rfl rfl rfl rfl rfl rfl trivial
def ti163 : TI := ⟨1, 8, .other, [.nilFunc]⟩
set_option maxRecDepth 100000 in
theorem tiok163 : TIok Tryz.prog 163 ti163 := TIok.of Tryz.type163 Tryz.underlying163 rfl rfl rfl rfl rfl rfl trivial
def ti167 : TI := ⟨1, 8, .other, [.nilFunc]⟩
set_option maxRecDepth 100000 in
theorem tiok167 : TIok Tryz.prog 167 ti167 := TIok.of Tryz.type167 Tryz.underlying167 rfl rfl rfl rfl rfl rfl trivial
def ti168 : TI := ⟨1, 8, .other, [.nilFunc]⟩
set_option maxRecDepth 100000 in
theorem tiok168 : TIok Tryz.prog 168 ti168 := TIok.of Tryz.type168 Tryz.underlying168 rfl rfl rfl rfl rfl rfl trivial
def ti169 : TI := ⟨1, 8, .ptr 165, [(.pointer none)]⟩
set_option maxRecDepth 100000 in
theorem tiok169 : TIok Tryz.prog 169 ti169 := TIok.of Tryz.type169 Tryz.underlying169 rfl rfl rfl rfl rfl rfl rfl
def ti170 : TI := ⟨1, 8, .other, [.nilFunc]⟩
set_option maxRecDepth 100000 in
theorem tiok170 : TIok Tryz.prog 170 ti170 := TIok.of Tryz.type170 Tryz.underlying170 rfl rfl rfl rfl rfl rfl trivial
def ti171 : TI := ⟨1, 8, .other, [.nilFunc]⟩
set_option maxRecDepth 100000 in
theorem tiok171 : TIok Tryz.prog 171 ti171 := TIok.of Tryz.type171 Tryz.underlying171 rfl rfl rfl rfl rfl rfl trivial
def ti172 : TI := ⟨1, 8, .ptr 5, [(.pointer none)]⟩
set_option maxRecDepth 100000 in
theorem tiok172 : TIok Tryz.prog 172 ti172 := TIok.of Tryz.type172 Tryz.underlying172 rfl rfl rfl rfl rfl rfl rfl
def ti173 : TI := ⟨1, 8, .other, [.nilFunc]⟩
set_option maxRecDepth 100000 in
theorem tiok173 : TIok Tryz.prog 173 ti173 := TIok.of Tryz.type173 Tryz.underlying173 rfl rfl rfl rfl rfl rfl trivial
def ti174 : TI := ⟨1, 8, .int .i64, [(.int .i64 0)]⟩
set_option maxRecDepth 100000 in
theorem tiok174 : TIok Tryz.prog 174 ti174 := TIok.of Tryz.type174 Tryz.underlying174 rfl rfl rfl rfl rfl rfl rfl
def ti175 : TI := ⟨1, 8, .int .u64, [(.int .u64 0)]⟩
set_option maxRecDepth 100000 in
theorem tiok175 : TIok Tryz.prog 175 ti175 := TIok.of Tryz.type175 Tryz.underlying175 rfl rfl rfl rfl rfl rfl rfl
def ti178 : TI := ⟨1, 8, .int .u64, [(.int .u64 0)]⟩
set_option maxRecDepth 100000 in
theorem tiok178 : TIok Tryz.prog 178 ti178 := TIok.of Tryz.type178 Tryz.underlying178 rfl rfl rfl rfl rfl rfl rfl
def ti179 : TI := ⟨1, 8, .ptr 192, [(.pointer none)]⟩
set_option maxRecDepth 100000 in
theorem tiok179 : TIok Tryz.prog 179 ti179 := TIok.of Tryz.type179 Tryz.underlying179 rfl rfl rfl rfl rfl rfl rfl
def ti180 : TI := ⟨1, 8, .other, [.nilFunc]⟩
set_option maxRecDepth 100000 in
theorem tiok180 : TIok Tryz.prog 180 ti180 := TIok.of Tryz.type180 Tryz.underlying180 rfl rfl rfl rfl rfl rfl trivial
def ti181 : TI := ⟨1, 8, .other, [.nilFunc]⟩
set_option maxRecDepth 100000 in
theorem tiok181 : TIok Tryz.prog 181 ti181 := TIok.of Tryz.type181 Tryz.underlying181 rfl rfl rfl rfl rfl rfl trivial
def ti183 : TI := ⟨1, 8, .other, [.nilFunc]⟩
set_option maxRecDepth 100000 in
theorem tiok183 : TIok Tryz.prog 183 ti183 := TIok.of Tryz.type183 Tryz.underlying183 rfl rfl rfl rfl rfl rfl trivial
def ti184 : TI := ⟨1, 8, .other, [.nilFunc]⟩
set_option maxRecDepth 100000 in
theorem tiok184 : TIok Tryz.prog 184 ti184 := TIok.of Tryz.type184 Tryz.underlying184 rfl rfl rfl rfl rfl rfl trivial
def ti185 : TI := ⟨1, 8, .other, [.nilFunc]⟩
set_option maxRecDepth 100000 in
theorem tiok185 : TIok Tryz.prog 185 ti185 := TIok.of Tryz.type185 Tryz.underlying185 rfl rfl rfl rfl rfl rfl trivial
def ti186 : TI := ⟨1, 8, .other, [.nilFunc]⟩
set_option maxRecDepth 100000 in
theorem tiok186 : TIok Tryz.prog 186 ti186 := TIok.of Tryz.type186 Tryz.underlying186 rfl rfl rfl rfl rfl rfl trivial
def ti188 : TI := ⟨1, 8, .other, [.nilFunc]⟩
set_option maxRecDepth 100000 in
theorem tiok188 : TIok Tryz.prog 188 ti188 := TIok.of Tryz.type188 Tryz.underlying188 rfl rfl rfl rfl rfl rfl trivial
def ti189 : TI := ⟨1, 8, .other, [.nilFunc]⟩
set_option maxRecDepth 100000 in
theorem tiok189 : TIok Tryz.prog 189 ti189 := TIok.of Tryz.type189 Tryz.underlying189 rfl rfl rfl rfl rfl rfl trivial
def ti190 : TI := ⟨1, 8, .other, [.nilFunc]⟩
set_option maxRecDepth 100000 in
theorem tiok190 : TIok Tryz.prog 190 ti190 := TIok.of Tryz.type190 Tryz.underlying190 rfl rfl rfl rfl rfl rfl trivial
def ti192 : TI := ⟨3, 48, .struct [(0, 9), (1, 9), (2, 129)], [(.string ⟨⟨[]⟩⟩), (.string ⟨⟨[]⟩⟩), .nilIface]⟩
set_option maxRecDepth 100000 in
theorem tiok192 : TIok Tryz.prog 192 ti192 := TIok.of Tryz.type192 Tryz.underlying192 rfl rfl rfl rfl rfl rfl ⟨_, rfl, rfl⟩
def ti194 : TI := ⟨1, 8, .other, [.nilFunc]⟩
set_option maxRecDepth 100000 in
theorem tiok194 : TIok Tryz.prog 194 ti194 := TIok.of Tryz.type194 Tryz.underlying194 rfl rfl rfl rfl rfl rfl trivial
def ti195 : TI := ⟨1, 4, .int .u32, [(.int .u32 0)]⟩
set_option maxRecDepth 100000 in
theorem tiok195 : TIok Tryz.prog 195 ti195 := TIok.of Tryz.type195 Tryz.underlying195 rfl rfl rfl rfl rfl rfl rfl
def ti197 : TI := ⟨1, 8, .other, [.nilFunc]⟩
set_option maxRecDepth 100000 in
theorem tiok197 : TIok Tryz.prog 197 ti197 := TIok.of Tryz.type197 Tryz.underlying197 rfl rfl rfl rfl rfl rfl trivial
def ti199 : TI := ⟨1, 8, .other, [.nilFunc]⟩
set_option maxRecDepth 100000 in
theorem tiok199 : TIok Tryz.prog 199 ti199 := TIok.of Tryz.type199 Tryz.underlying199 rfl rfl rfl rfl rfl rfl trivial
def ti200 : TI := ⟨1, 8, .other, [.nilFunc]⟩
set_option maxRecDepth 100000 in
theorem tiok200 : TIok Tryz.prog 200 ti200 := TIok.of Tryz.type200 Tryz.underlying200 rfl rfl rfl rfl rfl rfl trivial
def ti205 : TI := ⟨2, 2, .struct [(0, 5), (1, 5)], [(.int .u8 0), (.int .u8 0)]⟩
set_option maxRecDepth 100000 in
theorem tiok205 : TIok Tryz.prog 205 ti205 := TIok.of Tryz.type205 Tryz.underlying205 rfl rfl rfl rfl rfl rfl ⟨_, rfl, rfl⟩
def ti206 : TI := ⟨2, 2, .struct [(0, 5), (1, 5)], [(.int .u8 0), (.int .u8 0)]⟩
set_option maxRecDepth 100000 in
theorem tiok206 : TIok Tryz.prog 206 ti206 := TIok.of Tryz.type206 Tryz.underlying206 rfl rfl rfl rfl rfl rfl ⟨_, rfl, rfl⟩
def ti208 : TI := ⟨1, 8, .other, [.nilFunc]⟩
set_option maxRecDepth 100000 in
theorem tiok208 : TIok Tryz.prog 208 ti208 := TIok.of Tryz.type208 Tryz.underlying208 rfl rfl rfl rfl rfl rfl trivial
def ti209 : TI := ⟨1, 8, .other, [.nilFunc]⟩
set_option maxRecDepth 100000 in
theorem tiok209 : TIok Tryz.prog 209 ti209 := TIok.of Tryz.type209 Tryz.underlying209 rfl rfl rfl rfl rfl rfl trivial
def ti211 : TI := ⟨1, 8, .other, [.nilFunc]⟩
set_option maxRecDepth 100000 in
theorem tiok211 : TIok Tryz.prog 211 ti211 := TIok.of Tryz.type211 Tryz.underlying211 rfl rfl rfl rfl rfl rfl trivial
def ti213 : TI := ⟨1, 8, .other, [.nilFunc]⟩
set_option maxRecDepth 100000 in
theorem tiok213 : TIok Tryz.prog 213 ti213 := TIok.of Tryz.type213 Tryz.underlying213 rfl rfl rfl rfl rfl rfl trivial
def ti214 : TI := ⟨1, 8, .other, [.nilFunc]⟩
set_option maxRecDepth 100000 in
theorem tiok214 : TIok Tryz.prog 214 ti214 := TIok.of Tryz.type214 Tryz.underlying214 rfl rfl rfl rfl rfl rfl trivial
def ti216 : TI := ⟨1, 8, .other, [.nilFunc]⟩
set_option maxRecDepth 100000 in
theorem tiok216 : TIok Tryz.prog 216 ti216 := TIok.of Tryz.type216 Tryz.underlying216 rfl rfl rfl rfl rfl rfl trivial
def ti217 : TI := ⟨1, 8, .other, [.nilFunc]⟩
set_option maxRecDepth 100000 in
theorem tiok217 : TIok Tryz.prog 217 ti217 := TIok.of Tryz.type217 Tryz.underlying217 rfl rfl rfl rfl rfl rfl trivial
def ti220 : TI := ⟨1, 8, .other, [.nilFunc]⟩
set_option maxRecDepth 100000 in
theorem tiok220 : TIok Tryz.prog 220 ti220 := TIok.of Tryz.type220 Tryz.underlying220 rfl rfl rfl rfl rfl rfl trivial
def ti221 : TI := ⟨1, 8, .other, [.nilFunc]⟩
set_option maxRecDepth 100000 in
theorem tiok221 : TIok Tryz.prog 221 ti221 := TIok.of Tryz.type221 Tryz.underlying221 rfl rfl rfl rfl rfl rfl trivial
def ti222 : TI := ⟨1, 8, .other, [.nilFunc]⟩
set_option maxRecDepth 100000 in
theorem tiok222 : TIok Tryz.prog 222 ti222 := TIok.of Tryz.type222 Tryz.underlying222 rfl rfl rfl rfl rfl rfl trivial
def ti225 : TI := ⟨4, 40, .struct [(0, 17), (1, 17), (2, 17), (3, 9)], [(.pointer none), (.pointer none), (.pointer none), (.string ⟨⟨[]⟩⟩)]⟩
set_option maxRecDepth 100000 in
theorem tiok225 : TIok Tryz.prog 225 ti225 := TIok.of Tryz.type225 Tryz.underlying225 rfl rfl rfl rfl rfl rfl ⟨_, rfl, rfl⟩
def ti226 : TI := ⟨4, 40, .struct [(0, 17), (1, 17), (2, 17), (3, 9)], [(.pointer none), (.pointer none), (.pointer none), (.string ⟨⟨[]⟩⟩)]⟩
set_option maxRecDepth 100000 in
theorem tiok226 : TIok Tryz.prog 226 ti226 := TIok.of Tryz.type226 Tryz.underlying226 rfl rfl rfl rfl rfl rfl ⟨_, rfl, rfl⟩
def ti228 : TI := ⟨0, 0, .struct [(0, 227)], []⟩
set_option maxRecDepth 100000 in
theorem tiok228 : TIok Tryz.prog 228 ti228 := TIok.of Tryz.type228 Tryz.underlying228 rfl rfl rfl rfl rfl rfl ⟨_, rfl, rfl⟩
def ti229 : TI := ⟨0, 0, .struct [(0, 227)], []⟩
set_option maxRecDepth 100000 in
theorem tiok229 : TIok Tryz.prog 229 ti229 := TIok.of Tryz.type229 Tryz.underlying229 rfl rfl rfl rfl rfl rfl ⟨_, rfl, rfl⟩
def ti230 : TI := ⟨1, 1, .int .u8, [(.int .u8 0)]⟩
set_option maxRecDepth 100000 in
theorem tiok230 : TIok Tryz.prog 230 ti230 := TIok.of Tryz.type230 Tryz.underlying230 rfl rfl rfl rfl rfl rfl rfl
def ti231 : TI := ⟨1, 1, .int .u8, [(.int .u8 0)]⟩
set_option maxRecDepth 100000 in
theorem tiok231 : TIok Tryz.prog 231 ti231 := TIok.of Tryz.type231 Tryz.underlying231 rfl rfl rfl rfl rfl rfl rfl
def ti232 : TI := ⟨1, 8, .other, [.nilFunc]⟩
set_option maxRecDepth 100000 in
theorem tiok232 : TIok Tryz.prog 232 ti232 := TIok.of Tryz.type232 Tryz.underlying232 rfl rfl rfl rfl rfl rfl trivial
def ti233 : TI := ⟨1, 4, .int .i32, [(.int .i32 0)]⟩
set_option maxRecDepth 100000 in
theorem tiok233 : TIok Tryz.prog 233 ti233 := TIok.of Tryz.type233 Tryz.underlying233 rfl rfl rfl rfl rfl rfl rfl
def ti234 : TI := ⟨1, 4, .int .i32, [(.int .i32 0)]⟩
set_option maxRecDepth 100000 in
theorem tiok234 : TIok Tryz.prog 234 ti234 := TIok.of Tryz.type234 Tryz.underlying234 rfl rfl rfl rfl rfl rfl rfl
def ti235 : TI := ⟨11, 48, .struct [(0, 12), (1, 12), (2, 195), (3, 230), (4, 5), (5, 5), (6, 231), (7, 232), (8, 172), (9, 233), (10, 234)], [(.int .u64 0), (.int .u64 0), (.int .u32 0), (.int .u8 0), (.int .u8 0), (.int .u8 0), (.int .u8 0), .nilFunc, (.pointer none), (.int .i32 0), (.int .i32 0)]⟩
set_option maxRecDepth 100000 in
theorem tiok235 : TIok Tryz.prog 235 ti235 := TIok.of Tryz.type235 Tryz.underlying235 rfl rfl rfl rfl rfl rfl ⟨_, rfl, rfl⟩
def ti236 : TI := ⟨11, 48, .struct [(0, 12), (1, 12), (2, 195), (3, 230), (4, 5), (5, 5), (6, 231), (7, 232), (8, 172), (9, 233), (10, 234)], [(.int .u64 0), (.int .u64 0), (.int .u32 0), (.int .u8 0), (.int .u8 0), (.int .u8 0), (.int .u8 0), .nilFunc, (.pointer none), (.int .i32 0), (.int .i32 0)]⟩
set_option maxRecDepth 100000 in
theorem tiok236 : TIok Tryz.prog 236 ti236 := TIok.of Tryz.type236 Tryz.underlying236 rfl rfl rfl rfl rfl rfl ⟨_, rfl, rfl⟩
def tys : Tr := (.node 106 ti106 (.node 52 ti52 (.node 27 ti27 (.node 15 ti15 (.node 7 ti7 (.node 4 ti4 (.node 2 ti2 (.node 1 ti1 .nil .nil) (.node 3 ti3 .nil .nil)) (.node 6 ti6 (.node 5 ti5 .nil .nil) .nil)) (.node 11 ti11 (.node 9 ti9 (.node 8 ti8 .nil .nil) .nil) (.node 13 ti13 (.node 12 ti12 .nil .nil) .nil))) (.node 21 ti21 (.node 18 ti18 (.node 17 ti17 (.node 16 ti16 .nil .nil) .nil) (.node 20 ti20 (.node 19 ti19 .nil .nil) .nil)) (.node 24 ti24 (.node 23 ti23 (.node 22 ti22 .nil .nil) .nil) (.node 26 ti26 (.node 25 ti25 .nil .nil) .nil)))) (.node 40 ti40 (.node 34 ti34 (.node 31 ti31 (.node 29 ti29 (.node 28 ti28 .nil .nil) (.node 30 ti30 .nil .nil)) (.node 33 ti33 (.node 32 ti32 .nil .nil) .nil)) (.node 37 ti37 (.node 36 ti36 (.node 35 ti35 .nil .nil) .nil) (.node 39 ti39 (.node 38 ti38 .nil .nil) .nil))) (.node 46 ti46 (.node 43 ti43 (.node 42 ti42 (.node 41 ti41 .nil .nil) .nil) (.node 45 ti45 (.node 44 ti44 .nil .nil) .nil)) (.node 49 ti49 (.node 48 ti48 (.node 47 ti47 .nil .nil) .nil) (.node 51 ti51 (.node 50 ti50 .nil .nil) .nil))))) (.node 78 ti78 (.node 65 ti65 (.node 59 ti59 (.node 56 ti56 (.node 54 ti54 (.node 53 ti53 .nil .nil) (.node 55 ti55 .nil .nil)) (.node 58 ti58 (.node 57 ti57 .nil .nil) .nil)) (.node 62 ti62 (.node 61 ti61 (.node 60 ti60 .nil .nil) .nil) (.node 64 ti64 (.node 63 ti63 .nil .nil) .nil))) (.node 71 ti71 (.node 68 ti68 (.node 67 ti67 (.node 66 ti66 .nil .nil) .nil) (.node 70 ti70 (.node 69 ti69 .nil .nil) .nil)) (.node 75 ti75 (.node 73 ti73 (.node 72 ti72 .nil .nil) .nil) (.node 77 ti77 (.node 76 ti76 .nil .nil) .nil)))) (.node 92 ti92 (.node 85 ti85 (.node 82 ti82 (.node 80 ti80 (.node 79 ti79 .nil .nil) (.node 81 ti81 .nil .nil)) (.node 84 ti84 (.node 83 ti83 .nil .nil) .nil)) (.node 88 ti88 (.node 87 ti87 (.node 86 ti86 .nil .nil) .nil) (.node 91 ti91 (.node 90 ti90 .nil .nil) .nil))) (.node 99 ti99 (.node 96 ti96 (.node 94 ti94 (.node 93 ti93 .nil .nil) .nil) (.node 98 ti98 (.node 97 ti97 .nil .nil) .nil)) (.node 103 ti103 (.node 102 ti102 (.node 101 ti101 .nil .nil) .nil) (.node 105 ti105 (.node 104 ti104 .nil .nil) .nil)))))) (.node 167 ti167 (.node 135 ti135 (.node 119 ti119 (.node 113 ti113 (.node 110 ti110 (.node 108 ti108 (.node 107 ti107 .nil .nil) (.node 109 ti109 .nil .nil)) (.node 112 ti112 (.node 111 ti111 .nil .nil) .nil)) (.node 116 ti116 (.node 115 ti115 (.node 114 ti114 .nil .nil) .nil) (.node 118 ti118 (.node 117 ti117 .nil .nil) .nil))) (.node 126 ti126 (.node 123 ti123 (.node 121 ti121 (.node 120 ti120 .nil .nil) .nil) (.node 125 ti125 (.node 124 ti124 .nil .nil) .nil)) (.node 132 ti132 (.node 128 ti128 (.node 127 ti127 .nil .nil) .nil) (.node 134 ti134 (.node 133 ti133 .nil .nil) .nil)))) (.node 149 ti149 (.node 142 ti142 (.node 139 ti139 (.node 137 ti137 (.node 136 ti136 .nil .nil) (.node 138 ti138 .nil .nil)) (.node 141 ti141 (.node 140 ti140 .nil .nil) .nil)) (.node 146 ti146 (.node 145 ti145 (.node 144 ti144 .nil .nil) .nil) (.node 148 ti148 (.node 147 ti147 .nil .nil) .nil))) (.node 155 ti155 (.node 152 ti152 (.node 151 ti151 (.node 150 ti150 .nil .nil) .nil) (.node 154 ti154 (.node 153 ti153 .nil .nil) .nil)) (.node 160 ti160 (.node 159 ti159 (.node 156 ti156 .nil .nil) .nil) (.node 163 ti163 (.node 162 ti162 .nil .nil) .nil))))) (.node 200 ti200 (.node 183 ti183 (.node 174 ti174 (.node 171 ti171 (.node 169 ti169 (.node 168 ti168 .nil .nil) (.node 170 ti170 .nil .nil)) (.node 173 ti173 (.node 172 ti172 .nil .nil) .nil)) (.node 179 ti179 (.node 178 ti178 (.node 175 ti175 .nil .nil) .nil) (.node 181 ti181 (.node 180 ti180 .nil .nil) .nil))) (.node 190 ti190 (.node 186 ti186 (.node 185 ti185 (.node 184 ti184 .nil .nil) .nil) (.node 189 ti189 (.node 188 ti188 .nil .nil) .nil)) (.node 195 ti195 (.node 194 ti194 (.node 192 ti192 .nil .nil) .nil) (.node 199 ti199 (.node 197 ti197 .nil .nil) .nil)))) (.node 222 ti222 (.node 213 ti213 (.node 208 ti208 (.node 206 ti206 (.node 205 ti205 .nil .nil) .nil) (.node 211 ti211 (.node 209 ti209 .nil .nil) .nil)) (.node 217 ti217 (.node 216 ti216 (.node 214 ti214 .nil .nil) .nil) (.node 221 ti221 (.node 220 ti220 .nil .nil) .nil))) (.node 231 ti231 (.node 228 ti228 (.node 226 ti226 (.node 225 ti225 .nil .nil) .nil) (.node 230 ti230 (.node 229 ti229 .nil .nil) .nil)) (.node 234 ti234 (.node 233 ti233 (.node 232 ti232 .nil .nil) .nil) (.node 236 ti236 (.node 235 ti235 .nil .nil) .nil)))))))
def Θ : Nat → Option TI := tys.get
theorem hΘ : ThOk Tryz.prog Θ := Tr.ok (t := tys) ⟨tiok106, ⟨tiok52, ⟨tiok27, ⟨tiok15, ⟨tiok7, ⟨tiok4, ⟨tiok2, ⟨tiok1, trivial, trivial⟩, ⟨tiok3, trivial, trivial⟩⟩, ⟨tiok6, ⟨tiok5, trivial, trivial⟩, trivial⟩⟩, ⟨tiok11, ⟨tiok9, ⟨tiok8, trivial, trivial⟩, trivial⟩, ⟨tiok13, ⟨tiok12, trivial, trivial⟩, trivial⟩⟩⟩, ⟨tiok21, ⟨tiok18, ⟨tiok17, ⟨tiok16, trivial, trivial⟩, trivial⟩, ⟨tiok20, ⟨tiok19, trivial, trivial⟩, trivial⟩⟩, ⟨tiok24, ⟨tiok23, ⟨tiok22, trivial, trivial⟩, trivial⟩, ⟨tiok26, ⟨tiok25, trivial, trivial⟩, trivial⟩⟩⟩⟩, ⟨tiok40, ⟨tiok34, ⟨tiok31, ⟨tiok29, ⟨tiok28, trivial, trivial⟩, ⟨tiok30, trivial, trivial⟩⟩, ⟨tiok33, ⟨tiok32, trivial, trivial⟩, trivial⟩⟩, ⟨tiok37, ⟨tiok36, ⟨tiok35, trivial, trivial⟩, trivial⟩, ⟨tiok39, ⟨tiok38, trivial, trivial⟩, trivial⟩⟩⟩, ⟨tiok46, ⟨tiok43, ⟨tiok42, ⟨tiok41, trivial, trivial⟩, trivial⟩, ⟨tiok45, ⟨tiok44, trivial, trivial⟩, trivial⟩⟩, ⟨tiok49, ⟨tiok48, ⟨tiok47, trivial, trivial⟩, trivial⟩, ⟨tiok51, ⟨tiok50, trivial, trivial⟩, trivial⟩⟩⟩⟩⟩, ⟨tiok78, ⟨tiok65, ⟨tiok59, ⟨tiok56, ⟨tiok54, ⟨tiok53, trivial, trivial⟩, ⟨tiok55, trivial, trivial⟩⟩, ⟨tiok58, ⟨tiok57, trivial, trivial⟩, trivial⟩⟩, ⟨tiok62, ⟨tiok61, ⟨tiok60, trivial, trivial⟩, trivial⟩, ⟨tiok64, ⟨tiok63, trivial, trivial⟩, trivial⟩⟩⟩, ⟨tiok71, ⟨tiok68, ⟨tiok67, ⟨tiok66, trivial, trivial⟩, trivial⟩, ⟨tiok70, ⟨tiok69, trivial, trivial⟩, trivial⟩⟩, ⟨tiok75, ⟨tiok73, ⟨tiok72, trivial, trivial⟩, trivial⟩, ⟨tiok77, ⟨tiok76, trivial, trivial⟩, trivial⟩⟩⟩⟩, ⟨tiok92, ⟨tiok85, ⟨tiok82, ⟨tiok80, ⟨tiok79, trivial, trivial⟩, ⟨tiok81, trivial, trivial⟩⟩, ⟨tiok84, ⟨tiok83, trivial, trivial⟩, trivial⟩⟩, ⟨tiok88, ⟨tiok87, ⟨tiok86, trivial, trivial⟩, trivial⟩, ⟨tiok91, ⟨tiok90, trivial, trivial⟩, trivial⟩⟩⟩, ⟨tiok99, ⟨tiok96, ⟨tiok94, ⟨tiok93, trivial, trivial⟩, trivial⟩, ⟨tiok98, ⟨tiok97, trivial, trivial⟩, trivial⟩⟩, ⟨tiok103, ⟨tiok102, ⟨tiok101, trivial, trivial⟩, trivial⟩, ⟨tiok105, ⟨tiok104, trivial, trivial⟩, trivial⟩⟩⟩⟩⟩⟩, ⟨tiok167, ⟨tiok135, ⟨tiok119, ⟨tiok113, ⟨tiok110, ⟨tiok108, ⟨tiok107, trivial, trivial⟩, ⟨tiok109, trivial, trivial⟩⟩, ⟨tiok112, ⟨tiok111, trivial, trivial⟩, trivial⟩⟩, ⟨tiok116, ⟨tiok115, ⟨tiok114, trivial, trivial⟩, trivial⟩, ⟨tiok118, ⟨tiok117, trivial, trivial⟩, trivial⟩⟩⟩, ⟨tiok126, ⟨tiok123, ⟨tiok121, ⟨tiok120, trivial, trivial⟩, trivial⟩, ⟨tiok125, ⟨tiok124, trivial, trivial⟩, trivial⟩⟩, ⟨tiok132, ⟨tiok128, ⟨tiok127, trivial, trivial⟩, trivial⟩, ⟨tiok134, ⟨tiok133, trivial, trivial⟩, trivial⟩⟩⟩⟩, ⟨tiok149, ⟨tiok142, ⟨tiok139, ⟨tiok137, ⟨tiok136, trivial, trivial⟩, ⟨tiok138, trivial, trivial⟩⟩, ⟨tiok141, ⟨tiok140, trivial, trivial⟩, trivial⟩⟩, ⟨tiok146, ⟨tiok145, ⟨tiok144, trivial, trivial⟩, trivial⟩, ⟨tiok148, ⟨tiok147, trivial, trivial⟩, trivial⟩⟩⟩, ⟨tiok155, ⟨tiok152, ⟨tiok151, ⟨tiok150, trivial, trivial⟩, trivial⟩, ⟨tiok154, ⟨tiok153, trivial, trivial⟩, trivial⟩⟩, ⟨tiok160, ⟨tiok159, ⟨tiok156, trivial, trivial⟩, trivial⟩, ⟨tiok163, ⟨tiok162, trivial, trivial⟩, trivial⟩⟩⟩⟩⟩, ⟨tiok200, ⟨tiok183, ⟨tiok174, ⟨tiok171, ⟨tiok169, ⟨tiok168, trivial, trivial⟩, ⟨tiok170, trivial, trivial⟩⟩, ⟨tiok173, ⟨tiok172, trivial, trivial⟩, trivial⟩⟩, ⟨tiok179, ⟨tiok178, ⟨tiok175, trivial, trivial⟩, trivial⟩, ⟨tiok181, ⟨tiok180, trivial, trivial⟩, trivial⟩⟩⟩, ⟨tiok190, ⟨tiok186, ⟨tiok185, ⟨tiok184, trivial, trivial⟩, trivial⟩, ⟨tiok189, ⟨tiok188, trivial, trivial⟩, trivial⟩⟩, ⟨tiok195, ⟨tiok194, ⟨tiok192, trivial, trivial⟩, trivial⟩, ⟨tiok199, ⟨tiok197, trivial, trivial⟩, trivial⟩⟩⟩⟩, ⟨tiok222, ⟨tiok213, ⟨tiok208, ⟨tiok206, ⟨tiok205, trivial, trivial⟩, trivial⟩, ⟨tiok211, ⟨tiok209, trivial, trivial⟩, trivial⟩⟩, ⟨tiok217, ⟨tiok216, ⟨tiok214, trivial, trivial⟩, trivial⟩, ⟨tiok221, ⟨tiok220, trivial, trivial⟩, trivial⟩⟩⟩, ⟨tiok231, ⟨tiok228, ⟨tiok226, ⟨tiok225, trivial, trivial⟩, trivial⟩, ⟨tiok230, ⟨tiok229, trivial, trivial⟩, trivial⟩⟩, ⟨tiok234, ⟨tiok233, ⟨tiok232, trivial, trivial⟩, trivial⟩, ⟨tiok236, ⟨tiok235, trivial, trivial⟩, trivial⟩⟩⟩⟩⟩⟩⟩
end Go.Proofs.YtfdmlccbfbiloaaGreatDoor
namespace Go.Proofs.YtfdmlccbfbiloaaGreatDoor
open Go Go.Proofs.YtfdmlccbfbiloaaGreatDoor.Vs
variable [Gl]
set_option linter.unusedSectionVars false

/-! #### bytes -/
def isBlank (x : Int) : Bool := x == 32 || x == 9
def isLetter (x : Int) : Bool := (decide (97 ≤ x) && decide (x ≤ 122)) || (decide (65 ≤ x) && decide (x ≤ 90))
def isDigit (x : Int) : Bool := decide (48 ≤ x) && decide (x ≤ 57)
def isVisible (x : Int) : Bool := (decide (32 ≤ x) && decide (x ≤ 126)) || x == 9
def tokenMarks : List UInt8 := [33, 35, 36, 37, 38, 39, 42, 43, 45, 46, 94, 95, 124, 126, 96]
def isMark (x : Int) : Bool := tokenMarks.any fun b => x == (b.toNat : Int)
def isToken (x : Int) : Bool := isLetter x || isDigit x || isMark x

theorem l1Blank_c (x : Int) : VC Tryz.prog 162 [.val (.int .u8 x)] (.val (.bool (isBlank x))) := by
  refine VC.intro hΘ Tryz.func162 rfl rfl Tryz.ntmps162 rfl rfl rfl fun B hB => ?_
  (conv => whnf)
  repeat' first
    | (refine brm_intro (fun _ => ?_) (fun _ => ?_) <;> (conv => whnf))
    | refine vfin_bool (Bool.eq_iff_iff.2 ?_)
  all_goals (simp [isBlank] at *; try omega)
theorem isDigit_c (x : Int) : VC Tryz.prog 121 [.val (.int .u8 x)] (.val (.bool (isDigit x))) := by
  refine VC.intro hΘ Tryz.func121 rfl rfl Tryz.ntmps121 rfl rfl rfl fun B hB => ?_
  (conv => whnf)
  repeat' first
    | (refine brm_intro (fun _ => ?_) (fun _ => ?_) <;> (conv => whnf))
    | refine vfin_bool (Bool.eq_iff_iff.2 ?_)
  all_goals (simp [isDigit] at *; try omega)
theorem isVisible_c (x : Int) : VC Tryz.prog 163 [.val (.int .u8 x)] (.val (.bool (isVisible x))) := by
  refine VC.intro hΘ Tryz.func163 rfl rfl Tryz.ntmps163 rfl rfl rfl fun B hB => ?_
  (conv => whnf)
  repeat' first
    | (refine brm_intro (fun _ => ?_) (fun _ => ?_) <;> (conv => whnf))
    | refine vfin_bool (Bool.eq_iff_iff.2 ?_)
  all_goals (simp [isVisible] at *; try omega)
theorem isLetter_c (x : Int) : VC Tryz.prog 169 [.val (.int .u8 x)] (.val (.bool (isLetter x))) := by
  refine VC.intro hΘ Tryz.func169 rfl rfl Tryz.ntmps169 rfl rfl rfl fun B hB => ?_
  (conv => whnf)
  repeat' first
    | (refine brm_intro (fun _ => ?_) (fun _ => ?_) <;> (conv => whnf))
    | refine vfin_bool (Bool.eq_iff_iff.2 ?_)
  all_goals (simp [isLetter] at *; try omega)
theorem l1Token_c (x : Int) : VC Tryz.prog 165 [.val (.int .u8 x)] (.val (.bool (isToken x))) := by
  refine VC.intro' hΘ Tryz.func165 rfl rfl Tryz.ntmps165 rfl rfl rfl fun B hB => ?_
  refine vsem_seq (vsem_code hΘ hB ?_)
  (conv => whnf)
  refine vsem_seq (vsem_block ?_)
  refine vsem_seq (vsem_cut (ι := Unit) (fun _ => ⟨[(0, .val (.int .u8 x)), (5, .val (.bool (isLetter x || isDigit x)))], []⟩) (fun _ => True) (vsem_code hΘ hB ?_) ?_)
  · (conv => whnf)
    repeat' refine brm_intro (fun _ => ?_) (fun _ => ?_) <;> (conv => whnf)
    all_goals refine ⟨(), ⟨⟨.inr rfl, .inr (vbool_eq (Bool.eq_iff_iff.2 ?_)), trivial⟩, trivial⟩, trivial⟩
    all_goals (simp [isLetter, isDigit] at *; try omega)
  intro _ _
  refine vsem_code hΘ hB ?_
  (conv => whnf)
  refine brm_intro (fun h => ?_) (fun h => ?_) <;> (conv => whnf)
  · refine vfin_bool ?_
    rw [isToken, h]; rfl
  refine vsem_code hΘ hB ?_
  (conv => whnf)
  have hmk : [[C.v (.int .u8 33)], [C.v (.int .u8 35)], [C.v (.int .u8 36)], [C.v (.int .u8 37)], [C.v (.int .u8 38)], [C.v (.int .u8 39)], [C.v (.int .u8 42)], [C.v (.int .u8 43)], [C.v (.int .u8 45)], [C.v (.int .u8 46)], [C.v (.int .u8 94)], [C.v (.int .u8 95)], [C.v (.int .u8 124)], [C.v (.int .u8 126)], [C.v (.int .u8 96)]] = bytesC tokenMarks := by simp [bytesC, tokenMarks]
  have hlen : (bytesC tokenMarks).length = 15 := rfl
  refine vloop_intro hΘ hB (ι := Nat) (fun i => ⟨[(0, .val (.int .u8 x)), (28, .own 1 (bytesC tokenMarks)), (29, .hd (.sl 28 0 0)), (30, .val (.int .i64 15)), (31, .val (.int .i64 i))], []⟩)
    (fun i => i ≤ 15 ∧ (tokenMarks.drop i).any (fun b => x == (b.toNat : Int)) = isMark x) (fun i => 15 - i) 0 ⟨⟨.inr rfl, .inr (vown_eq hmk), .inr rfl, .inr rfl, .inr rfl, trivial⟩, trivial⟩ ⟨by omega, rfl⟩ ?_
  rintro i ⟨k1, k2⟩
  (conv => whnf)
  refine brm_intro (fun h' => ?_) (fun h' => ?_) <;> simp only [decide_eq_true_eq, decide_eq_false_iff_not] at h' <;> (conv => whnf)
  · have hi : i < tokenMarks.length := by show i < 15; omega
    refine vix_intro i rfl (by rw [hlen]; exact hi) ?_
    (conv => whnf)
    rw [List.drop_eq_getElem_cons hi] at k2
    have hg : tokenMarks[i]? = some tokenMarks[i] := List.getElem?_eq_getElem hi
    generalize tokenMarks[i] = b at k2 hg
    refine vat_intro i [C.v (.int .u8 b.toNat)] rfl (by rw [bytesC, List.getElem?_map, hg]; rfl) ?_
    (conv => whnf)
    refine brm_intro (fun h2 => ?_) (fun h2 => ?_) <;> (conv => whnf)
    · refine vfin_bool ?_
      simp only [List.any_cons] at k2
      have : (x == (b.toNat : Int)) = true := by simp at h2 ⊢; omega
      rw [this, Bool.true_or] at k2
      rw [isToken, ← k2, Bool.or_true]
    · simp only [List.any_cons] at k2
      have : (x == (b.toNat : Int)) = false := by simp at h2 ⊢; omega
      rw [this, Bool.false_or] at k2
      exact ⟨i + 1, ⟨⟨.inr rfl, .inr rfl, .inr rfl, .inr rfl, .inr (vint_eq (by simp (disch := omega) only [wrap_i64]; rfl)), trivial⟩, trivial⟩, ⟨by omega, k2⟩, by omega⟩
  · refine vfin_bool ?_
    have : tokenMarks.drop i = [] := List.drop_eq_nil_of_le (by show 15 ≤ i; omega)
    rw [this] at k2
    rw [isToken, h, ← k2]; rfl
end Go.Proofs.YtfdmlccbfbiloaaGreatDoor
namespace Go.Proofs.YtfdmlccbfbiloaaGreatDoor
open Go Go.Proofs.YtfdmlccbfbiloaaGreatDoor.Vs
variable [Gl]
set_option linter.unusedSectionVars false

/-! #### texts -/
theorem byteAt_get {l : List UInt8} {i : Nat} {b : UInt8} (h : l[i]? = some b) : byteAt l i = (b.toNat : Int) := by
  simp [byteAt, List.getD_eq_getElem?_getD, h]
def tokenOk (l : List UInt8) : Bool := (decide (1 ≤ l.length) && decide (l.length ≤ 64)) && l.all fun b => isToken b.toNat
def visibleOk (l : List UInt8) : Bool := decide (l.length ≤ 400) && l.all fun b => isVisible b.toNat
def lowerB (b : UInt8) : UInt8 := if 65 ≤ b.toNat ∧ b.toNat ≤ 90 then b + 32 else b
def lower (l : List UInt8) : List UInt8 := l.map lowerB
def blankB (b : UInt8) : Bool := isBlank b.toNat
def trimL (l : List UInt8) : List UInt8 := l.dropWhile blankB
def trimR (l : List UInt8) : List UInt8 := (l.reverse.dropWhile blankB).reverse
def trimmed (l : List UInt8) : List UInt8 := trimR (trimL l)

theorem tokenOkS_c (s : ByteArray) (hs : (sb s).length ≤ 140737488355328) : VC Tryz.prog 135 [.val (.string s)] (.val (.bool (tokenOk (sb s)))) := by
  refine VC.intro hΘ Tryz.func135 rfl rfl Tryz.ntmps135 rfl rfl rfl fun B hB => ?_
  generalize hl : sb s = l at *
  (conv => whnf)
  refine brm_intro (fun h => ?_) (fun h => ?_) <;> (conv => whnf) <;> rw [hl] at h <;> simp only [decide_eq_true_eq, decide_eq_false_iff_not] at h
  · refine vfin_bool ?_
    have : ¬ 1 ≤ l.length := by omega
    simp [tokenOk, this]
  refine brm_intro (fun h' => ?_) (fun h' => ?_) <;> (conv => whnf) <;> rw [hl] at h' <;> simp only [decide_eq_true_eq, decide_eq_false_iff_not] at h'
  · refine vfin_bool ?_
    have : ¬ l.length ≤ 64 := by omega
    simp [tokenOk, this]
  have hT : tokenOk l = l.all fun b => isToken b.toNat := by
    have h1 : 1 ≤ l.length := by omega
    have h2 : l.length ≤ 64 := by omega
    simp [tokenOk, h1, h2]
  rw [hT]
  refine vloop_intro hΘ hB (ι := Nat) (fun i => ⟨[(0, .val (.string s)), (3, .val (.int .i64 i))], []⟩) (fun i => i ≤ l.length ∧ (l.drop i).all (fun b => isToken b.toNat) = l.all fun b => isToken b.toNat) (fun i => l.length - i) 0
    ⟨⟨.inr rfl, .inr rfl, trivial⟩, trivial⟩ ⟨by omega, rfl⟩ ?_
  rintro i ⟨k1, k2⟩
  (conv => whnf)
  refine brm_intro (fun h => ?_) (fun h => ?_) <;> (conv => whnf) <;> rw [hl] at h <;> simp only [decide_eq_true_eq, decide_eq_false_iff_not] at h
  · have hi : i < l.length := by omega
    refine vix_intro i rfl (by rw [hl]; exact hi) ?_
    rw [List.drop_eq_getElem_cons hi, List.all_cons] at k2
    have hg := byteAt_get (List.getElem?_eq_getElem hi)
    generalize l[i] = b at k2 hg
    (conv => whnf)
    refine vcallS_intro0 rfl (l1Token_c (byteAt (sb s) i)) (f1 (av rfl) f0) ?_
    (conv => whnf)
    rw [hl, hg]
    refine brm_intro (fun h2 => ?_) (fun h2 => ?_) <;> (conv => whnf)
    · refine vfin_bool ?_
      simp only [Bool.not_eq_true'] at h2
      rw [h2, Bool.false_and] at k2
      exact k2
    · simp only [Bool.not_eq_false'] at h2
      rw [h2, Bool.true_and] at k2
      exact ⟨i + 1, ⟨⟨.inr rfl, .inr (vint_eq (by simp (disch := omega) only [wrap_i64]; rfl)), trivial⟩, trivial⟩, ⟨by omega, k2⟩, by omega⟩
  · refine vfin_bool ?_
    have : l.drop i = [] := List.drop_eq_nil_of_le (by omega)
    rw [this] at k2
    exact k2
end Go.Proofs.YtfdmlccbfbiloaaGreatDoor
namespace Go.Proofs.YtfdmlccbfbiloaaGreatDoor
open Go Go.Proofs.YtfdmlccbfbiloaaGreatDoor.Vs
variable [Gl]
set_option linter.unusedSectionVars false

theorem visibleOkS_c (s : ByteArray) (hs : (sb s).length ≤ 140737488355328) : VC Tryz.prog 123 [.val (.string s)] (.val (.bool (visibleOk (sb s)))) := by
  refine VC.intro hΘ Tryz.func123 rfl rfl Tryz.ntmps123 rfl rfl rfl fun B hB => ?_
  generalize hl : sb s = l at *
  (conv => whnf)
  refine brm_intro (fun h => ?_) (fun h => ?_) <;> (conv => whnf) <;> rw [hl] at h <;> simp only [decide_eq_true_eq, decide_eq_false_iff_not] at h
  · refine vfin_bool ?_
    have : ¬ l.length ≤ 400 := by omega
    simp [visibleOk, this]
  have hT : visibleOk l = l.all fun b => isVisible b.toNat := by
    have h2 : l.length ≤ 400 := by omega
    simp [visibleOk, h2]
  rw [hT]
  refine vloop_intro hΘ hB (ι := Nat) (fun i => ⟨[(0, .val (.string s)), (3, .val (.int .i64 i))], []⟩) (fun i => i ≤ l.length ∧ (l.drop i).all (fun b => isVisible b.toNat) = l.all fun b => isVisible b.toNat) (fun i => l.length - i) 0
    ⟨⟨.inr rfl, .inr rfl, trivial⟩, trivial⟩ ⟨by omega, rfl⟩ ?_
  rintro i ⟨k1, k2⟩
  (conv => whnf)
  refine brm_intro (fun h => ?_) (fun h => ?_) <;> (conv => whnf) <;> rw [hl] at h <;> simp only [decide_eq_true_eq, decide_eq_false_iff_not] at h
  · have hi : i < l.length := by omega
    have hi' : i < (sb s).length := by rw [hl]; exact hi
    rw [List.drop_eq_getElem_cons hi, List.all_cons] at k2
    have hg := byteAt_get (List.getElem?_eq_getElem hi)
    generalize l[i] = b at k2 hg
    rw [← hl] at hg
    repeat' first
      | (refine vix_intro i rfl hi' ?_; (conv => whnf))
      | (refine brm_intro (fun _ => ?_) (fun _ => ?_) <;> (conv => whnf))
    all_goals (simp only [hg, decide_eq_true_eq, decide_eq_false_iff_not, bne_iff_ne, ne_eq, bne_eq_false_iff_eq] at *)
    all_goals first
      | (have hv : isVisible b.toNat = false := by (simp [isVisible]; omega)
         refine vfin_bool ?_
         rw [hv, Bool.false_and] at k2; exact k2)
      | (have hv : isVisible b.toNat = true := by (simp [isVisible]; omega)
         rw [hv, Bool.true_and] at k2
         exact ⟨i + 1, ⟨⟨.inr rfl, .inr (vint_eq (by simp (disch := omega) only [wrap_i64]; rfl)), trivial⟩, trivial⟩, ⟨by omega, k2⟩, by omega⟩)
  · refine vfin_bool ?_
    have : l.drop i = [] := List.drop_eq_nil_of_le (by omega)
    rw [this] at k2
    exact k2
theorem trimmedS_c (s : ByteArray) (hs : (sb s).length ≤ 140737488355328) : VC Tryz.prog 124 [.val (.string s)] (.val (.string (bs (trimmed (sb s))))) := by
  refine VC.intro' hΘ Tryz.func124 rfl rfl Tryz.ntmps124 rfl rfl rfl fun B hB => ?_
  refine vsem_seq (vsem_code hΘ hB ?_)
  (conv => whnf)
  refine vsem_seq (vsem_cut (ι := Unit) (fun _ => ⟨[(0, .val (.string (bs (trimL (sb s)))))], []⟩) (fun _ => True) (vsem_code hΘ hB ?_) ?_)
  · (conv => whnf)
    refine vloop_intro hΘ hB (ι := List UInt8) (fun l => ⟨[(0, .val (.string (bs l)))], []⟩) (fun l => l.length ≤ 140737488355328 ∧ trimL l = trimL (sb s)) (fun l => l.length) (sb s)
      ⟨⟨.inr rfl, trivial⟩, trivial⟩ ⟨hs, rfl⟩ ?_
    rintro (_ | ⟨b, r⟩) ⟨k1, k2⟩ <;> (conv => whnf)
    · exact ⟨(), ⟨⟨.inr (vstr_eq (congrArg bs k2)), trivial⟩, trivial⟩, trivial⟩
    · refine vix_intro 0 rfl (Nat.succ_pos _) ?_
      (conv => whnf)
      refine vcallS_intro0 rfl (l1Blank_c b.toNat) (f1 (av rfl) f0) ?_
      (conv => whnf)
      refine brm_intro (fun h => ?_) (fun h => ?_) <;> (conv => whnf)
      · refine vrange_intro 1 (r.length + 1) rfl rfl (by omega) (Nat.le_refl _) ?_
        (conv => whnf)
        refine ⟨r, ⟨⟨.inr (vstr_eq (congrArg bs ?_)), trivial⟩, trivial⟩, ⟨by simp at k1; omega, ?_⟩, by simp⟩
        · show (r.take (r.length + 1 - 1)) = r
          simp
        · rw [← k2]
          have hb : blankB b = true := h
          simp [trimL, hb]
      · refine ⟨(), ⟨⟨.inr (vstr_eq (congrArg bs ?_)), trivial⟩, trivial⟩, trivial⟩
        rw [← k2]
        have hb : blankB b = false := h
        show b :: r = _
        simp [trimL, hb]
  intro _ _
  refine vsem_code hΘ hB ?_
  (conv => whnf)
  have htl : (trimL (sb s)).length ≤ 140737488355328 := Nat.le_trans (List.dropWhile_sublist _).length_le hs
  refine vloop_intro hΘ hB (ι := List UInt8) (fun m => ⟨[(0, .val (.string (bs m.reverse)))], []⟩) (fun m => m.length ≤ 140737488355328 ∧ m.dropWhile blankB = (trimL (sb s)).reverse.dropWhile blankB) (fun m => m.length) (trimL (sb s)).reverse
    ⟨⟨.inr (vstr_eq (congrArg bs (List.reverse_reverse _).symm)), trivial⟩, trivial⟩ ⟨by simpa using htl, rfl⟩ ?_
  rintro m ⟨k1, k2⟩
  (conv => whnf)
  refine brm_intro (fun h => ?_) (fun h => ?_) <;> (conv => whnf) <;> simp only [sb_bs] at h
  · match m, h, k1, k2 with
    | [], h, _, _ => exact absurd h (by decide)
    | b :: r, _, k1, k2 =>
      have hlen : (sb (bs (b :: r).reverse)).length = r.length + 1 := by rw [sb_bs]; simp
      have hw : IntKind.i64.wrap (((sb (bs (b :: r).reverse)).length : Int) - 1) = (r.length : Int) := by
        rw [hlen]; simp at k1; rw [wrap_i64 (by omega) (by omega)]; omega
      refine vix_intro r.length hw (by rw [hlen]; omega) ?_
      have hb : byteAt (sb (bs (b :: r).reverse)) r.length = (b.toNat : Int) := byteAt_get (by rw [sb_bs]; simp)
      (conv => whnf)
      refine vcallS_intro0 rfl (l1Blank_c (byteAt (sb (bs (b :: r).reverse)) r.length)) (f1 (av rfl) f0) ?_
      (conv => whnf)
      rw [hb]
      refine brm_intro (fun h => ?_) (fun h => ?_) <;> (conv => whnf)
      · refine vrange_intro 0 r.length rfl hw (by omega) (by rw [hlen]; omega) ?_
        (conv => whnf)
        refine ⟨r, ⟨⟨.inr (vstr_eq (congrArg bs ?_)), trivial⟩, trivial⟩, ⟨by simp at k1; omega, ?_⟩, by simp⟩
        · rw [sb_bs]; simp
        · rw [← k2]
          have hb : blankB b = true := h
          simp [hb]
      · refine vfin_str (congrArg bs ?_)
        have hb : blankB b = false := h
        rw [trimmed, trimR, ← k2]
        simp [hb]
  · refine vfin_str (congrArg bs ?_)
    match m, h, k2 with
    | b :: r, h, _ => exfalso; simp at h; have := congrArg List.length h; simp [sb] at this
    | [], _, k2 => rw [trimmed, trimR, ← k2]; rfl
end Go.Proofs.YtfdmlccbfbiloaaGreatDoor
namespace Go.Proofs.YtfdmlccbfbiloaaGreatDoor
open Go Go.Proofs.YtfdmlccbfbiloaaGreatDoor.Vs
variable [Gl]
set_option linter.unusedSectionVars false

theorem lower_step {l : List UInt8} {i : Nat} {b : UInt8} (h : l[i]? = some b) : (lower (l.take i) ++ l.drop i).set i (lowerB b) = lower (l.take (i + 1)) ++ l.drop (i + 1) := by
  have hi := (List.getElem?_eq_some_iff.1 h).1
  have hb := (List.getElem?_eq_some_iff.1 h).2
  rw [List.drop_eq_getElem_cons hi, List.take_succ_eq_append_getElem hi]
  have hlen : (lower (l.take i)).length = i := by simp [lower]; omega
  rw [List.set_append_right _ _ (by omega), hlen, Nat.sub_self, List.set_cons_zero]
  simp [lower, hb]
theorem lower_id {l : List UInt8} {i : Nat} {b : UInt8} (h : l[i]? = some b) (hb : lowerB b = b) : lower (l.take i) ++ l.drop i = lower (l.take (i + 1)) ++ l.drop (i + 1) := by
  rw [← lower_step h, hb]
  have hi := (List.getElem?_eq_some_iff.1 h).1
  have hlen : (lower (l.take i)).length = i := by simp [lower]; omega
  apply List.ext_getElem?
  intro k
  rw [List.getElem?_set]
  split
  · rename_i e
    subst e
    rw [if_pos (by simp [hlen]; omega), List.getElem?_append_right (by omega), hlen, Nat.sub_self, List.getElem?_drop, Nat.add_zero]
    exact h
  · rfl
theorem lower_at {l : List UInt8} {i : Nat} {b : UInt8} (h : l[i]? = some b) : (lower (l.take i) ++ l.drop i)[i]? = some b := by
  have hi := (List.getElem?_eq_some_iff.1 h).1
  have hlen : (lower (l.take i)).length = i := by simp [lower]; omega
  rw [List.getElem?_append_right (by omega), hlen, Nat.sub_self, List.getElem?_drop, Nat.add_zero]; exact h
theorem bytesC_at {l : List UInt8} {i : Nat} {b : UInt8} (h : l[i]? = some b) : (bytesC l)[i]? = some [C.v (.int .u8 b.toNat)] := by
  rw [bytesC, List.getElem?_map, h]; rfl
theorem bytesC_set {l : List UInt8} {i : Nat} {b : UInt8} : (bytesC l).set i [C.v (.int .u8 b.toNat)] = bytesC (l.set i b) := by
  rw [bytesC, bytesC, List.map_set]
theorem bytesC_len {l : List UInt8} : (bytesC l).length = l.length := by simp [bytesC]

theorem lowerB_id {b : UInt8} (h : ¬ (65 ≤ b.toNat ∧ b.toNat ≤ 90)) : lowerB b = b := by rw [lowerB, if_neg h]
theorem lowerB_up {b : UInt8} (h : 65 ≤ b.toNat) (h' : b.toNat ≤ 90) : ((lowerB b).toNat : Int) = (b.toNat : Int) + 32 := by
  rw [lowerB, if_pos ⟨h, h'⟩, UInt8.toNat_add]
  have : (32 : UInt8).toNat = 32 := rfl
  rw [this]
  omega
theorem lowerS_c (s : ByteArray) (hs : (sb s).length ≤ 140737488355328) : VC Tryz.prog 104 [.val (.string s)] (.val (.string (bs (lower (sb s))))) := by
  refine VC.intro hΘ Tryz.func104 rfl rfl Tryz.ntmps104 rfl rfl rfl fun B hB => ?_
  (conv => whnf)
  refine vreq_intro hs ?_
  (conv => whnf)
  generalize hl : sb s = l at *
  refine vloop_intro hΘ hB (ι := Nat) (fun i => ⟨[(3, .own 1 (bytesC (lower (l.take i) ++ l.drop i))), (4, .val (.int .i64 i))], []⟩) (fun i => i ≤ l.length) (fun i => l.length - i) 0
    ⟨⟨.inr rfl, .inr rfl, trivial⟩, trivial⟩ (Nat.zero_le _) ?_
  rintro i k1
  have hlen : (bytesC (lower (l.take i) ++ l.drop i)).length = l.length := by rw [bytesC_len]; simp [lower]; omega
  (conv => whnf)
  refine brm_intro (fun h => ?_) (fun h => ?_) <;> (conv => whnf) <;> rw [hlen] at h <;> simp only [decide_eq_true_eq, decide_eq_false_iff_not] at h
  · have hi : i < l.length := by omega
    have hg : l[i]? = some l[i] := List.getElem?_eq_getElem hi
    generalize l[i] = b at hg
    have hat := bytesC_at (lower_at hg)
    have hlt : i < (bytesC (lower (l.take i) ++ l.drop i)).length := by omega
    repeat' first
      | (refine vix_intro i rfl hlt ?_; (conv => whnf))
      | (refine vat_intro i _ rfl hat ?_; (conv => whnf))
      | (refine brm_intro (fun _ => ?_) (fun _ => ?_) <;> (conv => whnf))
    all_goals (simp only [decide_eq_true_eq, decide_eq_false_iff_not] at *)
    all_goals first
      | (have hb : lowerB b = b := lowerB_id (by omega)
         exact ⟨i + 1, ⟨⟨.inr (vown_eq (congrArg bytesC (lower_id hg hb))), .inr (vint_eq (by simp (disch := omega) only [wrap_i64]; rfl)), trivial⟩, trivial⟩, hi, by omega⟩)
      | (have hb := lowerB_up (b := b) (by omega) (by omega)
         refine ⟨i + 1, ⟨⟨.inr (vown_eq ?_), .inr (vint_eq (by simp (disch := omega) only [wrap_i64]; rfl)), trivial⟩, trivial⟩, hi, by omega⟩
         show (bytesC _).set i [C.v (.int .u8 (IntKind.u8.wrap ((b.toNat : Int) + 32)))] = _
         rw [wrap_u8 (by omega) (by omega), ← hb, bytesC_set, lower_step hg])
  · refine vbytes_intro _ rfl ?_
    (conv => whnf)
    refine vfin_str (congrArg bs ?_)
    have : i = l.length := by omega
    subst this
    simp
end Go.Proofs.YtfdmlccbfbiloaaGreatDoor
namespace Go.Proofs.YtfdmlccbfbiloaaGreatDoor
open Go Go.Proofs.YtfdmlccbfbiloaaGreatDoor.Vs
variable [Gl]
set_option linter.unusedSectionVars false

/-! #### fields -/
abbrev Fd := ByteArray × ByteArray
def encF (p : Fd) : List C := [.v (.string p.1), .v (.string p.2)]
def valF (p : Fd) : V := .agg [.val (.string p.1), .val (.string p.2)]
def fieldOk (p : Fd) : Bool := (tokenOk (sb p.1) && visibleOk (sb p.2)) && trimmed (sb p.2) == sb p.2
def szOk (p : Fd) : Prop := (sb p.1).length ≤ 140737488355328 ∧ (sb p.2).length ≤ 140737488355328
def fieldsOk (l : List Fd) : Bool := decide (l.length ≤ 30) && l.all fieldOk
theorem mixed : Tryz.prog.follows .mixedOrders = true := by kernel_rfl

theorem l4Field_c (p : Fd) (hp : szOk p) : VC Tryz.prog 100 [valF p] (.val (.bool (fieldOk p))) := by
  refine VC.intro hΘ Tryz.func100 rfl rfl Tryz.ntmps100 rfl rfl rfl fun B hB => ?_
  (conv => whnf)
  refine vdraw_intro hΘ hB mixed (by kernel_rfl) ?_
  (conv => whnf)
  refine vcallQ_intro0 rfl (tokenOkS_c p.1 hp.1) (f1 (av rfl) f0) rfl ?_
  (conv => whnf)
  refine brm_intro (fun h => ?_) (fun h => ?_) <;> (conv => whnf)
  · refine vcallQ_intro0 rfl (visibleOkS_c p.2 hp.2) (f1 (av rfl) f0) rfl ?_
    (conv => whnf)
    refine brm_intro (fun h' => ?_) (fun h' => ?_) <;> (conv => whnf)
    · refine vcallQ_intro0 rfl (trimmedS_c p.2 hp.2) (f1 (av rfl) f0) rfl ?_
      (conv => whnf)
      refine vfin_bool ?_
      rw [fieldOk, h, h']
      rfl
    · refine vfin_bool ?_
      rw [fieldOk, h, h']
      rfl
  · refine vfin_bool ?_
    rw [fieldOk, h]
    rfl
theorem fieldsOkS_c (xs : List Fd) (hx : ∀ x ∈ xs, szOk x) (hl : xs.length ≤ 140737488355328) : VC Tryz.prog 63 [.rd none (.sl true 2 (xs.map encF))] (.val (.bool (fieldsOk xs))) := by
  refine VC.intro hΘ Tryz.func63 rfl rfl Tryz.ntmps63 rfl rfl rfl fun B hB => ?_
  (conv => whnf)
  refine brm_intro (fun h => ?_) (fun h => ?_) <;> (conv => whnf) <;> rw [List.length_map] at h <;> simp only [decide_eq_true_eq, decide_eq_false_iff_not] at h
  · refine vfin_bool ?_
    have : ¬ xs.length ≤ 30 := by omega
    simp [fieldsOk, this]
  have hT : fieldsOk xs = xs.all fieldOk := by
    have h2 : xs.length ≤ 30 := by omega
    simp [fieldsOk, h2]
  rw [hT]
  refine vloop_intro hΘ hB (ι := Nat) (fun i => ⟨[(0, .rd none (.sl true 2 (xs.map encF))), (3, .val (.int .i64 i))], []⟩) (fun i => i ≤ xs.length ∧ (xs.drop i).all fieldOk = xs.all fieldOk) (fun i => xs.length - i) 0
    ⟨⟨.inr rfl, .inr rfl, trivial⟩, trivial⟩ ⟨by omega, rfl⟩ ?_
  rintro i ⟨k1, k2⟩
  (conv => whnf)
  refine brm_intro (fun h => ?_) (fun h => ?_) <;> (conv => whnf) <;> rw [List.length_map] at h <;> simp only [decide_eq_true_eq, decide_eq_false_iff_not] at h
  · have hi : i < xs.length := by omega
    rw [List.drop_eq_getElem_cons hi, List.all_cons] at k2
    have hm : xs[i] ∈ xs := List.getElem_mem hi
    have hg : xs[i]? = some xs[i] := List.getElem?_eq_getElem hi
    generalize xs[i] = x at k2 hm hg
    refine vat_intro i (encF x) rfl (by rw [List.getElem?_map, hg]; rfl) ?_
    (conv => whnf)
    refine vcallS_intro0 rfl (l4Field_c x (hx x hm)) (f1 (fa (l1 (fv rfl) (l1 (fv rfl) l0))) f0) ?_
    (conv => whnf)
    refine brm_intro (fun h2 => ?_) (fun h2 => ?_) <;> (conv => whnf)
    · refine vfin_bool ?_
      simp only [Bool.not_eq_true'] at h2
      rw [h2, Bool.false_and] at k2
      exact k2
    · simp only [Bool.not_eq_false'] at h2
      rw [h2, Bool.true_and] at k2
      exact ⟨i + 1, ⟨⟨.inr rfl, .inr (vint_eq (by simp (disch := omega) only [wrap_i64]; rfl)), trivial⟩, trivial⟩, ⟨by omega, k2⟩, by omega⟩
  · refine vfin_bool ?_
    have : xs.drop i = [] := List.drop_eq_nil_of_le (by omega)
    rw [this] at k2
    exact k2
end Go.Proofs.YtfdmlccbfbiloaaGreatDoor
namespace Go.Proofs.YtfdmlccbfbiloaaGreatDoor
open Go Go.Proofs.YtfdmlccbfbiloaaGreatDoor.Vs
variable [Gl]
set_option linter.unusedSectionVars false

def comma : List UInt8 := [44, 32]
def hitsOf (n : ByteArray) (xs : List Fd) : List (List UInt8) := (xs.filter fun p => lower (sb p.1) == lower (sb n)).map fun p => sb p.2
theorem hitsOf_cons {n : ByteArray} {p : Fd} {xs : List Fd} : hitsOf n (p :: xs) = (if lower (sb p.1) = lower (sb n) then [sb p.2] else []) ++ hitsOf n xs := by
  unfold hitsOf
  rw [List.filter_cons]
  by_cases h : lower (sb p.1) = lower (sb n) <;> simp [h]
theorem join_snoc {xs : List (List UInt8)} {v sep : List UInt8} (h : xs ≠ []) : Lib.join (xs ++ [v]) sep = Lib.join xs sep ++ sep ++ v := by
  match xs, h with
  | x :: r, _ => rw [List.cons_append, Lib.join_cons, Lib.join_cons]; simp [Lib.joinTail]
theorem join_len {xs : List (List UInt8)} {m : Nat} (h : ∀ x ∈ xs, x.length ≤ m) : (Lib.join xs comma).length ≤ xs.length * (m + 2) := by
  match xs with
  | [] => simp [Lib.join_nil]
  | x :: r =>
    rw [Lib.join_cons, List.length_append]
    have h1 := h x (by simp)
    have h2 : ∀ r : List (List UInt8), (∀ y ∈ r, y.length ≤ m) → (Lib.joinTail comma r).length ≤ r.length * (m + 2) := by
      intro r
      induction r with
      | nil => intro _; simp [Lib.joinTail]
      | cons y r ih =>
        intro hr
        have := ih (fun z hz => hr z (by simp [hz]))
        have hy := hr y (by simp)
        have hc : comma.length = 2 := rfl
        simp only [Lib.joinTail, List.map_cons, List.flatten_cons, List.length_append, List.length_cons, Nat.succ_mul, hc] at this ⊢
        omega
    have := h2 r (fun y hy => h y (by simp [hy]))
    simp only [List.length_cons, Nat.succ_mul]
    omega
/-- what Get answers -/
def getV (xs : List Fd) (n : ByteArray) : V := .tup [.val (.string (bs (Lib.join (hitsOf n xs) comma))), .val (.bool (decide (hitsOf n xs ≠ [])))]

theorem l4GetM_c (m : Nat) (xs : List Fd) (n : ByteArray) (hx : ∀ x ∈ xs, szOk x) (hv : ∀ x ∈ xs, (sb x.2).length ≤ m) (hn : (sb n).length ≤ 140737488355328) (hl : xs.length * (m + 2) ≤ 4222124650659900) (hl9 : xs.length ≤ 140737488355328) : VC Tryz.prog 66 [.rd none (.sl true 2 (xs.map encF)), .val (.string n)] (getV xs n) := by
  refine VC.intro hΘ Tryz.func66 rfl rfl Tryz.ntmps66 rfl rfl rfl fun B hB => ?_
  (conv => whnf)
  refine vloop_intro hΘ hB (ι := Nat × List (List UInt8)) (fun i => ⟨[(0, .rd none (.sl true 2 (xs.map encF))), (1, .val (.string n)), (6, .val (.string (bs (Lib.join i.2 comma)))), (7, .val (.bool (decide (i.2 ≠ [])))), (8, .val (.int .i64 i.1))], []⟩)
    (fun i => i.1 ≤ xs.length ∧ i.2 ++ hitsOf n (xs.drop i.1) = hitsOf n xs ∧ i.2.length ≤ i.1 ∧ ∀ x ∈ i.2, x.length ≤ m) (fun i => xs.length - i.1) (0, [])
    ⟨⟨.inr rfl, .inr rfl, .inr rfl, .inr rfl, .inr rfl, trivial⟩, trivial⟩ ⟨by simp, rfl, by simp, by simp⟩ ?_
  rintro ⟨i, hs⟩ ⟨k1, k2, k3, k4⟩
  simp only at k1 k2 k3 k4
  (conv => whnf)
  refine brm_intro (fun h => ?_) (fun h => ?_) <;> (conv => whnf) <;> rw [List.length_map] at h <;> simp only [decide_eq_true_eq, decide_eq_false_iff_not] at h
  · have hi : i < xs.length := by omega
    rw [List.drop_eq_getElem_cons hi, hitsOf_cons] at k2
    have hm : xs[i] ∈ xs := List.getElem_mem hi
    have hg : xs[i]? = some xs[i] := List.getElem?_eq_getElem hi
    generalize xs[i] = x at k2 hm hg
    have hat : (xs.map encF)[i]? = some (encF x) := by rw [List.getElem?_map, hg]; rfl
    refine vat_intro i (encF x) rfl hat ?_
    (conv => whnf)
    refine vcallS_intro0 rfl (lowerS_c x.1 (hx x hm).1) (f1 (av rfl) f0) ?_
    (conv => whnf)
    refine vcallS_intro0 rfl (lowerS_c n hn) (f1 (av rfl) f0) ?_
    (conv => whnf)
    have hstep : IntKind.i64.wrap ((i : Int) + 1) = ((i + 1 : Nat) : Int) := by rw [wrap_i64 (by omega) (by omega)]; rfl
    have hjl := join_len k4
    have hjl' : (Lib.join hs comma).length ≤ 4222124650659900 := Nat.le_trans hjl (Nat.le_trans (Nat.mul_le_mul_right _ (by omega)) hl)
    refine brm_intro (fun h2 => ?_) (fun h2 => ?_) <;> (conv => whnf) <;> simp only [sb_bs] at h2
    · have : ¬ lower (sb x.1) = lower (sb n) := by simpa using h2
      rw [if_neg this] at k2
      exact ⟨(i + 1, hs), ⟨⟨.inr rfl, .inr rfl, .inr rfl, .inr rfl, .inr (vint_eq hstep), trivial⟩, trivial⟩, ⟨hi, k2, by simp; omega, k4⟩, by simp; omega⟩
    · have : lower (sb x.1) = lower (sb n) := by simpa using h2
      rw [if_pos this, ← List.append_assoc] at k2
      have k4' : ∀ y ∈ hs ++ [sb x.2], y.length ≤ m := by
        intro y hy
        rcases List.mem_append.1 hy with hy | hy
        · exact k4 y hy
        · simp at hy; rw [hy]; exact hv x hm
      refine brm_intro (fun h3 => ?_) (fun h3 => ?_) <;> (conv => whnf) <;> simp only [decide_eq_true_eq, decide_eq_false_iff_not] at h3
      · refine vreq_intro (by rw [sb_bs]; simp [sb, cap63]; omega) ?_
        (conv => whnf)
        refine vat_intro i (encF x) rfl hat ?_
        (conv => whnf)
        have := (hx x hm).2
        refine vreq_intro (by rw [sb_bs, sb_bs]; simp [sb, cap63] at *; omega) ?_
        (conv => whnf)
        refine ⟨(i + 1, hs ++ [sb x.2]), ⟨⟨.inr rfl, .inr rfl, .inr (vstr_eq (congrArg bs ?_)), .inr (vbool_eq ?_), .inr (vint_eq hstep), trivial⟩, trivial⟩, ⟨hi, k2, by simp; omega, k4'⟩, by simp; omega⟩
        · rw [join_snoc h3]; rfl
        · simp
      · have h3 : hs = [] := by simpa using h3
        subst h3
        refine vat_intro i (encF x) rfl hat ?_
        (conv => whnf)
        have := (hx x hm).2
        refine vreq_intro (by rw [sb_bs]; simp [cap63, Lib.join_nil] at *; omega) ?_
        (conv => whnf)
        refine ⟨(i + 1, [sb x.2]), ⟨⟨.inr rfl, .inr rfl, .inr (vstr_eq (congrArg bs ?_)), .inr (vbool_eq ?_), .inr (vint_eq hstep), trivial⟩, trivial⟩, ⟨hi, k2, by simp, k4'⟩, by simp; omega⟩
        · rw [Lib.join_one]; rfl
        · simp
  · have : xs.drop i = [] := List.drop_eq_nil_of_le (by omega)
    rw [this] at k2
    have : hs = hitsOf n xs := by simpa [hitsOf] using k2
    subst this
    exact vfin_tup2 rfl rfl

theorem l4Get_c (xs : List Fd) (n : ByteArray) (hx : ∀ x ∈ xs, szOk x) (hn : (sb n).length ≤ 140737488355328) (hl : xs.length ≤ 30) : VC Tryz.prog 66 [.rd none (.sl true 2 (xs.map encF)), .val (.string n)] (getV xs n) :=
  l4GetM_c 140737488355328 xs n hx (fun x h => (hx x h).2) hn (Nat.le_trans (Nat.mul_le_mul_right _ hl) (by decide)) (by omega)

def getAll (xs : List Fd) (n : ByteArray) : V := if fieldsOk xs then getV xs n else .tup [.val (.string (bs [])), .val (.bool false)]
theorem toField_c (p : Fd) : VC Tryz.prog 68 [valF p] (valF p) := by
  refine VC.intro hΘ Tryz.func68 rfl rfl Tryz.ntmps68 rfl rfl rfl fun B hB => ?_
  (conv => whnf)
  exact vfin_agg rfl
end Go.Proofs.YtfdmlccbfbiloaaGreatDoor
namespace Go.Proofs.YtfdmlccbfbiloaaGreatDoor
open Go Go.Proofs.YtfdmlccbfbiloaaGreatDoor.Vs
variable [Gl]
set_option linter.unusedSectionVars false

def zF : Fd := (⟨⟨[]⟩⟩, ⟨⟨[]⟩⟩)
theorem set_app {xs : List Fd} {i : Nat} {x : Fd} (h : xs[i]? = some x) : (xs.take i ++ List.replicate (xs.length - i) zF).set i x = xs.take (i + 1) ++ List.replicate (xs.length - (i + 1)) zF := by
  have hi := (List.getElem?_eq_some_iff.1 h).1
  have hb := (List.getElem?_eq_some_iff.1 h).2
  have e : xs.length - i = (xs.length - (i + 1)) + 1 := by omega
  rw [e, List.replicate_succ, List.take_succ_eq_append_getElem hi]
  have hlen : (xs.take i).length = i := by simp; omega
  rw [List.set_append_right _ _ (by omega), hlen, Nat.sub_self, List.set_cons_zero, hb]
  simp
theorem toFieldS_c (xs : List Fd) (hl : xs.length ≤ 2097152) : VC Tryz.prog 34 [.rd none (.sl true 2 (xs.map encF))] (.own 2 (xs.map encF)) := by
  refine VC.intro hΘ Tryz.func34 rfl rfl Tryz.ntmps34 rfl rfl rfl fun B hB => ?_
  (conv => whnf)
  refine vlenN_intro xs.length (by rw [List.length_map]) (by rw [List.length_map]) (Nat.le_trans (Nat.mul_le_mul_right _ hl) (by decide)) ?_
  (conv => whnf)
  refine vloop_intro hΘ hB (ι := Nat) (fun i => ⟨[(0, .rd none (.sl true 2 (xs.map encF))), (3, .own 2 ((xs.take i ++ List.replicate (xs.length - i) zF).map encF)), (4, .val (.int .i64 i))], []⟩)
    (fun i => i ≤ xs.length) (fun i => xs.length - i) 0 ⟨⟨.inr rfl, .inr (vown_eq ?_), .inr rfl, trivial⟩, trivial⟩ (Nat.zero_le _) ?_
  · rw [List.take_zero, List.nil_append, List.map_replicate]; rfl
  rintro i k1
  have hlen : ((xs.take i ++ List.replicate (xs.length - i) zF).map encF).length = xs.length := by simp; omega
  (conv => whnf)
  refine brm_intro (fun h => ?_) (fun h => ?_) <;> (conv => whnf) <;> rw [List.length_map] at h <;> simp only [decide_eq_true_eq, decide_eq_false_iff_not] at h
  · have hi : i < xs.length := by omega
    have hg : xs[i]? = some xs[i] := List.getElem?_eq_getElem hi
    generalize xs[i] = x at hg
    refine vat_intro i (encF x) rfl (by rw [List.getElem?_map, hg]; rfl) ?_
    (conv => whnf)
    refine vcallS_intro0 rfl (toField_c x) (f1 (fa (l1 (fv rfl) (l1 (fv rfl) l0))) f0) ?_
    (conv => whnf)
    refine vix_intro i rfl (by rw [hlen]; exact hi) ?_
    (conv => whnf)
    refine ⟨i + 1, ⟨⟨.inr rfl, .inr (vown_eq ?_), .inr (vint_eq (by simp (disch := omega) only [wrap_i64]; rfl)), trivial⟩, trivial⟩, hi, by omega⟩
    rw [← set_app hg, List.map_set]; rfl
  · have : i = xs.length := by omega
    subst this
    refine vfin_own ?_
    simp
end Go.Proofs.YtfdmlccbfbiloaaGreatDoor
namespace Go.Proofs.YtfdmlccbfbiloaaGreatDoor
open Go Go.Proofs.YtfdmlccbfbiloaaGreatDoor.Vs
variable [Gl]
set_option linter.unusedSectionVars false

theorem eqField_c (p q : Fd) : VC Tryz.prog 74 [valF p, valF q] (.val (.bool (sb p.1 == sb q.1 && sb p.2 == sb q.2))) := by
  refine VC.intro hΘ Tryz.func74 rfl rfl Tryz.ntmps74 rfl rfl rfl fun B hB => ?_
  (conv => whnf)
  refine brm_intro (fun h => ?_) (fun h => ?_) <;> (conv => whnf) <;> simp only [Bool.not_eq_true', Bool.not_eq_false'] at h
  · refine vfin_bool ?_
    rw [h]; rfl
  refine brm_intro (fun h' => ?_) (fun h' => ?_) <;> (conv => whnf) <;> simp only [Bool.not_eq_true', Bool.not_eq_false'] at h'
  · refine vfin_bool ?_
    rw [h, h']; rfl
  · refine vfin_bool ?_
    rw [h, h']; rfl
theorem eqFieldS_c (xs : List Fd) (hl : xs.length ≤ 2097152) : VC Tryz.prog 37 [.rd none (.sl true 2 (xs.map encF)), .rd none (.sl true 2 (xs.map encF))] (.val (.bool true)) := by
  refine VC.intro hΘ Tryz.func37 rfl rfl Tryz.ntmps37 rfl rfl rfl fun B hB => ?_
  (conv => whnf)
  refine brm_intro (fun h => ?_) (fun h => ?_) <;> (conv => whnf)
  · exact absurd h (by simp)
  refine vloop_intro hΘ hB (ι := Nat) (fun i => ⟨[(0, .rd none (.sl true 2 (xs.map encF))), (1, .rd none (.sl true 2 (xs.map encF))), (5, .val (.int .i64 i))], []⟩)
    (fun i => i ≤ xs.length) (fun i => xs.length - i) 0 ⟨⟨.inr rfl, .inr rfl, .inr rfl, trivial⟩, trivial⟩ (Nat.zero_le _) ?_
  rintro i k1
  (conv => whnf)
  refine brm_intro (fun h => ?_) (fun h => ?_) <;> (conv => whnf) <;> rw [List.length_map] at h <;> simp only [decide_eq_true_eq, decide_eq_false_iff_not] at h
  · have hi : i < xs.length := by omega
    have hg : xs[i]? = some xs[i] := List.getElem?_eq_getElem hi
    generalize xs[i] = x at hg
    have hat : (xs.map encF)[i]? = some (encF x) := by rw [List.getElem?_map, hg]; rfl
    refine vdraw_intro hΘ hB mixed (by kernel_rfl) ?_
    (conv => whnf)
    refine vat_intro i (encF x) rfl hat ?_
    (conv => whnf)
    refine vat_intro i (encF x) rfl hat ?_
    (conv => whnf)
    refine vcallQ_intro0 rfl (eqField_c x x) (f1 (fa (l1 (fv rfl) (l1 (fv rfl) l0))) (f1 (fa (l1 (fv rfl) (l1 (fv rfl) l0))) f0)) rfl ?_
    (conv => whnf)
    refine brm_intro (fun h2 => ?_) (fun h2 => ?_) <;> (conv => whnf)
    · exact absurd h2 (by simp)
    · exact ⟨i + 1, ⟨⟨.inr rfl, .inr rfl, .inr (vint_eq (by simp (disch := omega) only [wrap_i64]; rfl)), trivial⟩, trivial⟩, hi, by omega⟩
  · exact vfin_bool rfl

/-! #### the program's own side -/
theorem indexByte_c (s : ByteArray) (c : Int) : VC Tryz.prog 170 [.val (.string s), .val (.int .u8 c)] (.val (.int .i64 (Lib.indexByte (sb s) c.toNat.toUInt8))) :=
  VC.of_vals (xs := [.string s, .int .u8 c]) Tryz.func170 rfl rfl rfl fun w => (Tryz.strings_IndexByte s c w).mono fun _ _ ⟨h1, h2⟩ => ⟨h1, h2 ▸ Go.RowKit.Below.refl _ _⟩
theorem indexByte_nonneg (l : List UInt8) (c : UInt8) : decide (Lib.indexByte l c ≥ 0) = l.contains c := by
  induction l with
  | nil => rfl
  | cons b r ih =>
    have hge := Lib.indexByte_ge r c
    rw [Lib.indexByte, List.contains_cons]
    by_cases h : b = c
    · subst h; simp
    · have h1 : (b == c) = false := by simpa using h
      have h2 : (c == b) = false := by simpa using fun e => h e.symm
      rw [h1, h2, Bool.false_or, ← ih]
      simp only [Bool.false_eq_true, if_false]
      by_cases h3 : Lib.indexByte r c = -1
      · simp [h3]
      · have : (Lib.indexByte r c == -1) = false := by simpa using h3
        rw [this]
        simp only [Bool.false_eq_true, if_false, decide_eq_decide]
        omega
theorem isMark_contains (b : UInt8) : isMark b.toNat = tokenMarks.contains b := by
  unfold isMark
  rw [List.contains_eq_any_beq]
  congr 1
  funext c
  rw [Bool.eq_iff_iff]
  simp only [beq_iff_eq]
  constructor
  · intro h; exact UInt8.toNat_inj.1 (by omega)
  · intro h; rw [h]
theorem tokenFn_c (b : UInt8) : VC Tryz.prog 168 [.val (.int .u8 b.toNat)] (.val (.bool (isToken b.toNat))) := by
  refine VC.intro hΘ Tryz.func168 rfl rfl Tryz.ntmps168 rfl rfl rfl fun B hB => ?_
  (conv => whnf)
  refine vcallS_intro0 rfl (isLetter_c b.toNat) (f1 (av rfl) f0) ?_
  (conv => whnf)
  refine brm_intro (fun h => ?_) (fun h => ?_) <;> (conv => whnf)
  · refine vfin_bool ?_
    rw [isToken, h]; rfl
  · refine vcallS_intro0 rfl (isDigit_c b.toNat) (f1 (av rfl) f0) ?_
    (conv => whnf)
    refine brm_intro (fun h' => ?_) (fun h' => ?_) <;> (conv => whnf)
    · refine vfin_bool ?_
      rw [isToken, h, h']; rfl
    · refine vcallS_intro0 rfl (indexByte_c _ b.toNat) (f1 (av rfl) (f1 (av rfl) f0)) ?_
      (conv => whnf)
      refine vfin_bool ?_
      rw [indexByte_nonneg, isToken, h, h', isMark_contains]
      simp only [Bool.false_or, Int.toNat_natCast]
      have : b.toNat.toUInt8 = b := by simp
      rw [this]
      rfl
end Go.Proofs.YtfdmlccbfbiloaaGreatDoor
namespace Go.Proofs.YtfdmlccbfbiloaaGreatDoor
open Go Go.Proofs.YtfdmlccbfbiloaaGreatDoor.Vs
variable [Gl]
set_option linter.unusedSectionVars false

def idxFn {α : Type} (p : α → Bool) : List α → Nat → Int
  | [], _ => -1
  | x :: r, i => if p x then (i : Int) else idxFn p r (i + 1)
theorem idxFn_nonneg {α : Type} (p : α → Bool) : ∀ (l : List α) (i : Nat), decide (idxFn p l i ≥ 0) = l.any p
  | [], _ => rfl
  | x :: r, i => by
    rw [idxFn, List.any_cons]
    cases h : p x with
    | true => simp
    | false => simp only [Bool.false_eq_true, if_false, Bool.false_or]; exact idxFn_nonneg p r (i + 1)
def fnV (f : Nat) : Value := .func (.func f) #[] #[]

theorem allFn_c (F : Nat) (p : UInt8 → Bool) (hp : ∀ b : UInt8, VC Tryz.prog F [.val (.int .u8 b.toNat)] (.val (.bool (p b)))) (b : UInt8) :
    VC Tryz.prog 159 [.val (.int .u8 b.toNat), .rp none [.v (fnV F)]] (.val (.bool (!p b))) := by
  refine VC.intro hΘ Tryz.func159 rfl rfl Tryz.ntmps159 rfl rfl rfl fun B hB => ?_
  (conv => whnf)
  refine vcallS_intro0 rfl (hp b) (f1 (av rfl) f0) ?_
  (conv => whnf)
  exact vfin_bool rfl
theorem indexFnB_c (f : Nat) (cs : List C) (p : UInt8 → Bool) (hp : ∀ b : UInt8, VC Tryz.prog f ([.val (.int .u8 b.toNat)] ++ [.rp none cs]) (.val (.bool (p b)))) (l : List UInt8) (hl : l.length ≤ 140737488355328) :
    VC Tryz.prog 193 [.rd none (.sl true 1 (bytesC l)), .cl f [.rp none cs]] (.val (.int .i64 (idxFn p l 0))) := by
  refine VC.intro hΘ Tryz.func193 rfl rfl Tryz.ntmps193 rfl rfl rfl fun B hB => ?_
  (conv => whnf)
  refine vloop_intro hΘ hB (ι := Nat) (fun i => ⟨[(0, .rd none (.sl true 1 (bytesC l))), (1, .cl f [.rp none cs]), (7, .val (.int .i64 (bytesC l).length)), (8, .val (.int .i64 i))], []⟩)
    (fun i => i ≤ l.length ∧ idxFn p (l.drop i) i = idxFn p l 0) (fun i => l.length - i) 0 ⟨⟨.inr rfl, .inr rfl, .inr rfl, .inr rfl, trivial⟩, trivial⟩ ⟨Nat.zero_le _, rfl⟩ ?_
  rintro i ⟨k1, k2⟩
  (conv => whnf)
  refine brm_intro (fun h => ?_) (fun h => ?_) <;> (conv => whnf) <;> rw [bytesC_len] at h <;> simp only [decide_eq_true_eq, decide_eq_false_iff_not] at h
  · have hi : i < l.length := by omega
    have hg : l[i]? = some l[i] := List.getElem?_eq_getElem hi
    rw [List.drop_eq_getElem_cons hi, idxFn] at k2
    generalize l[i] = b at hg k2
    refine vat_intro i _ rfl (bytesC_at hg) ?_
    (conv => whnf)
    refine vcallS_intro rfl (hp b) (kp rfl k0) (f1 (av rfl) f0) ?_
    (conv => whnf)
    refine brm_intro (fun h2 => ?_) (fun h2 => ?_) <;> (conv => whnf)
    · refine vfin_int ?_
      rw [h2, if_pos rfl] at k2
      exact k2
    · rw [h2] at k2
      simp only [Bool.false_eq_true, if_false] at k2
      exact ⟨i + 1, ⟨⟨.inr rfl, .inr rfl, .inr rfl, .inr (vint_eq (by simp (disch := omega) only [wrap_i64]; rfl)), trivial⟩, trivial⟩, ⟨hi, k2⟩, by omega⟩
  · refine vfin_int ?_
    have : l.drop i = [] := List.drop_eq_nil_of_le (by omega)
    rw [this] at k2
    exact k2
theorem containsFnB_c (f : Nat) (cs : List C) (p : UInt8 → Bool) (hp : ∀ b : UInt8, VC Tryz.prog f ([.val (.int .u8 b.toNat)] ++ [.rp none cs]) (.val (.bool (p b)))) (l : List UInt8) (hl : l.length ≤ 140737488355328) :
    VC Tryz.prog 158 [.rd none (.sl true 1 (bytesC l)), .cl f [.rp none cs]] (.val (.bool (l.any p))) := by
  refine VC.intro hΘ Tryz.func158 rfl rfl Tryz.ntmps158 rfl rfl rfl fun B hB => ?_
  (conv => whnf)
  refine vcallS_intro0 rfl (indexFnB_c f cs p hp l hl) (f1 (ar rfl rfl) (f1 (acl (kp rfl k0)) f0)) ?_
  (conv => whnf)
  exact vfin_bool (idxFn_nonneg p l 0)
theorem all_c (F : Nat) (p : UInt8 → Bool) (hp : ∀ b : UInt8, VC Tryz.prog F [.val (.int .u8 b.toNat)] (.val (.bool (p b)))) (s : ByteArray) (hs : (sb s).length ≤ 140737488355328) :
    VC Tryz.prog 120 [.val (.string s), .val (fnV F)] (.val (.bool ((sb s).all p))) := by
  refine VC.intro hΘ Tryz.func120 rfl rfl Tryz.ntmps120 rfl rfl rfl fun B hB => ?_
  (conv => whnf)
  refine vreq_intro hs ?_
  (conv => whnf)
  refine vcallS_intro0 rfl (containsFnB_c 159 [.v (fnV F)] (fun b => !p b) (allFn_c F p hp) (sb s) hs) (f1 (ah rfl rfl rfl) (f1 (acl (kp (pb rfl rfl) k0)) f0)) ?_
  (conv => whnf)
  refine vfin_bool ?_
  rw [← List.not_all_eq_any_not, Bool.not_not]
theorem tokenOkI_c (s : ByteArray) (hs : (sb s).length ≤ 140737488355328) : VC Tryz.prog 139 [.val (.string s)] (.val (.bool (tokenOk (sb s)))) := by
  refine VC.intro hΘ Tryz.func139 rfl rfl Tryz.ntmps139 rfl rfl rfl fun B hB => ?_
  (conv => whnf)
  refine brm_intro (fun h => ?_) (fun h => ?_) <;> (conv => whnf) <;> simp only [decide_eq_true_eq, decide_eq_false_iff_not] at h
  · refine brm_intro (fun h' => ?_) (fun h' => ?_) <;> (conv => whnf) <;> simp only [decide_eq_true_eq, decide_eq_false_iff_not] at h'
    · refine vcallS_intro0 rfl (all_c 168 (fun b => isToken b.toNat) tokenFn_c s hs) (f1 (av rfl) (f1 (av rfl) f0)) ?_
      (conv => whnf)
      refine vfin_bool ?_
      have h1 : 1 ≤ (sb s).length := by omega
      have h2 : (sb s).length ≤ 64 := by omega
      simp [tokenOk, h1, h2]
    · refine vfin_bool ?_
      have h2 : ¬ (sb s).length ≤ 64 := by omega
      simp [tokenOk, h2]
  · refine vfin_bool ?_
    have h2 : ¬ 1 ≤ (sb s).length := by omega
    simp [tokenOk, h2]
theorem visibleOkI_c (s : ByteArray) (hs : (sb s).length ≤ 140737488355328) : VC Tryz.prog 127 [.val (.string s)] (.val (.bool (visibleOk (sb s)))) := by
  refine VC.intro hΘ Tryz.func127 rfl rfl Tryz.ntmps127 rfl rfl rfl fun B hB => ?_
  (conv => whnf)
  refine brm_intro (fun h => ?_) (fun h => ?_) <;> (conv => whnf) <;> simp only [decide_eq_true_eq, decide_eq_false_iff_not] at h
  · refine vcallS_intro0 rfl (all_c 163 (fun b => isVisible b.toNat) (fun b => isVisible_c b.toNat) s hs) (f1 (av rfl) (f1 (av rfl) f0)) ?_
    (conv => whnf)
    refine vfin_bool ?_
    have h2 : (sb s).length ≤ 400 := by omega
    simp [visibleOk, h2]
  · refine vfin_bool ?_
    have h2 : ¬ (sb s).length ≤ 400 := by omega
    simp [visibleOk, h2]
end Go.Proofs.YtfdmlccbfbiloaaGreatDoor
namespace Go.Proofs.YtfdmlccbfbiloaaGreatDoor
open Go Go.Proofs.YtfdmlccbfbiloaaGreatDoor.Vs Go.Shelf
variable [Gl]
set_option linter.unusedSectionVars false

theorem trimR_cons (x : UInt8) (r : List UInt8) : trimR (x :: r) = if trimR r = [] then (if blankB x then [] else [x]) else x :: trimR r := by
  unfold trimR
  rw [List.reverse_cons, List.dropWhile_append]
  by_cases h : r.reverse.dropWhile blankB = []
  · rw [h]
    cases hb : blankB x <;> simp [List.dropWhile, hb]
  · have h1 : (r.reverse.dropWhile blankB).isEmpty = false := by simpa using h
    rw [h1]
    have h2 : ¬ (r.reverse.dropWhile blankB).reverse = [] := by simpa using h
    rw [if_neg h2]
    simp
theorem trim_swap : ∀ l : List UInt8, trimL (trimR l) = trimR (trimL l)
  | [] => rfl
  | x :: r => by
    have ih := trim_swap r
    rw [trimR_cons]
    cases hb : blankB x with
    | true =>
      have e : trimL (x :: r) = trimL r := by simp [trimL, hb]
      rw [e, ← ih]
      by_cases h : trimR r = []
      · rw [h]; simp [trimL]
      · rw [if_neg h]; simp [trimL, hb]
    | false =>
      have e : trimL (x :: r) = x :: r := by simp [trimL, hb]
      rw [e, trimR_cons, hb]
      by_cases h : trimR r = []
      · rw [h]; simp [trimL, hb]
      · rw [if_neg h]; simp [trimL, hb]
theorem trimS_eq (l : List UInt8) : Lib.trimS l [32, 9] = trimmed l := by
  have hf : (fun b : UInt8 => ([32, 9] : List UInt8).contains b) = blankB := by
    funext b
    rw [Bool.eq_iff_iff]
    simp [blankB, isBlank]
    constructor
    · rintro (h | h) <;> subst h <;> simp
    · rintro (h | h)
      · left; exact UInt8.toNat_inj.1 (by have h : (b.toNat : Int) = _ := h; simp; omega)
      · right; exact UInt8.toNat_inj.1 (by have h : (b.toNat : Int) = _ := h; simp; omega)
  unfold Lib.trimS Lib.trimLeftS Lib.trimRightS trimmed
  rw [← trim_swap, hf]
  rfl
theorem trim_c (s : ByteArray) (hs : (sb s).length ≤ 140737488355328) : VC Tryz.prog 143 [.val (.string s), .val (.string ⟨#[32, 9]⟩)] (.val (.string (bs (trimmed (sb s))))) := by
  refine VC.of_vals (xs := [.string s, .string ⟨#[32, 9]⟩]) Tryz.func143 rfl rfl rfl fun w => ?_
  rw [← trimS_eq]
  exact Any.strings_Trim_laid Tryz.lays160 (by kernel_rfl) s ⟨#[32, 9]⟩ w (by rw [size_sb]; omega) (by decide) (ascii_of_all (by decide))
theorem join_c (xs : List ByteArray) (sep : ByteArray) (hN : xs.length ≤ 140737488355328) (hlen : (Lib.join (xs.map sb) (sb sep)).length ≤ 140737488355328) : VC Tryz.prog 119 [.rd none (.sl true 1 (xs.map strC)), .val (.string sep)] (.val (.string (bs (Lib.join (xs.map sb) (sb sep))))) := by
  refine VC.of_strs Tryz.func119 rfl rfl rfl (fun h w a c => ?_) (fun w bk o c hc hb hl => ?_)
  · subst h
    exact (Tryz.strings_Join_none a c sep w).mono fun _ _ ⟨h1, h2⟩ => ⟨h1, h2 ▸ Go.RowKit.Below.refl _ _⟩
  · exact Tryz.strings_Join bk o c xs sep w hc hb hN hl hlen
end Go.Proofs.YtfdmlccbfbiloaaGreatDoor
namespace Go.Proofs.YtfdmlccbfbiloaaGreatDoor
open Go Go.Proofs.YtfdmlccbfbiloaaGreatDoor.Vs
variable [Gl]
set_option linter.unusedSectionVars false

theorem lowerI_c (s : ByteArray) (hs : (sb s).length ≤ 140737488355328) : VC Tryz.prog 118 [.val (.string s)] (.val (.string (bs (lower (sb s))))) := by
  refine VC.intro hΘ Tryz.func118 rfl rfl Tryz.ntmps118 rfl rfl rfl fun B hB => ?_
  (conv => whnf)
  refine vreq_intro hs ?_
  (conv => whnf)
  generalize hl : sb s = l at *
  refine vloop_intro hΘ hB (ι := Nat) (fun i => ⟨[(3, .own 1 (bytesC (lower (l.take i) ++ l.drop i))), (8, .hd (.sl 3 0 0)), (9, .val (.int .i64 (bytesC l).length)), (10, .val (.int .i64 i))], []⟩) (fun i => i ≤ l.length) (fun i => l.length - i) 0
    ⟨⟨.inr rfl, .inr rfl, .inr rfl, .inr rfl, trivial⟩, trivial⟩ (Nat.zero_le _) ?_
  rintro i k1
  have hlen : (bytesC (lower (l.take i) ++ l.drop i)).length = l.length := by rw [bytesC_len]; simp [lower]; omega
  (conv => whnf)
  refine brm_intro (fun h => ?_) (fun h => ?_) <;> (conv => whnf) <;> rw [bytesC_len] at h <;> simp only [decide_eq_true_eq, decide_eq_false_iff_not] at h
  · have hi : i < l.length := by omega
    have hg : l[i]? = some l[i] := List.getElem?_eq_getElem hi
    generalize l[i] = b at hg
    have hat := bytesC_at (lower_at hg)
    have hlt : i < (bytesC (lower (l.take i) ++ l.drop i)).length := by omega
    repeat' first
      | (refine vix_intro i rfl hlt ?_; (conv => whnf))
      | (refine vat_intro i _ rfl hat ?_; (conv => whnf))
      | (refine brm_intro (fun _ => ?_) (fun _ => ?_) <;> (conv => whnf))
    all_goals (simp only [decide_eq_true_eq, decide_eq_false_iff_not] at *)
    all_goals first
      | (have hb : lowerB b = b := lowerB_id (by omega)
         exact ⟨i + 1, ⟨⟨.inr (vown_eq (congrArg bytesC (lower_id hg hb))), .inr rfl, .inr rfl, .inr (vint_eq (by simp (disch := omega) only [wrap_i64]; rfl)), trivial⟩, trivial⟩, hi, by omega⟩)
      | (have hb := lowerB_up (b := b) (by omega) (by omega)
         refine ⟨i + 1, ⟨⟨.inr (vown_eq ?_), .inr rfl, .inr rfl, .inr (vint_eq (by simp (disch := omega) only [wrap_i64]; rfl)), trivial⟩, trivial⟩, hi, by omega⟩
         show (bytesC _).set i [C.v (.int .u8 (IntKind.u8.wrap (IntKind.u8.wrap ((b.toNat : Int) + 97) - 65)))] = _
         rw [wrap_u8 (x := (b.toNat : Int) + 97) (by omega) (by omega), wrap_u8 (by omega) (by omega), show (b.toNat : Int) + 97 - 65 = b.toNat + 32 by omega, ← hb, bytesC_set, lower_step hg])
  · refine vbytes_intro _ rfl ?_
    (conv => whnf)
    refine vfin_str (congrArg bs ?_)
    have : i = l.length := by omega
    subst this
    simp
theorem trimmedI_c (s : ByteArray) (hs : (sb s).length ≤ 140737488355328) : VC Tryz.prog 129 [.val (.string s)] (.val (.string (bs (trimmed (sb s))))) := by
  refine VC.intro hΘ Tryz.func129 rfl rfl Tryz.ntmps129 rfl rfl rfl fun B hB => ?_
  (conv => whnf)
  refine vcallS_intro0 rfl (trim_c s hs) (f1 (av rfl) (f1 (av rfl) f0)) ?_
  (conv => whnf)
  exact vfin_str rfl
theorem isField_c (p : Fd) (hp : szOk p) : VC Tryz.prog 108 [valF p] (.val (.bool (fieldOk p))) := by
  refine VC.intro hΘ Tryz.func108 rfl rfl Tryz.ntmps108 rfl rfl rfl fun B hB => ?_
  (conv => whnf)
  refine vdraw_intro hΘ hB mixed (by kernel_rfl) ?_
  (conv => whnf)
  refine vcallQ_intro0 rfl (tokenOkI_c p.1 hp.1) (f1 (av rfl) f0) rfl ?_
  (conv => whnf)
  refine brm_intro (fun h => ?_) (fun h => ?_) <;> (conv => whnf)
  · refine vcallQ_intro0 rfl (visibleOkI_c p.2 hp.2) (f1 (av rfl) f0) rfl ?_
    (conv => whnf)
    refine brm_intro (fun h' => ?_) (fun h' => ?_) <;> (conv => whnf)
    · refine vcallQ_intro0 rfl (trimmedI_c p.2 hp.2) (f1 (av rfl) f0) rfl ?_
      (conv => whnf)
      refine vfin_bool ?_
      rw [fieldOk, h, h']
      rfl
    · refine vfin_bool ?_
      rw [fieldOk, h, h']
      rfl
  · refine vfin_bool ?_
    rw [fieldOk, h]
    rfl
theorem fieldFn_c (p : Fd) (hp : szOk p) : VC Tryz.prog 107 [valF p] (.val (.bool (!fieldOk p))) := by
  refine VC.intro hΘ Tryz.func107 rfl rfl Tryz.ntmps107 rfl rfl rfl fun B hB => ?_
  (conv => whnf)
  refine vcallS_intro0 rfl (isField_c p hp) (f1 (fa (l1 (fv rfl) (l1 (fv rfl) l0))) f0) ?_
  (conv => whnf)
  exact vfin_bool rfl
theorem indexFnF_c (xs : List Fd) (hx : ∀ x ∈ xs, szOk x) (hl : xs.length ≤ 140737488355328) :
    VC Tryz.prog 138 [.rd none (.sl true 2 (xs.map encF)), .val (fnV 107)] (.val (.int .i64 (idxFn (fun p => !fieldOk p) xs 0))) := by
  refine VC.intro hΘ Tryz.func138 rfl rfl Tryz.ntmps138 rfl rfl rfl fun B hB => ?_
  (conv => whnf)
  refine vloop_intro hΘ hB (ι := Nat) (fun i => ⟨[(0, .rd none (.sl true 2 (xs.map encF))), (1, .val (fnV 107)), (7, .val (.int .i64 (xs.map encF).length)), (8, .val (.int .i64 i))], []⟩)
    (fun i => i ≤ xs.length ∧ idxFn (fun p => !fieldOk p) (xs.drop i) i = idxFn (fun p => !fieldOk p) xs 0) (fun i => xs.length - i) 0 ⟨⟨.inr rfl, .inr rfl, .inr rfl, .inr rfl, trivial⟩, trivial⟩ ⟨Nat.zero_le _, rfl⟩ ?_
  rintro i ⟨k1, k2⟩
  (conv => whnf)
  refine brm_intro (fun h => ?_) (fun h => ?_) <;> (conv => whnf) <;> rw [List.length_map] at h <;> simp only [decide_eq_true_eq, decide_eq_false_iff_not] at h
  · have hi : i < xs.length := by omega
    have hg : xs[i]? = some xs[i] := List.getElem?_eq_getElem hi
    have hm : xs[i] ∈ xs := List.getElem_mem hi
    rw [List.drop_eq_getElem_cons hi, idxFn] at k2
    generalize xs[i] = x at hg k2 hm
    refine vat_intro i (encF x) rfl (by rw [List.getElem?_map, hg]; rfl) ?_
    (conv => whnf)
    refine vcallS_intro0 rfl (fieldFn_c x (hx x hm)) (f1 (fa (l1 (fv rfl) (l1 (fv rfl) l0))) f0) ?_
    (conv => whnf)
    refine brm_intro (fun h2 => ?_) (fun h2 => ?_) <;> (conv => whnf)
    · refine vfin_int ?_
      rw [h2, if_pos rfl] at k2
      exact k2
    · rw [h2] at k2
      simp only [Bool.false_eq_true, if_false] at k2
      exact ⟨i + 1, ⟨⟨.inr rfl, .inr rfl, .inr rfl, .inr (vint_eq (by simp (disch := omega) only [wrap_i64]; rfl)), trivial⟩, trivial⟩, ⟨hi, k2⟩, by omega⟩
  · refine vfin_int ?_
    have : xs.drop i = [] := List.drop_eq_nil_of_le (by omega)
    rw [this] at k2
    exact k2
theorem containsFnF_c (xs : List Fd) (hx : ∀ x ∈ xs, szOk x) (hl : xs.length ≤ 140737488355328) :
    VC Tryz.prog 106 [.rd none (.sl true 2 (xs.map encF)), .val (fnV 107)] (.val (.bool (xs.any fun p => !fieldOk p))) := by
  refine VC.intro hΘ Tryz.func106 rfl rfl Tryz.ntmps106 rfl rfl rfl fun B hB => ?_
  (conv => whnf)
  refine vcallS_intro0 rfl (indexFnF_c xs hx hl) (f1 (ar rfl rfl) (f1 (av rfl) f0)) ?_
  (conv => whnf)
  exact vfin_bool (idxFn_nonneg _ xs 0)
theorem fieldsOkI_c (xs : List Fd) (hx : ∀ x ∈ xs, szOk x) (hl : xs.length ≤ 140737488355328) : VC Tryz.prog 69 [.rd none (.sl true 2 (xs.map encF))] (.val (.bool (fieldsOk xs))) := by
  refine VC.intro hΘ Tryz.func69 rfl rfl Tryz.ntmps69 rfl rfl rfl fun B hB => ?_
  (conv => whnf)
  refine brm_intro (fun h => ?_) (fun h => ?_) <;> (conv => whnf) <;> rw [List.length_map] at h <;> simp only [decide_eq_true_eq, decide_eq_false_iff_not] at h
  · refine vcallS_intro0 rfl (containsFnF_c xs hx hl) (f1 (ar rfl rfl) (f1 (av rfl) f0)) ?_
    (conv => whnf)
    refine vfin_bool ?_
    have h2 : xs.length ≤ 30 := by omega
    rw [← List.not_all_eq_any_not, Bool.not_not]
    simp [fieldsOk, h2]
  · refine vfin_bool ?_
    have h2 : ¬ xs.length ≤ 30 := by omega
    simp [fieldsOk, h2]
end Go.Proofs.YtfdmlccbfbiloaaGreatDoor
namespace Go.Proofs.YtfdmlccbfbiloaaGreatDoor
open Go Go.Proofs.YtfdmlccbfbiloaaGreatDoor.Vs
variable [Gl]
set_option linter.unusedSectionVars false

def hitsB (n : ByteArray) (xs : List Fd) : List ByteArray := (xs.filter fun p => lower (sb p.1) == lower (sb n)).map (·.2)
theorem hitsB_of (n : ByteArray) (xs : List Fd) : (hitsB n xs).map sb = hitsOf n xs := by
  simp [hitsB, hitsOf]
theorem hitsB_cons {n : ByteArray} {p : Fd} {xs : List Fd} : hitsB n (p :: xs) = (if lower (sb p.1) = lower (sb n) then [p.2] else []) ++ hitsB n xs := by
  unfold hitsB
  rw [List.filter_cons]
  by_cases h : lower (sb p.1) = lower (sb n) <;> simp [h]
theorem hitsB_len (n : ByteArray) (xs : List Fd) : (hitsB n xs).length ≤ xs.length := by
  unfold hitsB; rw [List.length_map]; exact List.length_filter_le _ _
theorem hits_short {n : ByteArray} {xs : List Fd} (h : fieldsOk xs = true) : ∀ x ∈ hitsOf n xs, x.length ≤ 400 := by
  intro x hx
  obtain ⟨p, hp, rfl⟩ := List.mem_map.1 hx
  have hp := (List.mem_filter.1 hp).1
  simp only [fieldsOk, Bool.and_eq_true, List.all_eq_true] at h
  have := h.2 p hp
  simp only [fieldOk, visibleOk, Bool.and_eq_true, decide_eq_true_eq] at this
  exact this.1.2.1

theorem getI_c (xs : List Fd) (n : ByteArray) (hx : ∀ x ∈ xs, szOk x) (hn : (sb n).length ≤ 140737488355328) (hok : fieldsOk xs = true) : VC Tryz.prog 82 [.rd none (.sl true 2 (xs.map encF)), .val (.string n)] (getV xs n) := by
  have h30 : xs.length ≤ 30 := by
    simp only [fieldsOk, Bool.and_eq_true, decide_eq_true_eq] at hok
    exact hok.1
  refine VC.intro hΘ Tryz.func82 rfl rfl Tryz.ntmps82 rfl rfl rfl fun B hB => ?_
  (conv => whnf)
  refine vloop_intro hΘ hB (ι := Nat × List ByteArray) (fun i => ⟨[(1, .val (.string n)), (6, .own 1 (i.2.map strC)), (10, .rd none (.sl true 2 (xs.map encF))), (11, .val (.int .i64 (xs.map encF).length)), (12, .val (.int .i64 i.1))], []⟩)
    (fun i => i.1 ≤ xs.length ∧ i.2 ++ hitsB n (xs.drop i.1) = hitsB n xs ∧ i.2.length ≤ i.1) (fun i => xs.length - i.1) (0, [])
    ⟨⟨.inr rfl, .inr rfl, .inr rfl, .inr rfl, .inr rfl, trivial⟩, trivial⟩ ⟨by simp, rfl, by simp⟩ ?_
  rintro ⟨i, hs⟩ ⟨k1, k2, k3⟩
  simp only at k1 k2 k3
  (conv => whnf)
  refine brm_intro (fun h => ?_) (fun h => ?_) <;> (conv => whnf) <;> rw [List.length_map] at h <;> simp only [decide_eq_true_eq, decide_eq_false_iff_not] at h
  · have hi : i < xs.length := by omega
    rw [List.drop_eq_getElem_cons hi, hitsB_cons] at k2
    have hm : xs[i] ∈ xs := List.getElem_mem hi
    have hg : xs[i]? = some xs[i] := List.getElem?_eq_getElem hi
    generalize xs[i] = x at k2 hm hg
    have hat : (xs.map encF)[i]? = some (encF x) := by rw [List.getElem?_map, hg]; rfl
    refine vat_intro i (encF x) rfl hat ?_
    (conv => whnf)
    refine vcallS_intro0 rfl (lowerI_c x.1 (hx x hm).1) (f1 (av rfl) f0) ?_
    (conv => whnf)
    refine vcallS_intro0 rfl (lowerI_c n hn) (f1 (av rfl) f0) ?_
    (conv => whnf)
    have hstep : IntKind.i64.wrap ((i : Int) + 1) = ((i + 1 : Nat) : Int) := by rw [wrap_i64 (by omega) (by omega)]; rfl
    refine brm_intro (fun h2 => ?_) (fun h2 => ?_) <;> (conv => whnf) <;> simp only [sb_bs] at h2
    · have : lower (sb x.1) = lower (sb n) := by simpa using h2
      rw [if_pos this, ← List.append_assoc] at k2
      refine vreq_intro (by rw [List.length_map]; show (hs.length + 1) * 17 ≤ _; omega) ?_
      (conv => whnf)
      refine ⟨(i + 1, hs ++ [x.2]), ⟨⟨.inr rfl, .inr (vown_eq ?_), .inr rfl, .inr rfl, .inr (vint_eq hstep), trivial⟩, trivial⟩, ⟨hi, k2, by simp; omega⟩, by simp; omega⟩
      rw [List.map_append]; rfl
    · have : ¬ lower (sb x.1) = lower (sb n) := by simpa using h2
      rw [if_neg this] at k2
      exact ⟨(i + 1, hs), ⟨⟨.inr rfl, .inr rfl, .inr rfl, .inr rfl, .inr (vint_eq hstep), trivial⟩, trivial⟩, ⟨hi, k2, by simp; omega⟩, by simp; omega⟩
  · have : xs.drop i = [] := List.drop_eq_nil_of_le (by omega)
    rw [this] at k2
    have : hs = hitsB n xs := by simpa [hitsB] using k2
    subst this
    have hlen := hitsB_len n xs
    refine vcallS_intro0 rfl (join_c (hitsB n xs) ⟨#[44, 32]⟩ (by omega) ?_) (f1 (ah rfl rfl rfl) (f1 (av rfl) f0)) ?_
    · rw [hitsB_of]
      refine Nat.le_trans (join_len (hits_short hok)) ?_
      rw [← hitsB_of, List.length_map]; omega
    (conv => whnf)
    refine vfin_tup2 ?_ (vbool_eq ?_)
    · rw [hitsB_of]; rfl
    · rw [Bool.eq_iff_iff, ← hitsB_of]
      simp
      rw [List.length_pos_iff]
end Go.Proofs.YtfdmlccbfbiloaaGreatDoor
namespace Go.Proofs.YtfdmlccbfbiloaaGreatDoor
open Go Go.Proofs.YtfdmlccbfbiloaaGreatDoor.Vs
variable [Gl]
set_option linter.unusedSectionVars false

def szF (l : Int) (a b : ByteArray) : Int := if l - (sb a).length < 0 then -1 else if l - (sb a).length - (sb b).length < 0 then -1 else l - (sb a).length - (sb b).length

theorem szField_c (a b : ByteArray) (l : Int) (h1 : 0 ≤ l) (h2 : l ≤ 1048576) (ha : (sb a).length ≤ 140737488355328) (hb : (sb b).length ≤ 140737488355328) : VC Tryz.prog 62 [.agg [.val (.string a), .val (.string b)], .val (.int .i64 l)] (.val (.int .i64 (szF l a b))) := by
  refine VC.intro hΘ Tryz.func62 rfl rfl Tryz.ntmps62 rfl rfl rfl fun B hB => ?_
  (conv => whnf)
  refine brm_intro (fun h => ?_) (fun h => ?_) <;> simp (disch := omega) only [wrap_i64, decide_eq_true_eq, decide_eq_false_iff_not] at h
  · (conv => whnf)
    refine vfin_int ?_
    simp [szF, h]
  · (conv => whnf)
    refine brm_intro (fun h' => ?_) (fun h' => ?_) <;> simp (disch := omega) only [wrap_i64, decide_eq_true_eq, decide_eq_false_iff_not] at h' <;> (conv => whnf) <;> refine vfin_int ?_ <;> simp (disch := omega) only [wrap_i64, szF, h, h', if_true, if_false]
def szFS (l : Int) : List Fd → Int
  | [] => l
  | x :: xs => if szF l x.1 x.2 < 0 then -1 else szFS (szF l x.1 x.2) xs
theorem szF_le {l : Int} {a b : ByteArray} (h : 0 ≤ l) : szF l a b ≤ l := by
  unfold szF; split <;> (try split) <;> omega
theorem szFieldS_c (xs : List Fd) (l : Int) (h1 : 0 ≤ l) (h2 : l ≤ 1048576) (hl : xs.length ≤ 140737488355328) (hx : ∀ x ∈ xs, (sb x.1).length ≤ 140737488355328 ∧ (sb x.2).length ≤ 140737488355328) :
    VC Tryz.prog 31 [.rd none (.sl true 2 (xs.map encF)), .val (.int .i64 l)] (.val (.int .i64 (if l - xs.length < 0 then -1 else szFS (l - xs.length) xs))) := by
  refine VC.intro hΘ Tryz.func31 rfl rfl Tryz.ntmps31 rfl rfl rfl fun B hB => ?_
  (conv => whnf)
  refine brm_intro (fun h => ?_) (fun h => ?_) <;> simp only [List.length_map] at h <;> simp (disch := omega) only [wrap_i64, decide_eq_true_eq, decide_eq_false_iff_not] at h
  · (conv => whnf)
    refine vfin_int ?_
    simp [h]
  rw [if_neg h]
  (conv => whnf)
  refine vloop_intro hΘ hB (ι := Nat × Int) (fun x => ⟨[(0, .rd none (.sl true 2 (xs.map encF))), (1, .val (.int .i64 x.2)), (5, .val (.int .i64 x.1))], []⟩)
    (fun x => x.1 ≤ xs.length ∧ 0 ≤ x.2 ∧ x.2 ≤ 1048576 ∧ szFS x.2 (xs.drop x.1) = szFS (l - xs.length) xs) (fun x => xs.length - x.1) (0, l - xs.length)
    ⟨⟨.inr rfl, .inr (vint_eq (by simp only [List.length_map]; simp (disch := omega) only [wrap_i64])), .inr rfl, trivial⟩, trivial⟩ ⟨by simp, by simp; omega, by simp; omega, rfl⟩ ?_
  rintro ⟨i, v⟩ ⟨k1, k2, k3, k4⟩
  simp only at k1 k2 k3 k4
  (conv => whnf)
  refine brm_intro (fun h => ?_) (fun h => ?_) <;> simp only [List.length_map, decide_eq_true_eq, decide_eq_false_iff_not, Int.ofNat_lt] at h
  · have hi : xs[i]? = some xs[i] := List.getElem?_eq_getElem h
    have hm : xs[i] ∈ xs := List.getElem_mem h
    rw [List.drop_eq_getElem_cons h] at k4
    generalize xs[i] = x at hi hm k4
    (conv => whnf)
    refine vat_intro i (encF x) rfl (by rw [List.getElem?_map, hi]; rfl) ?_
    (conv => whnf)
    refine vcallS_intro0 rfl (szField_c x.1 x.2 v k2 k3 (hx x hm).1 (hx x hm).2) (f1 (fa (l1 (fv rfl) (l1 (fv rfl) l0))) (f1 (av rfl) f0)) ?_
    (conv => whnf)
    refine brm_intro (fun h' => ?_) (fun h' => ?_) <;> simp only [decide_eq_true_eq, decide_eq_false_iff_not] at h' 
    · (conv => whnf)
      refine vfin_int ?_
      simp [szFS, h'] at k4
      exact k4
    · have := szF_le (a := x.1) (b := x.2) k2
      simp only [szFS, if_neg h'] at k4
      exact ⟨(i + 1, szF v x.1 x.2), ⟨⟨.inr rfl, .inr rfl, .inr (vint_eq (by simp (disch := omega) only [wrap_i64]; rfl)), trivial⟩, trivial⟩, ⟨h, by simp; omega, by simp; omega, k4⟩, by simp; omega⟩
  · (conv => whnf)
    refine vfin_int ?_
    have : xs.drop i = [] := List.drop_eq_nil_of_le (by omega)
    rw [this] at k4
    exact k4


theorem szFS_neg : ∀ {xs : List Fd} {l : Int}, 0 ≤ szFS l xs → 0 ≤ l ∨ xs = []
  | [], l, _ => .inr rfl
  | x :: r, l, h => by
    rw [szFS] at h
    split at h
    · omega
    · rename_i h1
      left
      unfold szF at h1
      split at h1
      · omega
      · omega
end Go.Proofs.YtfdmlccbfbiloaaGreatDoor
namespace Go.Proofs.YtfdmlccbfbiloaaGreatDoor
open Go Go.Proofs.YtfdmlccbfbiloaaGreatDoor.Vs
variable [Gl]
set_option linter.unusedSectionVars false

/-! #### the marks -/
def markL (n : Nat) (l : List UInt8) : List UInt8 := if n = 0 then l else markL (n / 10) (UInt8.ofNat (48 + n % 10) :: l)
termination_by n
decreasing_by omega
def markB (n : Int) : ByteArray := if n ≤ 0 then ⟨⟨[109, 48]⟩⟩ else ⟨⟨109 :: markL n.toNat []⟩⟩
theorem markText_c (n : Int) (hn : 0 ≤ n) (hn' : n ≤ 4611686018427387904) : VC Tryz.prog 59 [.val (.int .i64 n)] (.val (.string (markB n))) := by
  refine VC.intro hΘ Tryz.func59 rfl rfl Tryz.ntmps59 rfl rfl rfl fun B hB => ?_
  (conv => whnf)
  refine brm_intro (fun h => ?_) (fun h => ?_) <;> (conv => whnf) <;> simp only [decide_eq_true_eq, decide_eq_false_iff_not] at h
  · exact vfin_str (by simp [markB, h])
  refine vloop_intro hΘ hB (ι := Nat × List UInt8) (fun x => ⟨[(0, .val (.int .i64 x.1)), (3, .val (.string ⟨⟨x.2⟩⟩))], []⟩) (fun x => markL x.1 x.2 = markL n.toNat [] ∧ x.2.length + x.1 ≤ n.toNat) (fun x => x.1) (n.toNat, [])
    ⟨⟨.inr (vint_eq (Int.toNat_of_nonneg hn).symm), .inr rfl, trivial⟩, trivial⟩ ⟨rfl, by simp⟩ ?_
  rintro ⟨m, l⟩ ⟨k1, k2⟩
  (conv => whnf)
  refine brm_intro (fun h => ?_) (fun h => ?_) <;> (conv => whnf) <;> simp only [decide_eq_true_eq, decide_eq_false_iff_not] at h
  · have hm : 0 < m := by simpa using h
    have hr : (m : Int).tmod 10 = ((m % 10 : Nat) : Int) := by rw [Int.tmod_eq_emod_of_nonneg (by omega)]; omega
    have hq : (m : Int).tdiv 10 = ((m / 10 : Nat) : Int) := by rw [Int.tdiv_eq_ediv_of_nonneg (by omega)]; omega
    refine vreq_intro (by decide) ?_
    (conv => whnf)
    refine vbytes_intro [UInt8.ofNat (48 + m % 10)] ?_ ?_
    · show [[C.v (Value.int IntKind.u8 (IntKind.u8.wrap (IntKind.i64.wrap (48 + (m : Int).tmod 10))))]] = _
      rw [hr, wrap_i64 (by omega) (by omega), wrap_u8 (by omega) (by omega)]
      have : m % 10 < 10 := Nat.mod_lt _ (by decide)
      simp only [bytesC, List.map_cons, List.map_nil]
      congr 4
      simp [UInt8.toNat_ofNat']
      omega
    (conv => whnf)
    have k2' : l.length + m ≤ n.toNat := k2
    refine vreq_intro (by show 1 + l.length ≤ 9223372036854775807; omega) ?_
    (conv => whnf)
    refine vreq_intro (by decide) ?_
    (conv => whnf)
    refine ⟨(m / 10, UInt8.ofNat (48 + m % 10) :: l), ⟨⟨.inr (vint_eq ?_), .inr rfl, trivial⟩, trivial⟩, ⟨?_, ?_⟩, ?_⟩
    · show IntKind.i64.wrap ((m : Int).tdiv 10) = _
      rw [hq, wrap_i64 (by omega) (by omega)]
    · rw [← k1]
      show _ = markL m l
      rw [markL.eq_1 m l, if_neg (by omega)]
    · show l.length + 1 + m / 10 ≤ n.toNat
      omega
    · show m / 10 < m
      omega
  · have hm : m = 0 := by have : ¬ ((m : Int) > 0) := h; omega
    subst hm
    have k2' : l.length + 0 ≤ n.toNat := k2
    refine vreq_intro (by show 1 + l.length ≤ 9223372036854775807; omega) ?_
    (conv => whnf)
    refine vfin_str ?_
    have k1' : markL 0 l = markL n.toNat [] := k1
    have : markL 0 l = l := by rw [markL.eq_1, if_pos rfl]
    rw [this] at k1'
    simp only [markB, if_neg (show ¬ n ≤ 0 by assumption), ← k1']
    rfl
end Go.Proofs.YtfdmlccbfbiloaaGreatDoor
namespace Go.Proofs.YtfdmlccbfbiloaaGreatDoor
open Go Go.Proofs.YtfdmlccbfbiloaaGreatDoor.Vs
variable [Gl]
set_option linter.unusedSectionVars false

def encM (n : Int) : Nat → List (List C)
  | 0 => []
  | k + 1 => [C.v (.string (markB n)), C.v (.string (markB (n + 1)))] :: encM (n + 2) k
theorem encM_len (n : Int) : ∀ k, (encM n k).length = k
  | 0 => rfl
  | k + 1 => by simp [encM, encM_len (n + 2) k]
theorem encM_succ (n : Int) : ∀ k, encM n (k + 1) = encM n k ++ [[C.v (.string (markB (n + 2 * k))), C.v (.string (markB (n + 2 * k + 1)))]]
  | 0 => by simp [encM]
  | k + 1 => by
    have h1 : n + 2 + 2 * (k : Int) = n + 2 * ((k + 1 : Nat) : Int) := by omega
    rw [encM, encM_succ (n + 2) k, encM, h1]; rfl
theorem modify_at {α : Type} (f : α → α) (x : α) (r : List α) : ∀ E : List α, (E ++ x :: r).modify E.length f = E ++ f x :: r
  | [] => rfl
  | e :: E => by simp [modify_at f x r E]
theorem mark_step {xs : List (List C)} {n : Int} {i : Nat} (hi : i < xs.length) (h2 : ∀ x ∈ xs, x.length = 2) :
    putE 2 (0 + 1) [C.v (.string (markB (n + 2 * i + 1)))] (putE 2 (0 + 0) [C.v (.string (markB (n + 2 * i)))] (encM n i ++ xs.drop i) i) i = encM n (i + 1) ++ xs.drop (i + 1) := by
  have hx := h2 _ (List.getElem_mem hi)
  rw [List.drop_eq_getElem_cons hi]
  generalize xs[i] = x at hx
  obtain ⟨a, b, rfl⟩ : ∃ a b, x = [a, b] := by
    match x, hx with
    | [a, b], _ => exact ⟨a, b, rfl⟩
  have e1 : ∀ ys, putE 2 (0 + 0) [C.v (.string (markB (n + 2 * i)))] ys i = ys.modify i fun c => splC c 0 [C.v (.string (markB (n + 2 * i)))] := fun _ => rfl
  have e2 : ∀ ys, putE 2 (0 + 1) [C.v (.string (markB (n + 2 * i + 1)))] ys i = ys.modify i fun c => splC c 1 [C.v (.string (markB (n + 2 * i + 1)))] := fun _ => rfl
  have hE : (encM n i).length = i := encM_len n i
  rw [e2, e1, encM_succ]
  generalize encM n i = E at hE
  subst hE
  rw [modify_at, modify_at, List.append_assoc]
  rfl
theorem markFieldS_c (xs : List (List C)) (n : Int) (hx : xs.length ≤ 1000000000) (hn : 0 ≤ n) (hn' : n ≤ 4611686010000000000) (h2 : ∀ x ∈ xs, x.length = 2) :
    VCm Tryz.prog 60 [.m 2 xs, .v (.val (.int .i64 n))] [] (.val (.int .i64 (n + 2 * xs.length))) [[some (2, encM n xs.length)], []] [] := by
  refine VCm.intro0 hΘ Tryz.func60 rfl rfl Tryz.ntmps60 rfl rfl rfl fun B hB hs hl => ?_
  obtain ⟨u0, u1, rfl⟩ : ∃ u0 u1, hs = [u0, u1] := by
    match hs, hl with
    | [a, b], _ => exact ⟨a, b, rfl⟩
  (conv => whnf)
  refine vloop_intro hΘ hB (ι := Nat) (fun i => ⟨[(0, .mu (cellN u0 0) 2 (encM n i ++ xs.drop i)), (1, .val (.int .i64 (n + 2 * i))), (5, .val (.int .i64 i))], []⟩) (fun i => i ≤ xs.length) (fun i => xs.length - i) 0
    ⟨⟨.inr rfl, .inr (vint_eq (by simp)), .inr rfl, trivial⟩, trivial⟩ (Nat.zero_le _) ?_
  intro i k1
  (conv => whnf)
  have hlen : (encM n i ++ xs.drop i).length = xs.length := by rw [List.length_append, encM_len, List.length_drop]; omega
  refine brm_intro (fun h => ?_) (fun h => ?_) <;> (conv => whnf) <;> simp only [decide_eq_true_eq, decide_eq_false_iff_not, hlen] at h
  · have hi : i < xs.length := by omega
    refine vcallS_intro0 rfl (markText_c (n + 2 * i) (by omega) (by omega)) (f1 (av rfl) f0) ?_
    (conv => whnf)
    refine vix_intro i rfl (by rw [hlen]; exact hi) ?_
    (conv => whnf)
    have hw : IntKind.i64.wrap (n + 2 * (i : Int) + 1) = n + 2 * i + 1 := wrap_i64 (by omega) (by omega)
    refine vcallS_intro0 rfl (markText_c (n + 2 * i + 1) (by omega) (by omega)) (f1 (av (by rw [hw])) f0) ?_
    (conv => whnf)
    refine vix_intro i rfl (by show i < (List.modify _ i _).length; rw [List.length_modify, hlen]; exact hi) ?_
    (conv => whnf)
    refine ⟨i + 1, ⟨⟨.inr ?_, .inr (vint_eq ?_), .inr (vint_eq ?_), trivial⟩, trivial⟩, hi, by omega⟩
    · show V.mu (cellN u0 0) 2 _ = V.mu (cellN u0 0) 2 _
      rw [mark_step hi h2]
    · rw [hw, wrap_i64 (by omega) (by omega)]; omega
    · rw [wrap_i64 (by omega) (by omega)]; rfl
  · have : i = xs.length := by omega
    subst this
    have hd : encM n xs.length ++ xs.drop xs.length = encM n xs.length := by simp
    rw [hd]
    refine ⟨?_, ?_, ?_⟩
    · (conv => whnf)
      exact vfin_int rfl
    · exact ⟨⟨vfinE_intro rfl, trivial⟩, trivial, trivial⟩
    · trivial
end Go.Proofs.YtfdmlccbfbiloaaGreatDoor
namespace Go.Proofs.YtfdmlccbfbiloaaGreatDoor
open Go Go.Proofs.YtfdmlccbfbiloaaGreatDoor.Vs
variable [Gl]
set_option linter.unusedSectionVars false

theorem encM_get (n : Int) : ∀ (k i : Nat), i < k → (encM n k)[i]? = some [C.v (.string (markB (n + 2 * i))), C.v (.string (markB (n + 2 * i + 1)))] := by
  intro k
  induction k with
  | zero => intro i h; omega
  | succ k ih =>
    intro i h
    rw [encM_succ]
    by_cases hk : i < k
    · rw [List.getElem?_append_left (by rw [encM_len]; exact hk)]; exact ih i hk
    · have : i = k := by omega
      subst this
      rw [List.getElem?_append_right (by rw [encM_len]; exact Nat.le_refl _), encM_len, Nat.sub_self]; rfl
theorem heldFieldS_c (k : Nat) (n : Int) (hx : k ≤ 1000000000) (hn : 0 ≤ n) (hn' : n ≤ 4611686010000000000) :
    VC Tryz.prog 61 [.rd none (.sl true 2 (encM n k)), .val (.int .i64 n)] (.val (.int .i64 (n + 2 * k))) := by
  refine VC.intro hΘ Tryz.func61 rfl rfl Tryz.ntmps61 rfl rfl rfl fun B hB => ?_
  (conv => whnf)
  refine vloop_intro hΘ hB (ι := Nat) (fun i => ⟨[(0, .rd none (.sl true 2 (encM n k))), (1, .val (.int .i64 (n + 2 * i))), (5, .val (.int .i64 i))], []⟩) (fun i => i ≤ k) (fun i => k - i) 0
    ⟨⟨.inr rfl, .inr (vint_eq (by simp)), .inr rfl, trivial⟩, trivial⟩ (Nat.zero_le _) ?_
  intro i k1
  (conv => whnf)
  refine brm_intro (fun h => ?_) (fun h => ?_) <;> (conv => whnf) <;> simp only [decide_eq_true_eq, decide_eq_false_iff_not, encM_len] at h
  · have hi : i < k := by omega
    have hat := encM_get n k i hi
    have hw : IntKind.i64.wrap (n + 2 * (i : Int) + 1) = n + 2 * i + 1 := wrap_i64 (by omega) (by omega)
    refine vdraw_intro hΘ hB mixed (by kernel_rfl) ?_
    (conv => whnf)
    refine vat_intro i _ rfl hat ?_
    (conv => whnf)
    refine vcallQ_intro0 rfl (markText_c (n + 2 * i) (by omega) (by omega)) (f1 (av rfl) f0) rfl ?_
    (conv => whnf)
    refine brm_intro (fun h2 => ?_) (fun h2 => ?_) <;> (conv => whnf)
    · exact absurd h2 (by simp)
    refine vdraw_intro hΘ hB mixed (by kernel_rfl) ?_
    (conv => whnf)
    refine vat_intro i _ rfl hat ?_
    (conv => whnf)
    refine vcallQ_intro0 rfl (markText_c (n + 2 * i + 1) (by omega) (by omega)) (f1 (av (by rw [hw])) f0) rfl ?_
    (conv => whnf)
    refine brm_intro (fun h2 => ?_) (fun h2 => ?_) <;> (conv => whnf)
    · exact absurd h2 (by simp)
    refine ⟨i + 1, ⟨⟨.inr rfl, .inr (vint_eq ?_), .inr (vint_eq ?_), trivial⟩, trivial⟩, hi, by omega⟩
    · rw [hw, wrap_i64 (by omega) (by omega)]; omega
    · rw [wrap_i64 (by omega) (by omega)]; rfl
  · have : i = k := by omega
    subst this
    exact vfin_int rfl
end Go.Proofs.YtfdmlccbfbiloaaGreatDoor
namespace Go.Proofs.YtfdmlccbfbiloaaGreatDoor
open Go Go.Proofs.YtfdmlccbfbiloaaGreatDoor.Vs
variable [Gl]
set_option linter.unusedSectionVars false

/-! #### items -/
def seg (l : List UInt8) (f i : Nat) : List UInt8 := (l.drop f).take (i - f)
theorem seg_self (l : List UInt8) (i : Nat) : seg l i i = [] := by simp [seg]
theorem seg_succ {l : List UInt8} {f i : Nat} {b : UInt8} (h : f ≤ i) (hb : l[i]? = some b) : seg l f (i + 1) = seg l f i ++ [b] := by
  unfold seg
  have : i + 1 - f = (i - f) + 1 := by omega
  rw [this, List.take_add_one, List.getElem?_drop, show f + (i - f) = i by omega, hb]; rfl
theorem seg_all {l : List UInt8} {f : Nat} : seg l f l.length = l.drop f := by
  unfold seg; rw [List.take_of_length_le]; simp
def emitI (cur : List UInt8) : List (List UInt8) := if trimmed cur = [] then [] else [trimmed cur]
def itemsG : List UInt8 → Bool → Bool → List UInt8 → List (List UInt8)
  | [], _, _, cur => emitI cur
  | c :: r, o, e, cur =>
    if e = true then itemsG r o false (cur ++ [c]) else
    if c = 44 ∧ o = false then emitI cur ++ itemsG r o false [] else
    if c = 34 then itemsG r (!o) false (cur ++ [c]) else
    if c = 92 ∧ o = true then itemsG r o true (cur ++ [c]) else itemsG r o false (cur ++ [c])
def items (l : List UInt8) : List (List UInt8) := if visibleOk l then itemsG l false false [] else []
def itemsB (l : List UInt8) : List ByteArray := (items l).map bs
def gI (l : List UInt8) (o : Bool) (cur : List UInt8) : List ByteArray := (itemsG l o false cur).map bs
def eI (cur : List UInt8) : List ByteArray := (emitI cur).map bs
theorem gI_nil {o : Bool} {cur : List UInt8} : gI [] o cur = eI cur := by simp [gI, eI, itemsG]
theorem gI_comma {r : List UInt8} {cur : List UInt8} : gI (44 :: r) false cur = eI cur ++ gI r false [] := by simp [gI, eI, itemsG]
theorem gI_quote {r : List UInt8} {o : Bool} {cur : List UInt8} : gI (34 :: r) o cur = gI r (!o) (cur ++ [34]) := by simp [gI, itemsG]
theorem gI_esc1 {cur : List UInt8} : gI [92] true cur = eI (cur ++ [92]) := by simp [gI, eI, itemsG]
theorem gI_esc2 {d : UInt8} {r cur : List UInt8} : gI (92 :: d :: r) true cur = gI r true (cur ++ [92] ++ [d]) := by simp [gI, itemsG]
theorem gI_other {c : UInt8} {r cur : List UInt8} {o : Bool} (h1 : ¬ (c = 44 ∧ o = false)) (h2 : ¬ c = 34) (h3 : ¬ (c = 92 ∧ o = true)) : gI (c :: r) o cur = gI r o (cur ++ [c]) := by
  simp only [gI, itemsG, h1, h2, h3, if_false, Bool.false_eq_true]
theorem trimmed_len (l : List UInt8) : (trimmed l).length ≤ l.length := by
  unfold trimmed trimR trimL
  rw [List.length_reverse]
  refine Nat.le_trans (List.dropWhile_sublist _).length_le ?_
  rw [List.length_reverse]
  exact (List.dropWhile_sublist _).length_le
theorem emitI_len {cur x : List UInt8} (h : x ∈ emitI cur) : x.length ≤ cur.length := by
  unfold emitI at h
  split at h
  · cases h
  · simp only [List.mem_singleton] at h; subst h; exact trimmed_len cur
theorem itemsG_len : ∀ (l : List UInt8) (o e : Bool) (cur x : List UInt8), x ∈ itemsG l o e cur → x.length ≤ cur.length + l.length
  | [], o, e, cur, x, h => by
    simp only [itemsG] at h
    exact Nat.le_trans (emitI_len h) (Nat.le_add_right _ _)
  | c :: r, o, e, cur, x, h => by
    have step : ∀ o e, x ∈ itemsG r o e (cur ++ [c]) → x.length ≤ cur.length + (c :: r).length := by
      intro o e h
      have := itemsG_len r o e _ x h
      simp at this ⊢; omega
    rw [itemsG] at h
    split at h
    · exact step _ _ h
    · split at h
      · rcases List.mem_append.1 h with h | h
        · exact Nat.le_trans (emitI_len h) (Nat.le_add_right _ _)
        · have := itemsG_len r o false [] x h
          simp at this ⊢; omega
      · split at h
        · exact step _ _ h
        · split at h
          · exact step _ _ h
          · exact step _ _ h
theorem items_len {l x : List UInt8} (h : x ∈ items l) : x.length ≤ 400 := by
  unfold items at h
  split at h
  · rename_i hv
    have := itemsG_len l false false [] x h
    simp only [visibleOk, Bool.and_eq_true, decide_eq_true_eq] at hv
    simp at this; omega
  · cases h
theorem itemsB_len {l : List UInt8} {x : ByteArray} (h : x ∈ itemsB l) : (sb x).length ≤ 400 := by
  obtain ⟨y, hy, rfl⟩ := List.mem_map.1 h
  exact items_len hy
theorem emitI_cnt (cur : List UInt8) : (emitI cur).length ≤ 1 := by unfold emitI; split <;> simp
theorem itemsG_cnt : ∀ (l : List UInt8) (o e : Bool) (cur : List UInt8), (itemsG l o e cur).length ≤ l.length + 1
  | [], o, e, cur => by simp only [itemsG]; exact emitI_cnt cur
  | c :: r, o, e, cur => by
    have step : ∀ o e cur, (itemsG r o e cur).length ≤ (c :: r).length + 1 := by
      intro o e cur
      have := itemsG_cnt r o e cur
      simp; omega
    rw [itemsG]
    split
    · exact step _ _ _
    · split
      · have := itemsG_cnt r o false []
        have := emitI_cnt cur
        simp; omega
      · split
        · exact step _ _ _
        · split <;> exact step _ _ _
theorem itemsB_cnt (l : List UInt8) : (itemsB l).length ≤ 401 := by
  unfold itemsB items
  split
  · rename_i hv
    simp only [visibleOk, Bool.and_eq_true, decide_eq_true_eq] at hv
    have := itemsG_cnt l false false []
    simp; omega
  · simp
structure ISt where
  acc : List ByteArray
  fr : Nat
  o : Bool
  i : Nat

theorem itemsS_c (s : ByteArray) (hs : (sb s).length ≤ 140737488355328) : VC Tryz.prog 88 [.val (.string s)] (.own 1 ((itemsB (sb s)).map strC)) := by
  refine VC.intro hΘ Tryz.func88 rfl rfl Tryz.ntmps88 rfl rfl rfl fun B hB => ?_
  (conv => whnf)
  refine vcallS_intro0 rfl (visibleOkS_c s hs) (f1 (av rfl) f0) ?_
  (conv => whnf)
  refine brm_not (fun h => ?_) (fun h => ?_) <;> (conv => whnf)
  · have : itemsB (sb s) = [] := by simp [itemsB, items, h]
    rw [this]
    exact vfin_own rfl
  have hL : (sb s).length ≤ 400 := by
    simp only [visibleOk, Bool.and_eq_true, decide_eq_true_eq] at h; exact h.1
  have hT : itemsB (sb s) = gI (sb s) false [] := by simp [itemsB, items, h, gI]
  rw [hT]
  refine vloop_intro hΘ hB (ι := ISt) (fun | ⟨acc, fr, o, i⟩ => ⟨[(0, .val (.string s)), (3, .own 1 (acc.map strC)), (4, .val (.int .i64 fr)), (5, .val (.bool o)), (6, .val (.int .i64 i))], []⟩)
    (fun x => (x.i ≤ (sb s).length ∧ x.fr ≤ x.i ∧ x.acc.length ≤ x.i ∧ x.acc ++ gI ((sb s).drop x.i) x.o (seg (sb s) x.fr x.i) = gI (sb s) false []) ∨ (x.i = (sb s).length + 1 ∧ x.acc = gI (sb s) false [])) (fun x => (sb s).length + 1 - x.i) ⟨[], 0, false, 0⟩
    ⟨⟨.inr rfl, .inr rfl, .inr rfl, .inr rfl, .inr rfl, trivial⟩, trivial⟩ (.inl ⟨Nat.zero_le _, Nat.le_refl _, Nat.le_refl _, rfl⟩) ?_
  rintro ⟨acc, fr, o, i⟩ k
  simp only at k
  (conv => whnf)
  refine brm_p (fun h1 => ?_) (fun h1 => ?_) <;> (conv => whnf)
  rotate_left
  · refine vfin_own ?_
    rcases k with ⟨k1, _⟩ | ⟨_, k2⟩
    · exfalso; omega
    · rw [k2]
  obtain ⟨k1, k2, k3, k4⟩ : i ≤ (sb s).length ∧ fr ≤ i ∧ acc.length ≤ i ∧ acc ++ gI ((sb s).drop i) o (seg (sb s) fr i) = gI (sb s) false [] := by
    rcases k with k | ⟨k, _⟩
    · exact k
    · exfalso; omega
  have hw := wrap_succ (i := i) (by omega)
  have hw2 := wrap_succ (i := i + 1) (by omega)
  refine brm_eq (fun h2 => ?_) (fun h2 => ?_) <;> (conv => whnf)
  · -- the end
    have hi : i = (sb s).length := by omega
    refine vrange_intro fr i rfl rfl k2 k1 ?_
    (conv => whnf)
    have hsl : (sb (bs (((sb s).drop fr).take (i - fr)))).length ≤ 140737488355328 := by rw [sb_bs]; simp; omega
    refine call_l rfl (trimmedS_c _ hsl) (f1 (av rfl) f0) fun y hy => ?_
    (conv => whnf)
    have hd : (sb s).drop i = [] := List.drop_eq_nil_of_le (by omega)
    rw [hd, gI_nil] at k4
    refine brm_ne' (fun h3 => ?_) (fun h3 => ?_) <;> (conv => whnf)
    · refine vreq_intro (by rw [List.length_map]; show (acc.length + 1) * 17 ≤ _; omega) ?_
      (conv => whnf)
      refine ⟨⟨acc ++ [bs y], i + 1, o, i + 1⟩, ⟨⟨.inr rfl, .inr (vown_eq ?_), .inr (vint_eq hw), .inr rfl, .inr (vint_eq hw), trivial⟩, trivial⟩, .inr ⟨by simp only; omega, ?_⟩, by simp only; omega⟩
      · rw [List.map_append]; rfl
      · rw [← k4]
        rw [sb_bs] at h3 hy
        have : ¬ trimmed (seg (sb s) fr i) = [] := fun e => h3 (hy.trans e)
        have e : eI (seg (sb s) fr i) = [bs y] := by rw [eI, emitI, if_neg this, hy]; rfl
        rw [e]
    · refine ⟨⟨acc, i + 1, o, i + 1⟩, ⟨⟨.inr rfl, .inr rfl, .inr (vint_eq hw), .inr rfl, .inr (vint_eq hw), trivial⟩, trivial⟩, .inr ⟨by simp only; omega, ?_⟩, by simp only; omega⟩
      rw [← k4]
      rw [sb_bs] at h3 hy
      have : trimmed (seg (sb s) fr i) = [] := hy.symm.trans h3
      simp [eI, emitI, this]
  have hi : i < (sb s).length := by omega
  obtain ⟨b, hb, _, hd⟩ := drop_at hi
  rw [hd] at k4
  have hg := byteAt_get hb
  have hsg := seg_succ k2 hb
  refine vix_intro i rfl hi ?_
  (conv => whnf)
  rw [hg]
  have oth : ¬ (b = 44 ∧ o = false) → ¬ b = 34 → ¬ (b = 92 ∧ o = true) → acc ++ gI ((sb s).drop (i + 1)) o (seg (sb s) fr (i + 1)) = gI (sb s) false [] := by
    intro e1 e2 e3
    rw [hsg, ← gI_other e1 e2 e3]; exact k4
  have hbe : ∀ n : Nat, n < 256 → ((b.toNat : Int) = (n : Int) ↔ b = UInt8.ofNat n) := by
    intro n hn
    constructor
    · intro e; apply UInt8.toNat_inj.1; rw [UInt8.toNat_ofNat']; omega
    · intro e; rw [e, UInt8.toNat_ofNat']; omega
  have e44 := hbe 44 (by decide)
  have e34 := hbe 34 (by decide)
  have e92 := hbe 92 (by decide)
  refine brm_eq (fun h3 => ?_) (fun h3 => ?_) <;> (conv => whnf)
  · have hb44 : b = 44 := e44.1 h3
    cases o with
    | false =>
      (conv => whnf)
      subst hb44
      rw [gI_comma] at k4
      refine vrange_intro fr i rfl rfl k2 k1 ?_
      (conv => whnf)
      have hsl : (sb (bs (((sb s).drop fr).take (i - fr)))).length ≤ 140737488355328 := by rw [sb_bs]; simp; omega
      refine call_l rfl (trimmedS_c _ hsl) (f1 (av rfl) f0) fun y hy => ?_
      (conv => whnf)
      refine brm_ne' (fun h3 => ?_) (fun h3 => ?_) <;> (conv => whnf)
      · refine vreq_intro (by rw [List.length_map]; show (acc.length + 1) * 17 ≤ _; omega) ?_
        (conv => whnf)
        refine ⟨⟨acc ++ [bs y], i + 1, false, i + 1⟩, ⟨⟨.inr rfl, .inr (vown_eq ?_), .inr (vint_eq hw), .inr rfl, .inr (vint_eq hw), trivial⟩, trivial⟩, .inl ⟨by simp only; omega, Nat.le_refl _, by simp; omega, ?_⟩, by simp only; omega⟩
        · rw [List.map_append]; rfl
        · rw [← k4, seg_self]
          rw [sb_bs] at h3 hy
          have : ¬ trimmed (seg (sb s) fr i) = [] := fun e => h3 (hy.trans e)
          have e : eI (seg (sb s) fr i) = [bs y] := by rw [eI, emitI, if_neg this, hy]; rfl
          rw [e, List.append_assoc]
      · refine ⟨⟨acc, i + 1, false, i + 1⟩, ⟨⟨.inr rfl, .inr rfl, .inr (vint_eq hw), .inr rfl, .inr (vint_eq hw), trivial⟩, trivial⟩, .inl ⟨by simp only; omega, Nat.le_refl _, by simp only; omega, ?_⟩, by simp only; omega⟩
        rw [← k4, seg_self]
        rw [sb_bs] at h3 hy
        have : trimmed (seg (sb s) fr i) = [] := hy.symm.trans h3
        simp [eI, emitI, this]
    | true =>
      (conv => whnf)
      refine vix_intro i rfl hi ?_
      (conv => whnf)
      rw [hg]
      refine brm_eq (fun h4 => ?_) (fun h4 => ?_) <;> (conv => whnf)
      · exfalso; omega
      refine vix_intro i rfl hi ?_
      (conv => whnf)
      rw [hg]
      refine brm_eq (fun h5 => ?_) (fun h5 => ?_) <;> (conv => whnf)
      · exfalso; omega
      exact ⟨⟨acc, fr, true, i + 1⟩, ⟨⟨.inr rfl, .inr rfl, .inr rfl, .inr rfl, .inr (vint_eq hw), trivial⟩, trivial⟩, .inl ⟨hi, by simp only; omega, by simp only; omega, oth (by simp) (fun e => h4 (e34.2 e)) (fun e => h5 (e92.2 e.1))⟩, by simp only; omega⟩
  · have h44 : ¬ (b = 44 ∧ o = false) := fun e => h3 (e44.2 e.1)
    refine vix_intro i rfl hi ?_
    (conv => whnf)
    rw [hg]
    refine brm_eq (fun h4 => ?_) (fun h4 => ?_) <;> (conv => whnf)
    · have : b = 34 := e34.1 h4
      subst this
      rw [gI_quote, ← hsg] at k4
      exact ⟨⟨acc, fr, !o, i + 1⟩, ⟨⟨.inr rfl, .inr rfl, .inr rfl, .inr rfl, .inr (vint_eq hw), trivial⟩, trivial⟩, .inl ⟨hi, by simp only; omega, by simp only; omega, k4⟩, by simp only; omega⟩
    refine vix_intro i rfl hi ?_
    (conv => whnf)
    rw [hg]
    refine brm_eq (fun h5 => ?_) (fun h5 => ?_) <;> (conv => whnf)
    · have hb92 : b = 92 := e92.1 h5
      cases o with
      | false =>
        (conv => whnf)
        exact ⟨⟨acc, fr, false, i + 1⟩, ⟨⟨.inr rfl, .inr rfl, .inr rfl, .inr rfl, .inr (vint_eq hw), trivial⟩, trivial⟩, .inl ⟨hi, by simp only; omega, by simp only; omega, oth h44 (fun e => h4 (e34.2 e)) (by simp)⟩, by simp only; omega⟩
      | true =>
        (conv => whnf)
        subst hb92
        rw [hw]
        refine brm_eq (fun h6 => ?_) (fun h6 => ?_) <;> (conv => whnf)
        · have hd2 : (sb s).drop (i + 1) = [] := List.drop_eq_nil_of_le (by omega)
          rw [hd2, gI_esc1, ← hsg] at k4
          have hback : IntKind.i64.wrap (IntKind.i64.wrap (((i + 1 : Nat) : Int) - 1) + 1) = ((i + 1 : Nat) : Int) := by
            rw [wrap_i64 (x := ((i + 1 : Nat) : Int) - 1) (by omega) (by omega), wrap_i64 (by omega) (by omega)]; omega
          refine ⟨⟨acc, fr, true, i + 1⟩, ⟨⟨.inr rfl, .inr rfl, .inr rfl, .inr rfl, .inr (vint_eq hback), trivial⟩, trivial⟩, .inl ⟨hi, by simp only; omega, by simp only; omega, ?_⟩, by simp only; omega⟩
          simp only [hd2, gI_nil]; exact k4
        · have hi2 : i + 1 < (sb s).length := by omega
          obtain ⟨d, hd2, _, hd3⟩ := drop_at hi2
          rw [hd3, gI_esc2, ← hsg, ← seg_succ (by omega) hd2] at k4
          exact ⟨⟨acc, fr, true, i + 2⟩, ⟨⟨.inr rfl, .inr rfl, .inr rfl, .inr rfl, .inr (vint_eq hw2), trivial⟩, trivial⟩, .inl ⟨hi2, by simp only; omega, by simp only; omega, k4⟩, by simp only; omega⟩
    · exact ⟨⟨acc, fr, o, i + 1⟩, ⟨⟨.inr rfl, .inr rfl, .inr rfl, .inr rfl, .inr (vint_eq hw), trivial⟩, trivial⟩, .inl ⟨hi, by simp only; omega, by simp only; omega, oth h44 (fun e => h4 (e34.2 e)) (fun e => h5 (e92.2 e.1))⟩, by simp only; omega⟩
end Go.Proofs.YtfdmlccbfbiloaaGreatDoor
namespace Go.Proofs.YtfdmlccbfbiloaaGreatDoor
open Go Go.Proofs.YtfdmlccbfbiloaaGreatDoor.Vs
variable [Gl]
set_option linter.unusedSectionVars false

/-! #### items, the program's -/
theorem itemsFn_c (acc : List ByteArray) (s : ByteArray) (hs : (sb s).length ≤ 140737488355328) (ha : acc.length ≤ 1000000) :
    VCm Tryz.prog 128 [.v (.val (.string s)), .p 0] [[.own 1 (acc.map strC)]] (.tup []) [[], []] [[.own 1 ((acc ++ eI (sb s)).map strC)]] := by
  refine VCm.intro0 hΘ Tryz.func128 rfl rfl Tryz.ntmps128 rfl rfl rfl fun B hB hs' hl => ?_
  obtain ⟨u0, u1, rfl⟩ : ∃ u0 u1, hs' = [u0, u1] := by
    match hs', hl with
    | [a, b], _ => exact ⟨a, b, rfl⟩
  (conv => whnf)
  refine vcallS_intro0 rfl (trimmedI_c s hs) (f1 (av rfl) f0) ?_
  (conv => whnf)
  refine brm_ne' (fun h => ?_) (fun h => ?_) <;> (conv => whnf)
  · refine vreq_intro (by rw [List.length_map]; show (acc.length + 1) * 17 ≤ _; omega) ?_
    (conv => whnf)
    refine ⟨?_, ⟨trivial, trivial, trivial⟩, ?_, trivial⟩
    · (conv => whnf)
      exact vfin_intro rfl
    · (conv => whnf)
      refine vbox_intro ?_
      have : ¬ trimmed (sb s) = [] := h
      have e : eI (sb s) = [bs (trimmed (sb s))] := by rw [eI, emitI, if_neg this]; rfl
      rw [e, List.map_append]; rfl
  · refine ⟨?_, ⟨trivial, trivial, trivial⟩, ?_, trivial⟩
    · (conv => whnf)
      exact vfin_intro rfl
    · (conv => whnf)
      refine vbox_intro ?_
      have : trimmed (sb s) = [] := h
      have e : eI (sb s) = [] := by rw [eI, emitI, if_pos this]; rfl
      rw [e, List.append_nil]

theorem itemsI_c (s : ByteArray) (hs : (sb s).length ≤ 140737488355328) : VC Tryz.prog 93 [.val (.string s)] (.own 1 ((itemsB (sb s)).map strC)) := by
  refine VC.intro hΘ Tryz.func93 rfl rfl Tryz.ntmps93 rfl rfl rfl fun B hB => ?_
  (conv => whnf)
  refine vcallS_intro0 rfl (visibleOkI_c s hs) (f1 (av rfl) f0) ?_
  (conv => whnf)
  refine brm_not (fun h => ?_) (fun h => ?_) <;> (conv => whnf)
  · have : itemsB (sb s) = [] := by simp [itemsB, items, h]
    rw [this]
    exact vfin_nil
  have hL : (sb s).length ≤ 400 := by
    simp only [visibleOk, Bool.and_eq_true, decide_eq_true_eq] at h; exact h.1
  have hT : itemsB (sb s) = gI (sb s) false [] := by simp [itemsB, items, h, gI]
  rw [hT]
  refine vloop_intro hΘ hB (ι := ISt) (fun | ⟨acc, fr, o, i⟩ => ⟨[(0, .val (.string s)), (3, .ptr 3 0), (4, .val (.int .i64 fr)), (5, .val (.bool o)), (6, .cl 128 [.ptr 3 0]), (7, .val (.int .i64 i))], [(3, [.own 1 (acc.map strC)])]⟩)
    (fun x => (x.i ≤ (sb s).length ∧ x.fr ≤ x.i ∧ x.acc.length ≤ x.i ∧ x.acc ++ gI ((sb s).drop x.i) x.o (seg (sb s) x.fr x.i) = gI (sb s) false []) ∨ (x.i = (sb s).length + 1 ∧ x.fr ≤ (sb s).length ∧ x.acc.length ≤ x.i ∧ x.acc ++ eI ((sb s).drop x.fr) = gI (sb s) false [])) (fun x => (sb s).length + 1 - x.i) ⟨[], 0, false, 0⟩
    ⟨⟨.inr rfl, .inr rfl, .inr rfl, .inr rfl, .inr rfl, .inr rfl, trivial⟩, ⟨.inr rfl, trivial⟩, trivial⟩ (.inl ⟨Nat.zero_le _, Nat.le_refl _, Nat.le_refl _, rfl⟩) ?_
  rintro ⟨acc, fr, o, i⟩ k
  simp only at k
  (conv => whnf)
  refine brm_p (fun h1 => ?_) (fun h1 => ?_) <;> (conv => whnf)
  rotate_left
  · obtain ⟨q1, q2, q3⟩ : fr ≤ (sb s).length ∧ acc.length ≤ 1000 ∧ acc ++ eI ((sb s).drop fr) = gI (sb s) false [] := by
      rcases k with ⟨k1, k2, k3, k4⟩ | ⟨k1, k2, k3, k4⟩
      · have hi : i = (sb s).length := by omega
        subst hi
        rw [List.drop_eq_nil_of_le (Nat.le_refl _), gI_nil, seg_all] at k4
        exact ⟨k2, by omega, k4⟩
      · exact ⟨k2, by omega, k4⟩
    refine vrange_intro fr (sb s).length rfl rfl q1 (Nat.le_refl _) ?_
    (conv => whnf)
    have hsl : (sb (bs (((sb s).drop fr).take ((sb s).length - fr)))).length ≤ 140737488355328 := by rw [sb_bs]; simp; omega
    refine vcallS_introC (pb := [3]) rfl rfl rfl (itemsFn_c acc _ hsl (by omega)) ⟨⟨rfl, av rfl, rfl⟩, rfl, trivial⟩ ⟨vbox_intro rfl, trivial⟩ rfl ?_
    (conv => whnf)
    refine vfin_own ?_
    rw [← q3, sb_bs]
    have : ((sb s).drop fr).take ((sb s).length - fr) = (sb s).drop fr := by rw [List.take_of_length_le]; simp
    rw [this]
  obtain ⟨k1, k2, k3, k4⟩ : i ≤ (sb s).length ∧ fr ≤ i ∧ acc.length ≤ i ∧ acc ++ gI ((sb s).drop i) o (seg (sb s) fr i) = gI (sb s) false [] := by
    rcases k with k | ⟨k, _⟩
    · exact k
    · exfalso; omega
  have hw := wrap_succ (i := i) (by omega)
  have hw2 := wrap_succ (i := i + 1) (by omega)
  have hi : i < (sb s).length := by omega
  obtain ⟨b, hb, _, hd⟩ := drop_at hi
  rw [hd] at k4
  have hg := byteAt_get hb
  have hsg := seg_succ k2 hb
  have oth : ¬ (b = 44 ∧ o = false) → ¬ b = 34 → ¬ (b = 92 ∧ o = true) → acc ++ gI ((sb s).drop (i + 1)) o (seg (sb s) fr (i + 1)) = gI (sb s) false [] := by
    intro e1 e2 e3
    rw [hsg, ← gI_other e1 e2 e3]; exact k4
  have hbe : ∀ n : Nat, n < 256 → ((b.toNat : Int) = (n : Int) ↔ b = UInt8.ofNat n) := by
    intro n hn
    constructor
    · intro e; apply UInt8.toNat_inj.1; rw [UInt8.toNat_ofNat']; omega
    · intro e; rw [e, UInt8.toNat_ofNat']; omega
  have e44 := hbe 44 (by decide)
  have e34 := hbe 34 (by decide)
  have e92 := hbe 92 (by decide)
  refine vix_intro i rfl hi ?_
  (conv => whnf)
  rw [hg]
  refine brm_eq (fun h4 => ?_) (fun h4 => ?_) <;> (conv => whnf)
  · have : b = 34 := e34.1 h4
    subst this
    rw [gI_quote, ← hsg] at k4
    exact ⟨⟨acc, fr, !o, i + 1⟩, ⟨⟨.inr rfl, .inr rfl, .inr rfl, .inr rfl, .inr rfl, .inr (vint_eq hw), trivial⟩, ⟨.inr rfl, trivial⟩, trivial⟩, .inl ⟨hi, by simp only; omega, by simp only; omega, k4⟩, by simp only; omega⟩
  have h34 : ¬ b = 34 := fun e => h4 (e34.2 e)
  refine vix_intro i rfl hi ?_
  (conv => whnf)
  rw [hg]
  refine brm_eq (fun h5 => ?_) (fun h5 => ?_) <;> (conv => whnf)
  · have hb92 : b = 92 := e92.1 h5
    cases o with
    | false =>
      (conv => whnf)
      refine vix_intro i rfl hi ?_
      (conv => whnf)
      rw [hg]
      refine brm_eq (fun h6 => ?_) (fun h6 => ?_) <;> (conv => whnf)
      · exfalso; omega
      exact ⟨⟨acc, fr, false, i + 1⟩, ⟨⟨.inr rfl, .inr rfl, .inr rfl, .inr rfl, .inr rfl, .inr (vint_eq hw), trivial⟩, ⟨.inr rfl, trivial⟩, trivial⟩, .inl ⟨hi, by simp only; omega, by simp only; omega, oth (fun e => h6 (e44.2 e.1)) h34 (by simp)⟩, by simp only; omega⟩
    | true =>
      (conv => whnf)
      subst hb92
      by_cases h6 : i + 1 = (sb s).length
      · have hd2 : (sb s).drop (i + 1) = [] := List.drop_eq_nil_of_le (by omega)
        rw [hd2, gI_esc1, ← hsg] at k4
        refine ⟨⟨acc, fr, true, i + 2⟩, ⟨⟨.inr rfl, .inr rfl, .inr rfl, .inr rfl, .inr rfl, .inr (vint_eq ?_), trivial⟩, ⟨.inr rfl, trivial⟩, trivial⟩, .inr ⟨by simp only; omega, by simp only; omega, by simp only; omega, ?_⟩, by simp only; omega⟩
        · rw [hw]; exact hw2
        · simp only
          rw [← seg_all, ← h6]; exact k4
      · have hi2 : i + 1 < (sb s).length := by omega
        obtain ⟨d, hd2, _, hd3⟩ := drop_at hi2
        rw [hd3, gI_esc2, ← hsg, ← seg_succ (by omega) hd2] at k4
        refine ⟨⟨acc, fr, true, i + 2⟩, ⟨⟨.inr rfl, .inr rfl, .inr rfl, .inr rfl, .inr rfl, .inr (vint_eq ?_), trivial⟩, ⟨.inr rfl, trivial⟩, trivial⟩, .inl ⟨hi2, by simp only; omega, by simp only; omega, k4⟩, by simp only; omega⟩
        rw [hw]; exact hw2
  refine vix_intro i rfl hi ?_
  (conv => whnf)
  rw [hg]
  refine brm_eq (fun h6 => ?_) (fun h6 => ?_) <;> (conv => whnf)
  · have hb44 : b = 44 := e44.1 h6
    cases o with
    | true =>
      (conv => whnf)
      exact ⟨⟨acc, fr, true, i + 1⟩, ⟨⟨.inr rfl, .inr rfl, .inr rfl, .inr rfl, .inr rfl, .inr (vint_eq hw), trivial⟩, ⟨.inr rfl, trivial⟩, trivial⟩, .inl ⟨hi, by simp only; omega, by simp only; omega, oth (by simp) h34 (fun e => h5 (e92.2 e.1))⟩, by simp only; omega⟩
    | false =>
      (conv => whnf)
      subst hb44
      rw [gI_comma] at k4
      refine vrange_intro fr i rfl rfl k2 k1 ?_
      (conv => whnf)
      have hsl : (sb (bs (((sb s).drop fr).take (i - fr)))).length ≤ 140737488355328 := by rw [sb_bs]; simp; omega
      refine vcallS_introC (pb := [3]) rfl rfl rfl (itemsFn_c acc _ hsl (by omega)) ⟨⟨rfl, av rfl, rfl⟩, rfl, trivial⟩ ⟨vbox_intro rfl, trivial⟩ rfl ?_
      (conv => whnf)
      refine ⟨⟨acc ++ eI (seg (sb s) fr i), i + 1, false, i + 1⟩, ⟨⟨.inr rfl, .inr rfl, .inr (vint_eq hw), .inr rfl, .inr rfl, .inr (vint_eq hw), trivial⟩, ⟨.inr rfl, trivial⟩, trivial⟩, .inl ⟨by simp only; omega, Nat.le_refl _, ?_, ?_⟩, by simp only; omega⟩
      · have := emitI_cnt (seg (sb s) fr i)
        simp [eI]; omega
      · simp only
        rw [seg_self, ← k4, List.append_assoc]
  · exact ⟨⟨acc, fr, o, i + 1⟩, ⟨⟨.inr rfl, .inr rfl, .inr rfl, .inr rfl, .inr rfl, .inr (vint_eq hw), trivial⟩, ⟨.inr rfl, trivial⟩, trivial⟩, .inl ⟨hi, by simp only; omega, by simp only; omega, oth (fun e => h6 (e44.2 e.1)) h34 (fun e => h5 (e92.2 e.1))⟩, by simp only; omega⟩
end Go.Proofs.YtfdmlccbfbiloaaGreatDoor
namespace Go.Proofs.YtfdmlccbfbiloaaGreatDoor
open Go Go.Proofs.YtfdmlccbfbiloaaGreatDoor.Vs
variable [Gl]
set_option linter.unusedSectionVars false

/-! #### fields without some names -/
def sameN (n : ByteArray) (p : Fd) : Bool := lower (sb n) == lower (sb p.1)
def withoutF (ns : List ByteArray) (xs : List Fd) : List Fd := xs.filter fun p => !(ns.any fun n => sameN n p)
theorem withoutF_le (ns : List ByteArray) (xs : List Fd) : (withoutF ns xs).length ≤ xs.length := List.length_filter_le _ _
theorem withoutF_mem {ns : List ByteArray} {xs : List Fd} {p : Fd} (h : p ∈ withoutF ns xs) : p ∈ xs := (List.mem_filter.1 h).1
theorem withoutF_cons {ns : List ByteArray} {p : Fd} {xs : List Fd} : withoutF ns (p :: xs) = (if (ns.any fun n => sameN n p) = true then [] else [p]) ++ withoutF ns xs := by
  unfold withoutF
  rw [List.filter_cons]
  cases h : ns.any fun n => sameN n p <;> simp
theorem withoutF_app (ns ms : List ByteArray) (xs : List Fd) : withoutF (ns ++ ms) xs = withoutF ms (withoutF ns xs) := by
  unfold withoutF
  rw [List.filter_filter]
  congr 1
  funext p
  rw [List.any_append, Bool.not_or, Bool.and_comm]
theorem withoutF_swap (ns ms : List ByteArray) (xs : List Fd) : withoutF (ns ++ ms) xs = withoutF (ms ++ ns) xs := by
  unfold withoutF
  congr 1
  funext p
  rw [List.any_append, List.any_append, Bool.or_comm]
theorem withoutF_nil (xs : List Fd) : withoutF [] xs = xs := by simp [withoutF]

theorem withoutFn_c (p : Fd) (hp : szOk p) (n : ByteArray) (hn : (sb n).length ≤ 140737488355328) : VC Tryz.prog 171 ([.val (.string n)] ++ [.rp none (encF p)]) (.val (.bool (sameN n p))) := by
  refine VC.intro hΘ Tryz.func171 rfl rfl Tryz.ntmps171 rfl rfl rfl fun B hB => ?_
  (conv => whnf)
  refine vdraw_intro hΘ hB mixed (by kernel_rfl) ?_
  (conv => whnf)
  refine vcallQ_intro0 rfl (lowerI_c n hn) (f1 (av rfl) f0) rfl ?_
  (conv => whnf)
  refine vcallQ_intro0 rfl (lowerI_c p.1 hp.1) (f1 (av rfl) f0) rfl ?_
  (conv => whnf)
  refine vfin_bool ?_
  rw [sb_bs, sb_bs]; rfl
theorem indexFnS_c (f : Nat) (cs : List C) (p : ByteArray → Bool) (ns : List ByteArray) (hp : ∀ n ∈ ns, VC Tryz.prog f ([.val (.string n)] ++ [.rp none cs]) (.val (.bool (p n)))) (hl : ns.length ≤ 140737488355328) :
    VC Tryz.prog 132 [.rd none (.sl true 1 (ns.map strC)), .cl f [.rp none cs]] (.val (.int .i64 (idxFn p ns 0))) := by
  refine VC.intro hΘ Tryz.func132 rfl rfl Tryz.ntmps132 rfl rfl rfl fun B hB => ?_
  (conv => whnf)
  refine vloop_intro hΘ hB (ι := Nat) (fun i => ⟨[(0, .rd none (.sl true 1 (ns.map strC))), (1, .cl f [.rp none cs]), (7, .val (.int .i64 (ns.map strC).length)), (8, .val (.int .i64 i))], []⟩)
    (fun i => i ≤ ns.length ∧ idxFn p (ns.drop i) i = idxFn p ns 0) (fun i => ns.length - i) 0 ⟨⟨.inr rfl, .inr rfl, .inr rfl, .inr rfl, trivial⟩, trivial⟩ ⟨Nat.zero_le _, rfl⟩ ?_
  rintro i ⟨k1, k2⟩
  (conv => whnf)
  rw [List.length_map]
  refine brm_p (fun h => ?_) (fun h => ?_) <;> (conv => whnf)
  · obtain ⟨x, hg, hm, hd⟩ := drop_at (xs := ns) (i := i) (by omega)
    rw [hd, idxFn] at k2
    refine vat_intro i _ rfl (strs_at hg) ?_
    (conv => whnf)
    refine vcallS_intro rfl (hp x hm) (kp rfl k0) (f1 (av rfl) f0) ?_
    (conv => whnf)
    refine brm_intro (fun h2 => ?_) (fun h2 => ?_) <;> (conv => whnf)
    · refine vfin_int ?_
      rw [h2, if_pos rfl] at k2
      exact k2
    · rw [h2] at k2
      simp only [Bool.false_eq_true, if_false] at k2
      exact ⟨i + 1, ⟨⟨.inr rfl, .inr rfl, .inr rfl, .inr (vint_eq (wrap_succ (by omega))), trivial⟩, trivial⟩, ⟨by omega, k2⟩, by omega⟩
  · refine vfin_int ?_
    have : ns.drop i = [] := List.drop_eq_nil_of_le (by omega)
    rw [this] at k2
    exact k2
theorem containsFnS_c (f : Nat) (cs : List C) (p : ByteArray → Bool) (ns : List ByteArray) (hp : ∀ n ∈ ns, VC Tryz.prog f ([.val (.string n)] ++ [.rp none cs]) (.val (.bool (p n)))) (hl : ns.length ≤ 140737488355328) :
    VC Tryz.prog 96 [.rd none (.sl true 1 (ns.map strC)), .cl f [.rp none cs]] (.val (.bool (ns.any p))) := by
  refine VC.intro hΘ Tryz.func96 rfl rfl Tryz.ntmps96 rfl rfl rfl fun B hB => ?_
  (conv => whnf)
  refine vcallS_intro0 rfl (indexFnS_c f cs p ns hp hl) (f1 (ar rfl rfl) (f1 (acl (kp rfl k0)) f0)) ?_
  (conv => whnf)
  exact vfin_bool (idxFn_nonneg p ns 0)
theorem withoutI_c (xs : List Fd) (ns : List ByteArray) (hx : ∀ x ∈ xs, szOk x) (hn : ∀ n ∈ ns, (sb n).length ≤ 140737488355328) (hl : xs.length ≤ 1000000000) (hnl : ns.length ≤ 1000000000) : VC Tryz.prog 140 [.rd none (.sl true 2 (xs.map encF)), .rd none (.sl true 1 (ns.map strC))] (.own 2 ((withoutF ns xs).map encF)) := by
  refine VC.intro hΘ Tryz.func140 rfl rfl Tryz.ntmps140 rfl rfl rfl fun B hB => ?_
  (conv => whnf)
  refine vloop_intro hΘ hB (ι := Nat × List Fd) (fun x => ⟨[(1, .rd none (.sl true 1 (ns.map strC))), (5, .own 2 (x.2.map encF)), (9, .rd none (.sl true 2 (xs.map encF))), (10, .val (.int .i64 (xs.map encF).length)), (11, .val (.int .i64 x.1))], []⟩)
    (fun x => x.1 ≤ xs.length ∧ x.2.length ≤ x.1 ∧ x.2 ++ withoutF ns (xs.drop x.1) = withoutF ns xs) (fun x => xs.length - x.1) (0, [])
    ⟨⟨.inr rfl, .inr rfl, .inr rfl, .inr rfl, .inr rfl, trivial⟩, trivial⟩ ⟨Nat.zero_le _, Nat.le_refl _, rfl⟩ ?_
  rintro ⟨i, acc⟩ ⟨k1, k2, k3⟩
  simp only at k1 k2 k3
  (conv => whnf)
  rw [List.length_map]
  refine brm_p (fun h => ?_) (fun h => ?_) <;> (conv => whnf)
  · obtain ⟨x, hg, hm, hd⟩ := drop_at (xs := xs) (i := i) (by omega)
    rw [hd, withoutF_cons] at k3
    have hw := wrap_succ (i := i) (by omega)
    refine vat_intro i (encF x) rfl (map_at hg) ?_
    (conv => whnf)
    refine vcallS_intro0 rfl (containsFnS_c 171 (encF x) (fun n => sameN n x) ns (fun n hn' => withoutFn_c x (hx x hm) n (hn n hn')) (by omega)) (f1 (ar rfl rfl) (f1 (acl (kp (pb rfl rfl) k0)) f0)) ?_
    (conv => whnf)
    refine brm_not (fun h2 => ?_) (fun h2 => ?_) <;> (conv => whnf)
    · simp only [h2, Bool.false_eq_true, if_false, ← List.append_assoc] at k3
      refine vreq_intro (by rw [List.length_map]; show (acc.length + 1) * 33 ≤ _; omega) ?_
      (conv => whnf)
      refine ⟨(i + 1, acc ++ [x]), ⟨⟨.inr rfl, .inr (vown_eq ?_), .inr rfl, .inr rfl, .inr (vint_eq hw), trivial⟩, trivial⟩, ⟨by simp only; omega, by simp; omega, k3⟩, by simp only; omega⟩
      rw [List.map_append]; rfl
    · simp only [h2, if_true, List.nil_append] at k3
      exact ⟨(i + 1, acc), ⟨⟨.inr rfl, .inr rfl, .inr rfl, .inr rfl, .inr (vint_eq hw), trivial⟩, trivial⟩, ⟨by simp only; omega, by simp only; omega, k3⟩, by simp only; omega⟩
  · have hi : xs.drop i = [] := List.drop_eq_nil_of_le (by omega)
    rw [hi] at k3
    refine vfin_own ?_
    rw [← k3]; simp [withoutF]
end Go.Proofs.YtfdmlccbfbiloaaGreatDoor
namespace Go.Proofs.YtfdmlccbfbiloaaGreatDoor
open Go Go.Proofs.YtfdmlccbfbiloaaGreatDoor.Vs
variable [Gl]
set_option linter.unusedSectionVars false
/-! #### trees of a row's arguments -/
theorem fd_of {n : Nat} {xs : List (List C)} (h : ∀ x ∈ xs, Ty Θ (n + 2) 82 x) : ∃ l : List Fd, xs = l.map encF ∧ ∀ p ∈ l, szOk p := by
  induction xs with
  | nil => exact ⟨[], rfl, by simp⟩
  | cons x r ih =>
    obtain ⟨l, rfl, hl⟩ := ih (fun y hy => h y (by simp [hy]))
    obtain ⟨c1, c2, rfl, ⟨s1, rfl, h1⟩, c3, c4, rfl, ⟨s2, rfl, h2⟩, rfl⟩ := (h x (by simp) : TyF (Ty Θ (n + 1)) [(0, 9), (1, 9)] x)
    refine ⟨(s1, s2) :: l, rfl, fun p hp => ?_⟩
    rcases List.mem_cons.1 hp with rfl | hp
    · exact ⟨Nat.le_trans h1 (by decide), Nat.le_trans h2 (by decide)⟩
    · exact hl p hp
end Go.Proofs.YtfdmlccbfbiloaaGreatDoor
namespace Go.Proofs.YtfdmlccbfbiloaaGreatDoor
open Go Go.Proofs.YtfdmlccbfbiloaaGreatDoor.Vs
variable [Gl]
set_option linter.unusedSectionVars false

/-! #### responses and objects -/
structure Rsp where
  st : Int
  fs : List Fd
  bd : ByteArray
structure Obj where
  key : ByteArray
  fs : List Fd
  r : Rsp
  asked : Int
  got : Int
  ep : Int
def rdF (xs : List Fd) : V := .rd none (.sl true 2 (xs.map encF))
def owF (xs : List Fd) : V := .own 2 (xs.map encF)
def Rsp.cs (r : Rsp) (x : V) : V := .agg [.val (.int .i64 r.st), x, .val (.string r.bd)]
def Obj.cs (o : Obj) (x y : V) : V := .agg [.val (.string o.key), x, .val (.int .i64 o.r.st), y, .val (.string o.r.bd), .val (.int .i64 o.asked), .val (.int .i64 o.got), .val (.int .i64 o.ep)]
def Rsp.rd (r : Rsp) : V := r.cs (rdF r.fs)
def Rsp.ow (r : Rsp) : V := r.cs (owF r.fs)
def Obj.rd (o : Obj) : V := o.cs (rdF o.fs) (rdF o.r.fs)
def Obj.ow (o : Obj) : V := o.cs (owF o.fs) (owF o.r.fs)

/-! #### sizes -/
def szL (l : Int) (xs : List Fd) : Int := if l - xs.length < 0 then -1 else szFS (l - xs.length) xs
theorem szFS_le : ∀ {xs : List Fd} {l : Int}, 0 ≤ l → szFS l xs ≤ l
  | [], l, _ => Int.le_refl _
  | x :: r, l, h => by
    rw [szFS]
    split
    · omega
    · rename_i h1
      exact Int.le_trans (szFS_le (by omega)) (szF_le h)
theorem szL_le {xs : List Fd} {l : Int} (h : 0 ≤ l) : szL l xs ≤ l := by
  unfold szL
  split
  · omega
  · rename_i h1
    exact Int.le_trans (szFS_le (by omega)) (by omega)
def szR (l : Int) (r : Rsp) : Int := if szL l r.fs < 0 then -1 else if szL l r.fs - (sb r.bd).length < 0 then -1 else szL l r.fs - (sb r.bd).length
def szO (l : Int) (o : Obj) : Int := if l - (sb o.key).length < 0 then -1 else if szL (l - (sb o.key).length) o.fs < 0 then -1 else if szR (szL (l - (sb o.key).length) o.fs) o.r < 0 then -1 else szR (szL (l - (sb o.key).length) o.fs) o.r
def fdOk (xs : List Fd) : Prop := xs.length ≤ 140737488355328 ∧ ∀ x ∈ xs, szOk x
def Rsp.ok (r : Rsp) : Prop := fdOk r.fs ∧ (sb r.bd).length ≤ 140737488355328
def Obj.ok (o : Obj) : Prop := (sb o.key).length ≤ 140737488355328 ∧ fdOk o.fs ∧ o.r.ok

theorem szResponse_c (r : Rsp) (l : Int) (h1 : 0 ≤ l) (h2 : l ≤ 1048576) (hr : r.ok) : VC Tryz.prog 32 [r.rd, .val (.int .i64 l)] (.val (.int .i64 (szR l r))) := by
  refine VC.intro hΘ Tryz.func32 rfl rfl Tryz.ntmps32 rfl rfl rfl fun B hB => ?_
  have hle := szL_le (xs := r.fs) h1
  have hb := hr.2
  (conv => whnf)
  refine call_i (x := szL l r.fs) rfl (szFieldS_c r.fs l h1 h2 hr.1.1 hr.1.2) (f1 (ar rfl rfl) (f1 (av rfl) f0)) fun y hy => ?_
  subst hy
  (conv => whnf)
  refine brm_p (fun h => ?_) (fun h => ?_) <;> (conv => whnf)
  · refine vfin_int ?_
    simp [szR, h]
  · have hw : IntKind.i64.wrap (szL l r.fs - (sb r.bd).length) = szL l r.fs - (sb r.bd).length := wrap_i64 (by omega) (by omega)
    rw [hw]
    refine brm_p (fun h' => ?_) (fun h' => ?_) <;> (conv => whnf)
    · refine vfin_int ?_
      simp [szR, h, h']
    · refine vfin_int ?_
      simp [szR, h, h']
theorem szR_le {r : Rsp} {l : Int} (h : 0 ≤ l) : szR l r ≤ l := by
  have := szL_le (xs := r.fs) h
  unfold szR
  split
  · omega
  · split <;> omega
theorem szObject_c (o : Obj) (l : Int) (h1 : 0 ≤ l) (h2 : l ≤ 1048576) (hr : o.ok) : VC Tryz.prog 12 [o.rd, .val (.int .i64 l)] (.val (.int .i64 (szO l o))) := by
  refine VC.intro hΘ Tryz.func12 rfl rfl Tryz.ntmps12 rfl rfl rfl fun B hB => ?_
  have hk := hr.1
  (conv => whnf)
  have hw : IntKind.i64.wrap (l - (sb o.key).length) = l - (sb o.key).length := wrap_i64 (by omega) (by omega)
  rw [hw]
  refine brm_p (fun h => ?_) (fun h => ?_) <;> (conv => whnf)
  · refine vfin_int ?_
    simp [szO, h]
  have hle := szL_le (xs := o.fs) (l := l - (sb o.key).length) (by omega)
  refine call_i (x := szL (l - (sb o.key).length) o.fs) rfl (szFieldS_c o.fs (l - (sb o.key).length) (by omega) (by omega) hr.2.1.1 hr.2.1.2) (f1 (ar rfl rfl) (f1 (av rfl) f0)) fun y hy => ?_
  (conv => whnf)
  refine brm_p (fun h' => ?_) (fun h' => ?_) <;> (conv => whnf)
  · refine vfin_int ?_
    rw [hy] at h'
    simp [szO, h, h']
  refine call_i (x := szR y o.r) rfl (szResponse_c o.r y (by omega) (by omega) hr.2.2) (f1 (fa (l1 (fv rfl) (l1 (fr rfl rfl) (l1 (fv rfl) l0)))) (f1 (av rfl) f0)) fun z hz => ?_
  (conv => whnf)
  refine brm_p (fun h3 => ?_) (fun h3 => ?_) <;> (conv => whnf)
  · refine vfin_int ?_
    rw [hz, hy] at h3
    rw [hy] at h'
    simp [szO, h, h', h3]
  · refine vfin_int ?_
    rw [hz, hy] at h3
    rw [hy] at h'
    rw [hz, hy]
    simp [szO, h, h', h3]

/-! #### as it is -/
theorem toResponse_c (r : Rsp) (hl : r.fs.length ≤ 2097152) : VC Tryz.prog 35 [r.rd] r.ow := by
  refine VC.intro hΘ Tryz.func35 rfl rfl Tryz.ntmps35 rfl rfl rfl fun B hB => ?_
  (conv => whnf)
  refine vcallS_intro0 rfl (toFieldS_c r.fs hl) (f1 (ar rfl rfl) f0) ?_
  (conv => whnf)
  exact vfin_agg rfl
set_option maxRecDepth 10000 in
theorem toObject_c (o : Obj) (hl : o.fs.length ≤ 2097152) (hl' : o.r.fs.length ≤ 2097152) : VC Tryz.prog 15 [o.rd] o.ow := by
  refine VC.intro hΘ Tryz.func15 rfl rfl Tryz.ntmps15 rfl rfl rfl fun B hB => ?_
  (conv => whnf)
  refine vcallS_intro0 rfl (toFieldS_c o.fs hl) (f1 (ar rfl rfl) f0) ?_
  (conv => whnf)
  refine vcallS_intro0 rfl (toResponse_c o.r hl') (f1 (fa (l1 (fv rfl) (l1 (fr rfl rfl) (l1 (fv rfl) l0)))) f0) ?_
  (conv => whnf)
  exact vfin_agg rfl
theorem eqResponse_c (r : Rsp) (hl : r.fs.length ≤ 2097152) : VC Tryz.prog 38 [r.rd, r.rd] (.val (.bool true)) := by
  refine VC.intro hΘ Tryz.func38 rfl rfl Tryz.ntmps38 rfl rfl rfl fun B hB => ?_
  (conv => whnf)
  refine brm_ne (fun h => absurd rfl h) (fun _ => ?_)
  (conv => whnf)
  refine vcallS_intro0 rfl (eqFieldS_c r.fs hl) (f1 (ar rfl rfl) (f1 (ar rfl rfl) f0)) ?_
  (conv => whnf)
  refine brm_ne' (fun h => absurd rfl h) (fun _ => ?_)
  (conv => whnf)
  exact vfin_bool rfl
theorem eqObject_c (o : Obj) (hl : o.fs.length ≤ 2097152) (hl' : o.r.fs.length ≤ 2097152) : VC Tryz.prog 17 [o.rd, o.rd] (.val (.bool true)) := by
  refine VC.intro hΘ Tryz.func17 rfl rfl Tryz.ntmps17 rfl rfl rfl fun B hB => ?_
  (conv => whnf)
  refine brm_ne' (fun h => absurd rfl h) (fun _ => ?_)
  (conv => whnf)
  refine vcallS_intro0 rfl (eqFieldS_c o.fs hl) (f1 (ar rfl rfl) (f1 (ar rfl rfl) f0)) ?_
  (conv => whnf)
  refine vcallS_intro0 rfl (eqResponse_c o.r hl') (f1 (fa (l1 (fv rfl) (l1 (fr rfl rfl) (l1 (fv rfl) l0)))) (f1 (fa (l1 (fv rfl) (l1 (fr rfl rfl) (l1 (fv rfl) l0)))) f0)) ?_
  (conv => whnf)
  refine brm_ne (fun h => absurd rfl h) (fun _ => ?_)
  (conv => whnf)
  refine brm_ne (fun h => absurd rfl h) (fun _ => ?_)
  (conv => whnf)
  refine brm_ne (fun h => absurd rfl h) (fun _ => ?_)
  (conv => whnf)
  exact vfin_bool rfl

end Go.Proofs.YtfdmlccbfbiloaaGreatDoor
namespace Go.Proofs.YtfdmlccbfbiloaaGreatDoor
open Go Go.Proofs.YtfdmlccbfbiloaaGreatDoor.Vs
variable [Gl]
set_option linter.unusedSectionVars false

/-! #### what is an object -/
def grB (b : UInt8) : Bool := decide (33 ≤ b.toNat) && decide (b.toNat ≤ 126)
def keyOk (l : List UInt8) : Bool := l.all grB && decide (l.length ≤ 500)
def inR (x lo hi : Int) : Bool := decide (lo ≤ x) && decide (x ≤ hi)
def bareSt (x : Int) : Bool := x == 204 || x == 304
def lenN : ByteArray := ⟨#[99, 111, 110, 116, 101, 110, 116, 45, 108, 101, 110, 103, 116, 104]⟩
def codN : ByteArray := ⟨#[116, 114, 97, 110, 115, 102, 101, 114, 45, 101, 110, 99, 111, 100, 105, 110, 103]⟩
def hasF (n : ByteArray) (xs : List Fd) : Bool := decide (hitsOf n xs ≠ [])
def msgF (xs : List Fd) : Bool := (fieldsOk xs && !hasF lenN xs) && !hasF codN xs
def Rsp.good (r : Rsp) : Bool := ((inR r.st 200 599 && msgF r.fs) && decide ((sb r.bd).length ≤ 4000)) && (!bareSt r.st || sb r.bd == [])
def Obj.good (o : Obj) : Bool := (((((keyOk (sb o.key) && fieldsOk o.fs) && o.r.good) && inR o.asked 0 253402300799) && inR o.got 0 253402300799) && decide (o.asked ≤ o.got)) && inR o.ep 0 100000

theorem l1In_c (x lo hi : Int) : VC Tryz.prog 86 [.val (.int .i64 x), .val (.int .i64 lo), .val (.int .i64 hi)] (.val (.bool (inR x lo hi))) := by
  refine VC.intro hΘ Tryz.func86 rfl rfl Tryz.ntmps86 rfl rfl rfl fun B hB => ?_
  (conv => whnf)
  repeat' first
    | (refine brm_intro (fun _ => ?_) (fun _ => ?_) <;> (conv => whnf))
    | refine vfin_bool (Bool.eq_iff_iff.2 ?_)
  all_goals (simp [inR] at *; try omega)
theorem within_c (x lo hi : Int) : VC Tryz.prog 89 [.val (.int .i64 x), .val (.int .i64 lo), .val (.int .i64 hi)] (.val (.bool (inR x lo hi))) := by
  refine VC.intro hΘ Tryz.func89 rfl rfl Tryz.ntmps89 rfl rfl rfl fun B hB => ?_
  (conv => whnf)
  repeat' first
    | (refine brm_intro (fun _ => ?_) (fun _ => ?_) <;> (conv => whnf))
    | refine vfin_bool (Bool.eq_iff_iff.2 ?_)
  all_goals (simp [inR] at *; try omega)
theorem l10Moment_c (x : Int) : VC Tryz.prog 75 [.val (.int .i64 x)] (.val (.bool (inR x 0 253402300799))) := by
  refine VC.intro hΘ Tryz.func75 rfl rfl Tryz.ntmps75 rfl rfl rfl fun B hB => ?_
  (conv => whnf)
  refine vcallS_intro0 rfl (l1In_c x 0 253402300799) (f1 (av rfl) (f1 (av rfl) (f1 (av rfl) f0))) ?_
  (conv => whnf)
  exact vfin_bool rfl
theorem isMoment_c (x : Int) : VC Tryz.prog 80 [.val (.int .i64 x)] (.val (.bool (inR x 0 253402300799))) := by
  refine VC.intro hΘ Tryz.func80 rfl rfl Tryz.ntmps80 rfl rfl rfl fun B hB => ?_
  (conv => whnf)
  refine vcallS_intro0 rfl (within_c x 0 253402300799) (f1 (av rfl) (f1 (av rfl) (f1 (av rfl) f0))) ?_
  (conv => whnf)
  exact vfin_bool rfl
theorem isEpoch_c (x : Int) : VC Tryz.prog 91 [.val (.int .i64 x)] (.val (.bool (inR x 0 100000))) := by
  refine VC.intro hΘ Tryz.func91 rfl rfl Tryz.ntmps91 rfl rfl rfl fun B hB => ?_
  (conv => whnf)
  refine vcallS_intro0 rfl (within_c x 0 100000) (f1 (av rfl) (f1 (av rfl) (f1 (av rfl) f0))) ?_
  (conv => whnf)
  exact vfin_bool rfl
theorem isStatus_c (x : Int) : VC Tryz.prog 109 [.val (.int .i64 x)] (.val (.bool (inR x 200 599))) := by
  refine VC.intro hΘ Tryz.func109 rfl rfl Tryz.ntmps109 rfl rfl rfl fun B hB => ?_
  (conv => whnf)
  refine vcallS_intro0 rfl (within_c x 200 599) (f1 (av rfl) (f1 (av rfl) (f1 (av rfl) f0))) ?_
  (conv => whnf)
  exact vfin_bool rfl
theorem l6Bare_c (x : Int) : VC Tryz.prog 102 [.val (.int .i64 x)] (.val (.bool (bareSt x))) := by
  refine VC.intro hΘ Tryz.func102 rfl rfl Tryz.ntmps102 rfl rfl rfl fun B hB => ?_
  (conv => whnf)
  repeat' first
    | (refine brm_intro (fun _ => ?_) (fun _ => ?_) <;> (conv => whnf))
    | refine vfin_bool (Bool.eq_iff_iff.2 ?_)
  all_goals (simp [bareSt] at *; try omega)
theorem isBare_c (x : Int) : VC Tryz.prog 111 [.val (.int .i64 x)] (.val (.bool (bareSt x))) := by
  refine VC.intro hΘ Tryz.func111 rfl rfl Tryz.ntmps111 rfl rfl rfl fun B hB => ?_
  (conv => whnf)
  repeat' first
    | (refine brm_intro (fun _ => ?_) (fun _ => ?_) <;> (conv => whnf))
    | refine vfin_bool (Bool.eq_iff_iff.2 ?_)
  all_goals (simp [bareSt] at *; try omega)
theorem graphicFn_c (b : UInt8) : VC Tryz.prog 125 [.val (.int .u8 b.toNat)] (.val (.bool (grB b))) := by
  refine VC.intro hΘ Tryz.func125 rfl rfl Tryz.ntmps125 rfl rfl rfl fun B hB => ?_
  (conv => whnf)
  repeat' first
    | (refine brm_intro (fun _ => ?_) (fun _ => ?_) <;> (conv => whnf))
    | refine vfin_bool (Bool.eq_iff_iff.2 ?_)
  all_goals (simp [grB] at *; try omega)
theorem isGraphic_c (s : ByteArray) (hs : (sb s).length ≤ 140737488355328) : VC Tryz.prog 90 [.val (.string s)] (.val (.bool ((sb s).all grB))) := by
  refine VC.intro hΘ Tryz.func90 rfl rfl Tryz.ntmps90 rfl rfl rfl fun B hB => ?_
  (conv => whnf)
  refine vcallS_intro0 rfl (all_c 125 grB graphicFn_c s hs) (f1 (av rfl) (f1 (av rfl) f0)) ?_
  (conv => whnf)
  exact vfin_bool rfl
theorem l10Key_c (s : ByteArray) (hs : (sb s).length ≤ 140737488355328) : VC Tryz.prog 87 [.val (.string s)] (.val (.bool (keyOk (sb s)))) := by
  refine VC.intro hΘ Tryz.func87 rfl rfl Tryz.ntmps87 rfl rfl rfl fun B hB => ?_
  (conv => whnf)
  refine vloop_intro hΘ hB (ι := Nat) (fun i => ⟨[(0, .val (.string s)), (3, .val (.int .i64 i))], []⟩) (fun i => i ≤ (sb s).length ∧ ((sb s).drop i).all grB = (sb s).all grB) (fun i => (sb s).length - i) 0
    ⟨⟨.inr rfl, .inr rfl, trivial⟩, trivial⟩ ⟨by omega, rfl⟩ ?_
  rintro i ⟨k1, k2⟩
  (conv => whnf)
  refine brm_p (fun h => ?_) (fun h => ?_) <;> (conv => whnf)
  · obtain ⟨b, hg, _, hd⟩ := drop_at (xs := sb s) (i := i) (by omega)
    rw [hd, List.all_cons] at k2
    have hb := byteAt_get hg
    refine vix_intro i rfl (by omega) ?_
    (conv => whnf)
    rw [hb]
    refine brm_p (fun h1 => ?_) (fun h1 => ?_) <;> (conv => whnf)
    · refine vfin_bool ?_
      have : grB b = false := by simp [grB]; omega
      rw [this, Bool.false_and] at k2
      rw [keyOk, ← k2, Bool.false_and]
    refine vix_intro i rfl (by omega) ?_
    (conv => whnf)
    rw [hb]
    refine brm_p (fun h2 => ?_) (fun h2 => ?_) <;> (conv => whnf)
    · refine vfin_bool ?_
      have : grB b = false := by simp [grB]; omega
      rw [this, Bool.false_and] at k2
      rw [keyOk, ← k2, Bool.false_and]
    · have : grB b = true := by simp [grB]; omega
      rw [this, Bool.true_and] at k2
      exact ⟨i + 1, ⟨⟨.inr rfl, .inr (vint_eq (wrap_succ (by omega))), trivial⟩, trivial⟩, ⟨by omega, k2⟩, by omega⟩
  · refine vfin_bool ?_
    have : (sb s).drop i = [] := List.drop_eq_nil_of_le (by omega)
    rw [this] at k2
    rw [keyOk, ← k2]
    simp
    omega
theorem l6Fields_c (m : Nat) (xs : List Fd) (hx : ∀ x ∈ xs, szOk x) (hv : ∀ x ∈ xs, (sb x.2).length ≤ m) (hl : xs.length * (m + 2) ≤ 4222124650659900) (hl9 : xs.length ≤ 140737488355328) : VC Tryz.prog 101 [rdF xs] (.val (.bool (msgF xs))) := by
  refine VC.intro hΘ Tryz.func101 rfl rfl Tryz.ntmps101 rfl rfl rfl fun B hB => ?_
  (conv => whnf)
  have c1 := l4GetM_c m xs lenN hx hv (by decide) hl hl9
  have c2 := l4GetM_c m xs codN hx hv (by decide) hl hl9
  unfold getV at c1 c2
  unfold msgF hasF
  generalize decide (hitsOf lenN xs ≠ []) = b1 at c1 ⊢
  generalize decide (hitsOf codN xs ≠ []) = b2 at c2 ⊢
  generalize Lib.join (hitsOf lenN xs) comma = J1 at c1
  generalize Lib.join (hitsOf codN xs) comma = J2 at c2
  refine vcallS_intro0 rfl c1 (f1 (ar rfl rfl) (f1 (av rfl) f0)) ?_
  (conv => whnf)
  refine vcallS_intro0 rfl c2 (f1 (ar rfl rfl) (f1 (av rfl) f0)) ?_
  (conv => whnf)
  refine call_bb rfl (fieldsOkS_c xs hx hl9) (f1 (ar rfl rfl) f0) (fun h => ?_) (fun h => ?_) <;> (conv => whnf)
  · cases b1 <;> (conv => whnf)
    · exact vfin_bool (by rw [h]; rfl)
    · exact vfin_bool (by rw [h]; rfl)
  · exact vfin_bool (by rw [h]; rfl)
theorem hasF_no {n : ByteArray} {xs : List Fd} : hasF n xs = false ↔ ∀ p ∈ xs, sameN n p = false := by
  unfold hasF hitsOf
  simp only [decide_eq_false_iff_not, ne_eq, Decidable.not_not, List.map_eq_nil_iff, List.filter_eq_nil_iff, beq_iff_eq, sameN, beq_eq_false_iff_ne]
  exact ⟨fun h p hp e => h p hp e.symm, fun h p hp e => h p hp e.symm⟩
theorem own_len (xs : List Fd) : (((withoutF [lenN, codN] xs).length : Int) == (xs.length : Int)) = (!hasF lenN xs && !hasF codN xs) := by
  rw [Bool.eq_iff_iff]
  simp only [beq_iff_eq, Int.natCast_inj, Bool.and_eq_true, Bool.not_eq_true', hasF_no]
  unfold withoutF
  rw [List.length_filter_eq_length_iff]
  simp only [List.any_cons, List.any_nil, Bool.or_false, Bool.not_eq_true', Bool.or_eq_false_iff]
  exact ⟨fun h => ⟨fun p hp => (h p hp).1, fun p hp => (h p hp).2⟩, fun h p hp => ⟨h.1 p hp, h.2 p hp⟩⟩
theorem areOwn_c (xs : List Fd) (hx : ∀ x ∈ xs, szOk x) (hl9 : xs.length ≤ 140737488355328) : VC Tryz.prog 110 [rdF xs] (.val (.bool (msgF xs))) := by
  refine VC.intro hΘ Tryz.func110 rfl rfl Tryz.ntmps110 rfl rfl rfl fun B hB => ?_
  (conv => whnf)
  refine call_bb rfl (fieldsOkI_c xs hx hl9) (f1 (ar rfl rfl) f0) (fun h => ?_) (fun h => ?_) <;> (conv => whnf)
  · have hl : xs.length ≤ 30 := by
      simp only [fieldsOk, Bool.and_eq_true, decide_eq_true_eq] at h; exact h.1
    refine vcallS_intro0 rfl (withoutI_c xs [lenN, codN] hx (by intro n hn; simp only [List.mem_cons, List.not_mem_nil, or_false] at hn; rcases hn with rfl | rfl <;> decide) (by omega) (by decide)) (f1 (ar rfl rfl) (f1 (ah rfl rfl rfl) f0)) ?_
    (conv => whnf)
    refine vfin_bool ?_
    rw [List.length_map, List.length_map, own_len, msgF, h, Bool.true_and]
  · exact vfin_bool (by rw [msgF, h]; rfl)
theorem responseOkS_c (r : Rsp) (m : Nat) (hr : r.ok) (hv : ∀ x ∈ r.fs, (sb x.2).length ≤ m) (hl : r.fs.length * (m + 2) ≤ 4222124650659900) : VC Tryz.prog 64 [r.rd] (.val (.bool r.good)) := by
  refine VC.intro hΘ Tryz.func64 rfl rfl Tryz.ntmps64 rfl rfl rfl fun B hB => ?_
  (conv => whnf)
  refine call_bb rfl (l1In_c r.st 200 599) (f1 (av rfl) (f1 (av rfl) (f1 (av rfl) f0))) (fun h => ?_) (fun h => ?_) <;> (conv => whnf)
  rotate_left
  · exact vfin_bool (by rw [Rsp.good, h]; rfl)
  refine call_bb rfl (l6Fields_c m r.fs hr.1.2 hv hl hr.1.1) (f1 (ar rfl rfl) f0) (fun h1 => ?_) (fun h1 => ?_) <;> (conv => whnf)
  rotate_left
  · exact vfin_bool (by rw [Rsp.good, h, h1]; rfl)
  refine brm_p (fun h2 => ?_) (fun h2 => ?_) <;> (conv => whnf)
  rotate_left
  · exact vfin_bool (by rw [Rsp.good]; simp; omega)
  have e2 : decide ((sb r.bd).length ≤ 4000) = true := by simp; omega
  refine call_bb rfl (l6Bare_c r.st) (f1 (av rfl) f0) (fun h3 => ?_) (fun h3 => ?_) <;> (conv => whnf)
  · exact vfin_bool (by rw [Rsp.good, h, h1, e2, h3]; rfl)
  · exact vfin_bool (by rw [Rsp.good, h, h1, e2, h3]; rfl)
theorem responseOkI_c (r : Rsp) (hr : r.ok) : VC Tryz.prog 70 [r.rd] (.val (.bool r.good)) := by
  refine VC.intro hΘ Tryz.func70 rfl rfl Tryz.ntmps70 rfl rfl rfl fun B hB => ?_
  (conv => whnf)
  refine call_bb rfl (isStatus_c r.st) (f1 (av rfl) f0) (fun h => ?_) (fun h => ?_) <;> (conv => whnf)
  rotate_left
  · exact vfin_bool (by rw [Rsp.good, h]; rfl)
  refine call_bb rfl (areOwn_c r.fs hr.1.2 hr.1.1) (f1 (ar rfl rfl) f0) (fun h1 => ?_) (fun h1 => ?_) <;> (conv => whnf)
  rotate_left
  · exact vfin_bool (by rw [Rsp.good, h, h1]; rfl)
  refine brm_p (fun h2 => ?_) (fun h2 => ?_) <;> (conv => whnf)
  rotate_left
  · exact vfin_bool (by rw [Rsp.good]; simp; omega)
  have e2 : decide ((sb r.bd).length ≤ 4000) = true := by simp; omega
  refine brm_intro (fun h4 => ?_) (fun h4 => ?_) <;> (conv => whnf)
  · have h4 : (sb r.bd == []) = true := h4
    exact vfin_bool (by rw [Rsp.good, h, h1, e2, h4]; simp)
  have h4 : (sb r.bd == []) = false := h4
  refine call_bb rfl (isBare_c r.st) (f1 (av rfl) f0) (fun h3 => ?_) (fun h3 => ?_) <;> (conv => whnf)
  · exact vfin_bool (by rw [Rsp.good, h, h1, e2, h3, h4]; rfl)
  · exact vfin_bool (by rw [Rsp.good, h, h1, e2, h3, h4]; rfl)
set_option maxRecDepth 20000 in
theorem objectOkS_c (o : Obj) (m : Nat) (hr : o.ok) (hv : ∀ x ∈ o.r.fs, (sb x.2).length ≤ m) (hl : o.r.fs.length * (m + 2) ≤ 4222124650659900) : VC Tryz.prog 48 [o.rd] (.val (.bool o.good)) := by
  refine VC.intro hΘ Tryz.func48 rfl rfl Tryz.ntmps48 rfl rfl rfl fun B hB => ?_
  (conv => whnf)
  refine call_bb rfl (l10Key_c o.key hr.1) (f1 (av rfl) f0) (fun h => ?_) (fun h => ?_) <;> (conv => whnf)
  rotate_left
  · exact vfin_bool (by rw [Obj.good, h]; rfl)
  refine call_bb rfl (fieldsOkS_c o.fs hr.2.1.2 hr.2.1.1) (f1 (ar rfl rfl) f0) (fun h1 => ?_) (fun h1 => ?_) <;> (conv => whnf)
  rotate_left
  · exact vfin_bool (by rw [Obj.good, h, h1]; rfl)
  refine call_bb rfl (responseOkS_c o.r m hr.2.2 hv hl) (f1 (fa (l1 (fv rfl) (l1 (fr rfl rfl) (l1 (fv rfl) l0)))) f0) (fun h2 => ?_) (fun h2 => ?_) <;> (conv => whnf)
  rotate_left
  · exact vfin_bool (by rw [Obj.good, h, h1, h2]; rfl)
  refine call_bb rfl (l10Moment_c o.asked) (f1 (av rfl) f0) (fun h3 => ?_) (fun h3 => ?_) <;> (conv => whnf)
  rotate_left
  · exact vfin_bool (by rw [Obj.good, h, h1, h2, h3]; rfl)
  refine call_bb rfl (l10Moment_c o.got) (f1 (av rfl) f0) (fun h4 => ?_) (fun h4 => ?_) <;> (conv => whnf)
  rotate_left
  · exact vfin_bool (by rw [Obj.good, h, h1, h2, h3, h4]; rfl)
  refine brm_intro (fun h5 => ?_) (fun h5 => ?_) <;> (conv => whnf)
  rotate_left
  · exact vfin_bool (by rw [Obj.good, h, h1, h2, h3, h4, h5]; rfl)
  refine call_bb rfl (l1In_c o.ep 0 100000) (f1 (av rfl) (f1 (av rfl) (f1 (av rfl) f0))) (fun h6 => ?_) (fun h6 => ?_) <;> (conv => whnf)
  · exact vfin_bool (by rw [Obj.good, h, h1, h2, h3, h4, h5, h6]; rfl)
  · exact vfin_bool (by rw [Obj.good, h, h1, h2, h3, h4, h5, h6]; rfl)
theorem good_of (o : Obj) : o.good = ((((((decide ((sb o.key).length ≤ 500) && (sb o.key).all grB) && fieldsOk o.fs) && o.r.good) && inR o.got 0 253402300799) && inR o.asked 0 o.got) && inR o.ep 0 100000) := by
  unfold Obj.good keyOk
  rw [Bool.eq_iff_iff]
  simp only [Bool.and_eq_true, decide_eq_true_eq, inR]
  constructor
  · rintro ⟨⟨⟨⟨⟨⟨⟨a, b⟩, c⟩, d⟩, e1, e2⟩, f1, f2⟩, g⟩, i1, i2⟩
    exact ⟨⟨⟨⟨⟨⟨b, a⟩, c⟩, d⟩, f1, f2⟩, e1, g⟩, i1, i2⟩
  · rintro ⟨⟨⟨⟨⟨⟨b, a⟩, c⟩, d⟩, f1, f2⟩, e1, g⟩, i1, i2⟩
    exact ⟨⟨⟨⟨⟨⟨⟨a, b⟩, c⟩, d⟩, e1, by omega⟩, f1, f2⟩, g⟩, i1, i2⟩
set_option maxRecDepth 20000 in
theorem objectOkI_c (o : Obj) (hr : o.ok) : VC Tryz.prog 51 [o.rd] (.val (.bool o.good)) := by
  rw [good_of]
  refine VC.intro hΘ Tryz.func51 rfl rfl Tryz.ntmps51 rfl rfl rfl fun B hB => ?_
  (conv => whnf)
  refine brm_p (fun h0 => ?_) (fun h0 => ?_) <;> (conv => whnf)
  rotate_left
  · exact vfin_bool (by have : decide ((sb o.key).length ≤ 500) = false := by simp; omega
                        rw [this]; rfl)
  have e0 : decide ((sb o.key).length ≤ 500) = true := by simp; omega
  rw [e0]
  refine call_bb rfl (isGraphic_c o.key hr.1) (f1 (av rfl) f0) (fun h => ?_) (fun h => ?_) <;> (conv => whnf)
  rotate_left
  · exact vfin_bool (by rw [h]; rfl)
  refine call_bb rfl (fieldsOkI_c o.fs hr.2.1.2 hr.2.1.1) (f1 (ar rfl rfl) f0) (fun h1 => ?_) (fun h1 => ?_) <;> (conv => whnf)
  rotate_left
  · exact vfin_bool (by rw [h, h1]; rfl)
  refine call_bb rfl (responseOkI_c o.r hr.2.2) (f1 (fa (l1 (fv rfl) (l1 (fr rfl rfl) (l1 (fv rfl) l0)))) f0) (fun h2 => ?_) (fun h2 => ?_) <;> (conv => whnf)
  rotate_left
  · exact vfin_bool (by rw [h, h1, h2]; rfl)
  refine call_bb rfl (isMoment_c o.got) (f1 (av rfl) f0) (fun h3 => ?_) (fun h3 => ?_) <;> (conv => whnf)
  rotate_left
  · exact vfin_bool (by rw [h, h1, h2, h3]; rfl)
  refine call_bb rfl (within_c o.asked 0 o.got) (f1 (av rfl) (f1 (av rfl) (f1 (av rfl) f0))) (fun h4 => ?_) (fun h4 => ?_) <;> (conv => whnf)
  rotate_left
  · exact vfin_bool (by rw [h, h1, h2, h3, h4]; rfl)
  refine call_bb rfl (isEpoch_c o.ep) (f1 (av rfl) f0) (fun h5 => ?_) (fun h5 => ?_) <;> (conv => whnf)
  · exact vfin_bool (by rw [h, h1, h2, h3, h4, h5]; rfl)
  · exact vfin_bool (by rw [h, h1, h2, h3, h4, h5]; rfl)
end Go.Proofs.YtfdmlccbfbiloaaGreatDoor
namespace Go.Proofs.YtfdmlccbfbiloaaGreatDoor
open Go Go.Proofs.YtfdmlccbfbiloaaGreatDoor.Vs
variable [Gl]
set_option linter.unusedSectionVars false

/-! #### Renewed -/
def addF (acc : List Fd) (f : Fd) : List Fd := withoutF [f.1] acc ++ [f]
def addAll (rs xs : List Fd) : List Fd := rs.foldl addF xs
theorem addAll_mem : ∀ {rs xs : List Fd} {p : Fd}, p ∈ addAll rs xs → p ∈ rs ∨ p ∈ xs
  | [], xs, p, h => .inr h
  | f :: r, xs, p, h => by
    rcases addAll_mem (rs := r) (xs := addF xs f) h with h | h
    · exact .inl (by simp [h])
    · rcases List.mem_append.1 h with h | h
      · exact .inr (withoutF_mem h)
      · simp only [List.mem_singleton] at h; exact .inl (by simp [h])
theorem addAll_len : ∀ (rs xs : List Fd), (addAll rs xs).length ≤ xs.length + rs.length
  | [], xs => Nat.le_refl _
  | f :: r, xs => by
    have := addAll_len r (addF xs f)
    have h2 := withoutF_le [f.1] xs
    have e : addAll (f :: r) xs = addAll r (addF xs f) := rfl
    rw [e]
    simp only [addF, List.length_append, List.length_cons, List.length_nil] at this ⊢
    omega
theorem addAll_take {rs xs : List Fd} {i : Nat} {f : Fd} (h : rs[i]? = some f) : addAll (rs.take (i + 1)) xs = withoutF [f.1] (addAll (rs.take i) xs) ++ [f] := by
  unfold addAll
  rw [List.take_add_one, h, List.foldl_append]; rfl
def zeroObj : Obj := ⟨⟨⟨[]⟩⟩, [], ⟨0, [], ⟨⟨[]⟩⟩⟩, 0, 0, 0⟩
def renewO (o : Obj) (r : Rsp) (a g : Int) : Obj := ⟨o.key, o.fs, ⟨o.r.st, addAll r.fs o.r.fs, o.r.bd⟩, a, g, o.ep⟩
def renewOk (o : Obj) (r : Rsp) (a g : Int) : Bool := ((o.good && r.good) && r.st == 304) && (renewO o r a g).good
def renewRes (o : Obj) (r : Rsp) (a g : Int) : Obj := if renewOk o r a g then renewO o r a g else zeroObj
def renewV (o : Obj) (b : Bool) : V := .tup [o.ow, .val (.bool b)]
theorem good_fs {o : Obj} (h : o.good = true) : fieldsOk o.fs = true ∧ fieldsOk o.r.fs = true := by
  simp only [Obj.good, Rsp.good, msgF, Bool.and_eq_true] at h
  exact ⟨h.1.1.1.1.1.2, h.1.1.1.1.2.1.1.2.1.1⟩
theorem goodR_fs {r : Rsp} (h : r.good = true) : fieldsOk r.fs = true := by
  simp only [Rsp.good, msgF, Bool.and_eq_true] at h
  exact h.1.1.2.1.1
theorem fieldsOk_len {xs : List Fd} (h : fieldsOk xs = true) : xs.length ≤ 30 := by
  simp only [fieldsOk, Bool.and_eq_true, decide_eq_true_eq] at h; exact h.1
theorem fieldsOk_val {xs : List Fd} (h : fieldsOk xs = true) : ∀ x ∈ xs, (sb x.2).length ≤ 400 := by
  intro x hx
  simp only [fieldsOk, Bool.and_eq_true, decide_eq_true_eq, List.all_eq_true, fieldOk, visibleOk] at h
  exact (h.2 x hx).1.2.1
theorem renew_len (o : Obj) (r : Rsp) (a g : Int) : (renewRes o r a g).fs.length ≤ 30 ∧ (renewRes o r a g).r.fs.length ≤ 30 := by
  unfold renewRes
  split
  · rename_i h
    simp only [renewOk, Bool.and_eq_true] at h
    exact ⟨fieldsOk_len (good_fs h.2).1, fieldsOk_len (good_fs h.2).2⟩
  · exact ⟨Nat.zero_le _, Nat.zero_le _⟩
theorem renew_no {o : Obj} {r : Rsp} {a g : Int} (h : renewOk o r a g = false) : renewRes o r a g = zeroObj := by simp [renewRes, h]
theorem renew_yes {o : Obj} {r : Rsp} {a g : Int} (h : renewOk o r a g = true) : renewRes o r a g = renewO o r a g := by simp [renewRes, h]
/-- the zero object, as the program makes it -/
theorem fin_zero : vfin (.tup [.agg [.val (.string ⟨⟨[]⟩⟩), nilV, .val (.int .i64 0), nilV, .val (.string ⟨⟨[]⟩⟩), .val (.int .i64 0), .val (.int .i64 0), .val (.int .i64 0)], .val (.bool false)]) (renewV zeroObj false) :=
  vfin_wk (wk_tup ⟨.inl (.inr ⟨_, _, rfl, rfl, ⟨.inr rfl, .inl wk_nil1, .inr rfl, .inl wk_nil1, .inr rfl, .inr rfl, .inr rfl, .inr rfl, trivial⟩⟩), .inr rfl, trivial⟩)

theorem ownFields_c (xs : List Fd) (hl : xs.length ≤ 1000000000) : VC Tryz.prog 99 [rdF xs] (owF xs) := by
  refine VC.intro hΘ Tryz.func99 rfl rfl Tryz.ntmps99 rfl rfl rfl fun B hB => ?_
  (conv => whnf)
  refine vreq_intro (by intro c hc; obtain ⟨p, _, rfl⟩ := List.mem_map.1 hc; intro y hy; simp [encF] at hy; rcases hy with rfl | rfl <;> exact ⟨_, rfl⟩) ?_
  (conv => whnf)
  refine vreq_intro (app_ok (by rw [List.length_map]; show 0 + xs.length ≤ _; omega) rfl) ?_
  (conv => whnf)
  exact vfin_own rfl
set_option maxRecDepth 100000 in
theorem ownObj_c (o : Obj) (hl : o.fs.length ≤ 1000000000) (hl' : o.r.fs.length ≤ 1000000000) : VC Tryz.prog 58 [o.rd] o.ow := by
  refine VC.intro hΘ Tryz.func58 rfl rfl Tryz.ntmps58 rfl rfl rfl fun B hB => ?_
  (conv => whnf)
  refine vdrawG_intro hΘ hB mixed 8 rfl rfl ?_
  (conv => whnf)
  refine vcallA_intro0 rfl (ownFields_c o.fs hl) (f1 (ar rfl rfl) f0) ?_
  (conv => whnf)
  refine vcallA_intro0 rfl (ownFields_c o.r.fs hl') (f1 (ar rfl rfl) f0) ?_
  (conv => whnf)
  refine ⟨rfl, ?_⟩
  (conv => whnf)
  exact vfin_agg rfl
end Go.Proofs.YtfdmlccbfbiloaaGreatDoor
namespace Go.Proofs.YtfdmlccbfbiloaaGreatDoor
open Go Go.Proofs.YtfdmlccbfbiloaaGreatDoor.Vs
variable [Gl]
set_option linter.unusedSectionVars false

end Go.Proofs.YtfdmlccbfbiloaaGreatDoor
namespace Go.Proofs.YtfdmlccbfbiloaaGreatDoor
open Go Go.Proofs.YtfdmlccbfbiloaaGreatDoor.Vs
variable [Gl]
set_option linter.unusedSectionVars false

theorem szFS_small : ∀ {xs : List Fd} {l : Int}, 0 ≤ l → l ≤ 1048576 → ¬ szFS l xs < 0 → ∀ x ∈ xs, (sb x.2).length ≤ 1048576
  | [], l, _, _, _, x, hx => by simp at hx
  | y :: r, l, h0, h1, h, x, hx => by
    rw [szFS] at h
    split at h
    · omega
    · rename_i h2
      have hle := szF_le (a := y.1) (b := y.2) h0
      rcases List.mem_cons.1 hx with rfl | hx
      · unfold szF at h2
        split at h2
        · omega
        · split at h2 <;> omega
      · exact szFS_small (by omega) (by omega) h x hx
theorem szL_small {xs : List Fd} {l : Int} (h0 : 0 ≤ l) (h1 : l ≤ 1048576) (h : ¬ szL l xs < 0) : xs.length ≤ 1048576 ∧ ∀ x ∈ xs, (sb x.2).length ≤ 1048576 := by
  unfold szL at h
  split at h
  · omega
  · exact ⟨by omega, szFS_small (by omega) (by omega) h⟩
theorem szR_small {r : Rsp} {l : Int} (h0 : 0 ≤ l) (h1 : l ≤ 1048576) (h : ¬ szR l r < 0) : r.fs.length ≤ 1048576 ∧ ∀ x ∈ r.fs, (sb x.2).length ≤ 1048576 := by
  unfold szR at h
  split at h
  · omega
  · rename_i h2; exact szL_small h0 h1 h2
theorem szO_small {o : Obj} {l : Int} (h1 : l ≤ 1048576) (h : ¬ szO l o < 0) : (o.fs.length ≤ 1048576 ∧ ∀ x ∈ o.fs, (sb x.2).length ≤ 1048576) ∧ (o.r.fs.length ≤ 1048576 ∧ ∀ x ∈ o.r.fs, (sb x.2).length ≤ 1048576) ∧ szO l o ≤ 1048576 := by
  unfold szO at h ⊢
  split at h
  · omega
  · rename_i h2
    split at h
    · omega
    · rename_i h3
      split at h
      · omega
      · rename_i h4
        have e1 := szL_le (xs := o.fs) (l := l - (sb o.key).length) (by omega)
        have e2 := szR_le (r := o.r) (l := szL (l - (sb o.key).length) o.fs) (by omega)
        rw [if_neg h2, if_neg h3, if_neg h4]
        exact ⟨szL_small (by omega) (by omega) h3, szR_small (by omega) (by omega) h4, by omega⟩

end Go.Proofs.YtfdmlccbfbiloaaGreatDoor
namespace Go.Proofs.YtfdmlccbfbiloaaGreatDoor
open Go Go.Proofs.YtfdmlccbfbiloaaGreatDoor.Vs
variable [Gl]
set_option linter.unusedSectionVars false

/-! #### purges: what is one, what it hits (no program here) -/
structure Prg where
  k : Int
  t : ByteArray
def Prg.vs (p : Prg) : V := .agg [.val (.int .i64 p.k), .val (.string p.t)]
def Prg.good (p : Prg) : Bool := if p.k = 4 then sb p.t == [] else ((inR p.k 1 3 && decide (1 ≤ (sb p.t).length)) && decide ((sb p.t).length ≤ 200)) && (sb p.t).all grB
/-- as the program says it -/
theorem Prg.good_of (p : Prg) : p.good = (((inR p.k 1 4 && ((p.k == 4) == (sb p.t == []))) && decide ((sb p.t).length ≤ 200)) && (sb p.t).all grB) := by
  unfold Prg.good
  by_cases h4 : p.k = 4
  · rw [if_pos h4, h4]
    cases hs : sb p.t with
    | nil => simp [inR]
    | cons b r => simp [inR]
  · rw [if_neg h4]
    have hk : (p.k == 4) = false := by simpa using h4
    rw [hk]
    cases hs : sb p.t with
    | nil => simp [inR]
    | cons b r =>
      rw [Bool.eq_iff_iff]
      simp only [inR, Bool.and_eq_true, decide_eq_true_eq, List.length_cons]
      constructor
      · rintro ⟨⟨⟨⟨a, b⟩, c⟩, d⟩, e⟩
        exact ⟨⟨⟨⟨a, by omega⟩, by rfl⟩, d⟩, e⟩
      · rintro ⟨⟨⟨⟨a, b⟩, c⟩, d⟩, e⟩
        exact ⟨⟨⟨⟨a, by omega⟩, by omega⟩, d⟩, e⟩
def tagN : ByteArray := ⟨#[115, 117, 114, 114, 111, 103, 97, 116, 101, 45, 107, 101, 121]⟩
def startsB (l t : List UInt8) : Bool := decide (t.length ≤ l.length) && l.take t.length == t
def Prg.hits (p : Prg) (o : Obj) : Bool :=
  if p.k = 1 then sb o.key == sb p.t
  else if p.k = 2 then (itemsB (Lib.join (hitsOf tagN o.r.fs) comma)).any fun n => sb n == sb p.t
  else if p.k = 3 then startsB (sb o.key) (sb p.t)
  else true
end Go.Proofs.YtfdmlccbfbiloaaGreatDoor
namespace Go.Proofs.YtfdmlccbfbiloaaGreatDoor
open Go Go.Proofs.YtfdmlccbfbiloaaGreatDoor.Vs
variable [Gl]
set_option linter.unusedSectionVars false

theorem purgeOkI_c (p : Prg) (hp : (sb p.t).length ≤ 140737488355328) : VC Tryz.prog 50 [p.vs] (.val (.bool p.good)) := by
  rw [Prg.good_of]
  refine VC.intro hΘ Tryz.func50 rfl rfl Tryz.ntmps50 rfl rfl rfl fun B hB => ?_
  (conv => whnf)
  refine call_bb rfl (within_c p.k 1 4) (f1 (av rfl) (f1 (av rfl) (f1 (av rfl) f0))) (fun h => ?_) (fun h => ?_) <;> (conv => whnf)
  rotate_left
  · exact vfin_bool (by rw [h]; rfl)
  refine brm_intro (fun h2 => ?_) (fun h2 => ?_) <;> (conv => whnf)
  rotate_left
  · exact vfin_bool (by rw [h, show ((p.k == 4) == (sb p.t == [])) = false from h2]; rfl)
  refine brm_p (fun h3 => ?_) (fun h3 => ?_) <;> (conv => whnf)
  rotate_left
  · exact vfin_bool (by
      have e : decide ((sb p.t).length ≤ 200) = false := by simp; omega
      rw [h, show ((p.k == 4) == (sb p.t == [])) = true from h2, e]; rfl)
  have e : decide ((sb p.t).length ≤ 200) = true := by simp; omega
  refine vcallS_intro0 rfl (isGraphic_c p.t hp) (f1 (av rfl) f0) ?_
  (conv => whnf)
  exact vfin_bool (by rw [h, show ((p.k == 4) == (sb p.t == [])) = true from h2, e]; rfl)
theorem purgeOkS_c (p : Prg) (hp : (sb p.t).length ≤ 140737488355328) : VC Tryz.prog 47 [p.vs] (.val (.bool p.good)) := by
  refine VC.intro hΘ Tryz.func47 rfl rfl Tryz.ntmps47 rfl rfl rfl fun B hB => ?_
  (conv => whnf)
  refine brm_eq (fun h => ?_) (fun h => ?_) <;> (conv => whnf)
  · exact vfin_bool (by rw [Prg.good, if_pos h]; rfl)
  have hT : p.good = (((inR p.k 1 3 && decide (1 ≤ (sb p.t).length)) && decide ((sb p.t).length ≤ 200)) && (sb p.t).all grB) := by rw [Prg.good, if_neg h]
  rw [hT]
  refine call_bb rfl (l1In_c p.k 1 3) (f1 (av rfl) (f1 (av rfl) (f1 (av rfl) f0))) (fun h1 => ?_) (fun h1 => ?_) <;> (conv => whnf)
  rotate_left
  · exact vfin_bool (by rw [h1]; rfl)
  refine brm_p (fun h2 => ?_) (fun h2 => ?_) <;> (conv => whnf)
  · exact vfin_bool (by
      have e : decide (1 ≤ (sb p.t).length) = false := by simp only [decide_eq_false_iff_not]; omega
      rw [h1, e]; rfl)
  have e2 : decide (1 ≤ (sb p.t).length) = true := by simp only [decide_eq_true_eq]; omega
  refine brm_p (fun h3 => ?_) (fun h3 => ?_) <;> (conv => whnf)
  · exact vfin_bool (by
      have e : decide ((sb p.t).length ≤ 200) = false := by simp only [decide_eq_false_iff_not]; omega
      rw [h1, e2, e]; rfl)
  have e3 : decide ((sb p.t).length ≤ 200) = true := by simp only [decide_eq_true_eq]; omega
  rw [h1, e2, e3]
  refine vloop_intro hΘ hB (ι := Nat) (fun i => ⟨[(1, .ptr 1 0), (3, .val (.int .i64 i))], [(1, [.val (.int .i64 p.k), .val (.string p.t)])]⟩) (fun i => i ≤ (sb p.t).length ∧ ((sb p.t).drop i).all grB = (sb p.t).all grB) (fun i => (sb p.t).length - i) 0
    ⟨⟨.inr rfl, .inr rfl, trivial⟩, ⟨⟨.inr rfl, .inr rfl, trivial⟩, trivial⟩⟩ ⟨by omega, rfl⟩ ?_
  rintro i ⟨k1, k2⟩
  (conv => whnf)
  refine brm_p (fun h => ?_) (fun h => ?_) <;> (conv => whnf)
  · obtain ⟨b, hg, _, hd⟩ := drop_at (xs := sb p.t) (i := i) (by omega)
    rw [hd, List.all_cons] at k2
    have hb := byteAt_get hg
    refine vix_intro i rfl (by omega) ?_
    (conv => whnf)
    rw [hb]
    refine brm_p (fun h1 => ?_) (fun h1 => ?_) <;> (conv => whnf)
    · refine vfin_bool ?_
      have : grB b = false := by simp [grB]; omega
      rw [this, Bool.false_and] at k2
      rw [← k2]; rfl
    refine vix_intro i rfl (by omega) ?_
    (conv => whnf)
    rw [hb]
    refine brm_p (fun h2 => ?_) (fun h2 => ?_) <;> (conv => whnf)
    · refine vfin_bool ?_
      have : grB b = false := by simp [grB]; omega
      rw [this, Bool.false_and] at k2
      rw [← k2]; rfl
    · have : grB b = true := by simp [grB]; omega
      rw [this, Bool.true_and] at k2
      exact ⟨i + 1, ⟨⟨.inr rfl, .inr (vint_eq (wrap_succ (by omega))), trivial⟩, ⟨⟨.inr rfl, .inr rfl, trivial⟩, trivial⟩⟩, ⟨by omega, k2⟩, by omega⟩
  · refine vfin_bool ?_
    have : (sb p.t).drop i = [] := List.drop_eq_nil_of_le (by omega)
    rw [this] at k2
    rw [← k2]; rfl
end Go.Proofs.YtfdmlccbfbiloaaGreatDoor
namespace Go.Proofs.YtfdmlccbfbiloaaGreatDoor
open Go Go.Proofs.YtfdmlccbfbiloaaGreatDoor.Vs
variable [Gl]
set_option linter.unusedSectionVars false

set_option maxRecDepth 100000 in
theorem l15Hits_c (p : Prg) (o : Obj) (hp : (sb p.t).length ≤ 140737488355328) (ho : o.ok) (hg : fieldsOk o.r.fs = true) (hJ : (Lib.join (hitsOf tagN o.r.fs) comma).length ≤ 140737488355328) : VC Tryz.prog 49 [p.vs, o.rd] (.val (.bool (p.hits o))) := by
  refine VC.intro hΘ Tryz.func49 rfl rfl Tryz.ntmps49 rfl rfl rfl fun B hB => ?_
  (conv => whnf)
  refine brm_eq (fun h1 => ?_) (fun h1 => ?_) <;> (conv => whnf)
  · exact vfin_bool (by rw [Prg.hits, if_pos h1])
  refine brm_eq (fun h2 => ?_) (fun h2 => ?_) <;> (conv => whnf)
  · have hl : o.r.fs.length ≤ 30 := by
      simp only [fieldsOk, Bool.and_eq_true, decide_eq_true_eq] at hg; exact hg.1
    have c1 := l4Get_c o.r.fs tagN ho.2.2.1.2 (by decide) hl
    have hT : p.hits o = (itemsB (Lib.join (hitsOf tagN o.r.fs) comma)).any fun n => sb n == sb p.t := by rw [Prg.hits, if_neg h1, if_pos h2]
    rw [hT]
    unfold getV at c1
    generalize decide (hitsOf tagN o.r.fs ≠ []) = b0 at c1
    generalize Lib.join (hitsOf tagN o.r.fs) comma = J at c1 hJ ⊢
    refine vcallS_intro0 rfl c1 (f1 (ar rfl rfl) (f1 (av rfl) f0)) ?_
    (conv => whnf)
    refine vcallS_intro0 rfl (itemsS_c (bs J) (by rw [sb_bs]; exact hJ)) (f1 (av rfl) f0) ?_
    (conv => whnf)
    rw [sb_bs]
    have hcnt := itemsB_cnt J
    generalize itemsB J = L at hcnt ⊢
    refine vloop_intro hΘ hB (ι := Nat) (fun i => ⟨[(2, .ptr 2 0), (7, .own 1 (L.map strC)), (8, .val (.int .i64 i))], [(2, [.val (.int .i64 p.k), .val (.string p.t)])]⟩) (fun i => i ≤ L.length ∧ ((L.drop i).any fun n => sb n == sb p.t) = L.any fun n => sb n == sb p.t) (fun i => L.length - i) 0
      ⟨⟨.inr rfl, .inr rfl, .inr rfl, trivial⟩, ⟨⟨.inr rfl, .inr rfl, trivial⟩, trivial⟩⟩ ⟨Nat.zero_le _, rfl⟩ ?_
    rintro i ⟨k1, k2⟩
    (conv => whnf)
    rw [List.length_map]
    refine brm_p (fun h => ?_) (fun h => ?_) <;> (conv => whnf)
    · obtain ⟨n, hgt, hm, hd⟩ := drop_at (xs := L) (i := i) (by omega)
      rw [hd, List.any_cons] at k2
      refine vdraw_intro hΘ hB mixed (by kernel_rfl) ?_
      (conv => whnf)
      refine vix_intro i rfl (by rw [List.length_map]; omega) ?_
      (conv => whnf)
      refine vat_intro i _ rfl (strs_at hgt) ?_
      (conv => whnf)
      refine brm_intro (fun h4 => ?_) (fun h4 => ?_) <;> (conv => whnf)
      · refine vfin_bool ?_
        rw [← k2, show (sb n == sb p.t) = true from h4]; rfl
      · rw [show (sb n == sb p.t) = false from h4, Bool.false_or] at k2
        exact ⟨i + 1, ⟨⟨.inr rfl, .inr rfl, .inr (vint_eq (wrap_succ (by omega))), trivial⟩, ⟨⟨.inr rfl, .inr rfl, trivial⟩, trivial⟩⟩, ⟨by omega, k2⟩, by omega⟩
    · refine vfin_bool ?_
      have : L.drop i = [] := List.drop_eq_nil_of_le (by omega)
      rw [this] at k2
      rw [← k2]; rfl
  refine brm_eq (fun h3 => ?_) (fun h3 => ?_) <;> (conv => whnf)
  · refine vdraw_intro hΘ hB mixed (by kernel_rfl) ?_
    (conv => whnf)
    have hT : p.hits o = startsB (sb o.key) (sb p.t) := by rw [Prg.hits, if_neg h1, if_neg h2, if_pos h3]
    rw [hT]
    refine brm_p (fun h4 => ?_) (fun h4 => ?_) <;> (conv => whnf)
    · refine vrange_intro 0 (sb p.t).length rfl rfl (by omega) (by omega) ?_
      (conv => whnf)
      refine vfin_bool ?_
      have e : decide ((sb p.t).length ≤ (sb o.key).length) = true := by simp only [decide_eq_true_eq]; omega
      rw [startsB, e]; rfl
    · refine vfin_bool ?_
      have e : decide ((sb p.t).length ≤ (sb o.key).length) = false := by simp only [decide_eq_false_iff_not]; omega
      rw [startsB, e]; rfl
  · exact vfin_bool (by rw [Prg.hits, if_neg h1, if_neg h2, if_neg h3])
end Go.Proofs.YtfdmlccbfbiloaaGreatDoor
namespace Go.Proofs.YtfdmlccbfbiloaaGreatDoor
open Go Go.Proofs.YtfdmlccbfbiloaaGreatDoor.Vs
variable [Gl]
set_option linter.unusedSectionVars false

theorem indexStr_c (v : ByteArray) (ns : List ByteArray) (hl : ns.length ≤ 140737488355328) :
    VC Tryz.prog 126 [.rd none (.sl true 1 (ns.map strC)), .val (.string v)] (.val (.int .i64 (idxFn (fun n => sb v == sb n) ns 0))) := by
  refine VC.intro hΘ Tryz.func126 rfl rfl Tryz.ntmps126 rfl rfl rfl fun B hB => ?_
  (conv => whnf)
  refine vloop_intro hΘ hB (ι := Nat) (fun i => ⟨[(0, .rd none (.sl true 1 (ns.map strC))), (1, .val (.string v)), (7, .val (.int .i64 (ns.map strC).length)), (8, .val (.int .i64 i))], []⟩)
    (fun i => i ≤ ns.length ∧ idxFn (fun n => sb v == sb n) (ns.drop i) i = idxFn (fun n => sb v == sb n) ns 0) (fun i => ns.length - i) 0 ⟨⟨.inr rfl, .inr rfl, .inr rfl, .inr rfl, trivial⟩, trivial⟩ ⟨Nat.zero_le _, rfl⟩ ?_
  rintro i ⟨k1, k2⟩
  (conv => whnf)
  rw [List.length_map]
  refine brm_p (fun h => ?_) (fun h => ?_) <;> (conv => whnf)
  · obtain ⟨x, hg, hm, hd⟩ := drop_at (xs := ns) (i := i) (by omega)
    rw [hd, idxFn] at k2
    refine vat_intro i _ rfl (strs_at hg) ?_
    (conv => whnf)
    refine brm_intro (fun h2 => ?_) (fun h2 => ?_) <;> (conv => whnf)
    · refine vfin_int ?_
      rw [if_pos h2] at k2
      exact k2
    · rw [if_neg (by rw [show (sb v == sb x) = false from h2]; decide)] at k2
      exact ⟨i + 1, ⟨⟨.inr rfl, .inr rfl, .inr rfl, .inr (vint_eq (wrap_succ (by omega))), trivial⟩, trivial⟩, ⟨by omega, k2⟩, by omega⟩
  · refine vfin_int ?_
    have : ns.drop i = [] := List.drop_eq_nil_of_le (by omega)
    rw [this] at k2
    exact k2
theorem containsStr_c (v : ByteArray) (ns : List ByteArray) (hl : ns.length ≤ 140737488355328) :
    VC Tryz.prog 92 [.rd none (.sl true 1 (ns.map strC)), .val (.string v)] (.val (.bool (ns.any fun n => sb v == sb n))) := by
  refine VC.intro hΘ Tryz.func92 rfl rfl Tryz.ntmps92 rfl rfl rfl fun B hB => ?_
  (conv => whnf)
  refine vcallS_intro0 rfl (indexStr_c v ns hl) (f1 (ar rfl rfl) (f1 (av rfl) f0)) ?_
  (conv => whnf)
  exact vfin_bool (idxFn_nonneg _ ns 0)
theorem slHasPrefix_c (s p : ByteArray) : VC Tryz.prog 130 [.val (.string s), .val (.string p)] (.val (.bool (startsB (sb s) (sb p)))) := by
  refine VC.intro hΘ Tryz.func130 rfl rfl Tryz.ntmps130 rfl rfl rfl fun B hB => ?_
  (conv => whnf)
  refine brm_p (fun h => ?_) (fun h => ?_) <;> (conv => whnf)
  · refine vrange_intro 0 (sb p).length rfl rfl (by omega) (by omega) ?_
    (conv => whnf)
    refine vfin_bool ?_
    have e : decide ((sb p).length ≤ (sb s).length) = true := by simp only [decide_eq_true_eq]; omega
    rw [startsB, e]; rfl
  · refine vfin_bool ?_
    have e : decide ((sb p).length ≤ (sb s).length) = false := by simp only [decide_eq_false_iff_not]; omega
    rw [startsB, e]; rfl
theorem hasPrefix_c (s p : ByteArray) : VC Tryz.prog 94 [.val (.string s), .val (.string p)] (.val (.bool (startsB (sb s) (sb p)))) := by
  refine VC.intro hΘ Tryz.func94 rfl rfl Tryz.ntmps94 rfl rfl rfl fun B hB => ?_
  (conv => whnf)
  refine vcallS_intro0 rfl (slHasPrefix_c s p) (f1 (av rfl) (f1 (av rfl) f0)) ?_
  (conv => whnf)
  exact vfin_bool rfl
end Go.Proofs.YtfdmlccbfbiloaaGreatDoor
