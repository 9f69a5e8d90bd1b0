import Derived.Test.YtfdmlccbfbiloaaDoorVe
import Derived.Test.YtfdmlccbfbiloaaDoorProg
import Derived.Lib.Join
import Derived.Test.YtfdmlccbfbiloaaDoorSh
import Derived.Lib.IndexLaws
import Derived.Shelf.Strings.SlTrimAscii
import Derived.Lib.ItoaNum
import Derived.Lib.IndexMore
import Derived.Lib.SlTrimSet
import Derived.Lib.Strings
import Derived.Lib.ParseIntB
import Derived.Lib.ParseIntBCases
namespace Go.Proofs.YtfdmlccbfbiloaaDoor
open Go Go.Proofs.YtfdmlccbfbiloaaDoor.Vs
variable [Gl]
set_option linter.unusedSectionVars false
def ti1 : TI := ⟨1, 8, .other, [.nilFunc]⟩
set_option maxRecDepth 100000 in
theorem tiok1 : TIok Tryd.prog 1 ti1 := TIok.of Tryd.type1 Tryd.underlying1 rfl rfl rfl rfl rfl rfl trivial
def ti2 : TI := ⟨1, 8, .int .i64, [(.int .i64 0)]⟩
set_option maxRecDepth 100000 in
theorem tiok2 : TIok Tryd.prog 2 ti2 := TIok.of Tryd.type2 Tryd.underlying2 rfl rfl rfl rfl rfl rfl rfl
def ti3 : TI := ⟨1, 8, .int .i64, [(.int .i64 0)]⟩
set_option maxRecDepth 100000 in
theorem tiok3 : TIok Tryd.prog 3 ti3 := TIok.of Tryd.type3 Tryd.underlying3 rfl rfl rfl rfl rfl rfl rfl
def ti4 : TI := ⟨1, 1, .bool, [(.bool false)]⟩
set_option maxRecDepth 100000 in
theorem tiok4 : TIok Tryd.prog 4 ti4 := TIok.of Tryd.type4 Tryd.underlying4 rfl rfl rfl rfl rfl rfl rfl
def ti5 : TI := ⟨1, 1, .int .u8, [(.int .u8 0)]⟩
set_option maxRecDepth 100000 in
theorem tiok5 : TIok Tryd.prog 5 ti5 := TIok.of Tryd.type5 Tryd.underlying5 rfl rfl rfl rfl rfl rfl rfl
def ti6 : TI := ⟨1, 1, .int .u8, [(.int .u8 0)]⟩
set_option maxRecDepth 100000 in
theorem tiok6 : TIok Tryd.prog 6 ti6 := TIok.of Tryd.type6 Tryd.underlying6 rfl rfl rfl rfl rfl rfl rfl
def ti7 : TI := ⟨4, 24, .struct [(0, 2), (1, 3), (2, 4), (3, 6)], [(.int .i64 0), (.int .i64 0), (.bool false), (.int .u8 0)]⟩
set_option maxRecDepth 100000 in
theorem tiok7 : TIok Tryd.prog 7 ti7 := TIok.of Tryd.type7 Tryd.underlying7 rfl rfl rfl rfl rfl rfl ⟨_, rfl, rfl⟩
def ti8 : TI := ⟨4, 24, .struct [(0, 2), (1, 3), (2, 4), (3, 6)], [(.int .i64 0), (.int .i64 0), (.bool false), (.int .u8 0)]⟩
set_option maxRecDepth 100000 in
theorem tiok8 : TIok Tryd.prog 8 ti8 := TIok.of Tryd.type8 Tryd.underlying8 rfl rfl rfl rfl rfl rfl ⟨_, rfl, rfl⟩
def ti9 : TI := ⟨1, 16, .string, [(.string ⟨⟨[]⟩⟩)]⟩
set_option maxRecDepth 100000 in
theorem tiok9 : TIok Tryd.prog 9 ti9 := TIok.of Tryd.type9 Tryd.underlying9 rfl rfl rfl rfl rfl rfl rfl
def ti11 : TI := ⟨1, 16, .string, [(.string ⟨⟨[]⟩⟩)]⟩
set_option maxRecDepth 100000 in
theorem tiok11 : TIok Tryd.prog 11 ti11 := TIok.of Tryd.type11 Tryd.underlying11 rfl rfl rfl rfl rfl rfl rfl
def ti12 : TI := ⟨1, 8, .int .u64, [(.int .u64 0)]⟩
set_option maxRecDepth 100000 in
theorem tiok12 : TIok Tryd.prog 12 ti12 := TIok.of Tryd.type12 Tryd.underlying12 rfl rfl rfl rfl rfl rfl rfl
def ti13 : TI := ⟨2, 24, .struct [(0, 9), (1, 12)], [(.string ⟨⟨[]⟩⟩), (.int .u64 0)]⟩
set_option maxRecDepth 100000 in
theorem tiok13 : TIok Tryd.prog 13 ti13 := TIok.of Tryd.type13 Tryd.underlying13 rfl rfl rfl rfl rfl rfl ⟨_, rfl, rfl⟩
def ti15 : TI := ⟨1, 8, .ptr 121, [(.pointer none)]⟩
set_option maxRecDepth 100000 in
theorem tiok15 : TIok Tryd.prog 15 ti15 := TIok.of Tryd.type15 Tryd.underlying15 rfl rfl rfl rfl rfl rfl rfl
def ti16 : TI := ⟨1, 8, .ptr 124, [(.pointer none)]⟩
set_option maxRecDepth 100000 in
theorem tiok16 : TIok Tryd.prog 16 ti16 := TIok.of Tryd.type16 Tryd.underlying16 rfl rfl rfl rfl rfl rfl rfl
def ti17 : TI := ⟨1, 8, .ptr 132, [(.pointer none)]⟩
set_option maxRecDepth 100000 in
theorem tiok17 : TIok Tryd.prog 17 ti17 := TIok.of Tryd.type17 Tryd.underlying17 rfl rfl rfl rfl rfl rfl rfl
def ti18 : TI := ⟨1, 8, .struct [(0, 17)], [(.pointer none)]⟩
set_option maxRecDepth 100000 in
theorem tiok18 : TIok Tryd.prog 18 ti18 := TIok.of Tryd.type18 Tryd.underlying18 rfl rfl rfl rfl rfl rfl ⟨_, rfl, rfl⟩
def ti19 : TI := ⟨1, 8, .struct [(0, 17)], [(.pointer none)]⟩
set_option maxRecDepth 100000 in
theorem tiok19 : TIok Tryd.prog 19 ti19 := TIok.of Tryd.type19 Tryd.underlying19 rfl rfl rfl rfl rfl rfl ⟨_, rfl, rfl⟩
def ti20 : TI := ⟨1, 16, .other, [.nilIface]⟩
set_option maxRecDepth 100000 in
theorem tiok20 : TIok Tryd.prog 20 ti20 := TIok.of Tryd.type20 Tryd.underlying20 rfl rfl rfl rfl rfl rfl trivial
def ti21 : TI := ⟨1, 4, .int .i32, [(.int .i32 0)]⟩
set_option maxRecDepth 100000 in
theorem tiok21 : TIok Tryd.prog 21 ti21 := TIok.of Tryd.type21 Tryd.underlying21 rfl rfl rfl rfl rfl rfl rfl
def ti22 : TI := ⟨1, 24, .slice 32, [(.slice none 0 0)]⟩
set_option maxRecDepth 100000 in
theorem tiok22 : TIok Tryd.prog 22 ti22 := TIok.of Tryd.type22 Tryd.underlying22 rfl rfl rfl rfl rfl rfl rfl
def ti23 : TI := ⟨1, 8, .other, [.nilFunc]⟩
set_option maxRecDepth 100000 in
theorem tiok23 : TIok Tryd.prog 23 ti23 := TIok.of Tryd.type23 Tryd.underlying23 rfl rfl rfl rfl rfl rfl trivial
def ti25 : TI := ⟨1, 8, .other, [.nilFunc]⟩
set_option maxRecDepth 100000 in
theorem tiok25 : TIok Tryd.prog 25 ti25 := TIok.of Tryd.type25 Tryd.underlying25 rfl rfl rfl rfl rfl rfl trivial
def ti26 : TI := ⟨1, 24, .slice 39, [(.slice none 0 0)]⟩
set_option maxRecDepth 100000 in
theorem tiok26 : TIok Tryd.prog 26 ti26 := TIok.of Tryd.type26 Tryd.underlying26 rfl rfl rfl rfl rfl rfl rfl
def ti27 : TI := ⟨1, 8, .other, [.nilFunc]⟩
set_option maxRecDepth 100000 in
theorem tiok27 : TIok Tryd.prog 27 ti27 := TIok.of Tryd.type27 Tryd.underlying27 rfl rfl rfl rfl rfl rfl trivial
def ti28 : TI := ⟨1, 8, .other, [.nilFunc]⟩
set_option maxRecDepth 100000 in
theorem tiok28 : TIok Tryd.prog 28 ti28 := TIok.of Tryd.type28 Tryd.underlying28 rfl rfl rfl rfl rfl rfl trivial
def ti29 : TI := ⟨1, 8, .other, [.nilFunc]⟩
set_option maxRecDepth 100000 in
theorem tiok29 : TIok Tryd.prog 29 ti29 := TIok.of Tryd.type29 Tryd.underlying29 rfl rfl rfl rfl rfl rfl trivial
def ti30 : TI := ⟨1, 8, .other, [.nilFunc]⟩
set_option maxRecDepth 100000 in
theorem tiok30 : TIok Tryd.prog 30 ti30 := TIok.of Tryd.type30 Tryd.underlying30 rfl rfl rfl rfl rfl rfl trivial
def ti31 : TI := ⟨2, 32, .struct [(0, 9), (1, 9)], [(.string ⟨⟨[]⟩⟩), (.string ⟨⟨[]⟩⟩)]⟩
set_option maxRecDepth 100000 in
theorem tiok31 : TIok Tryd.prog 31 ti31 := TIok.of Tryd.type31 Tryd.underlying31 rfl rfl rfl rfl rfl rfl ⟨_, rfl, rfl⟩
def ti32 : TI := ⟨2, 32, .struct [(0, 9), (1, 9)], [(.string ⟨⟨[]⟩⟩), (.string ⟨⟨[]⟩⟩)]⟩
set_option maxRecDepth 100000 in
theorem tiok32 : TIok Tryd.prog 32 ti32 := TIok.of Tryd.type32 Tryd.underlying32 rfl rfl rfl rfl rfl rfl ⟨_, rfl, rfl⟩
def ti33 : TI := ⟨1, 8, .other, [.nilFunc]⟩
set_option maxRecDepth 100000 in
theorem tiok33 : TIok Tryd.prog 33 ti33 := TIok.of Tryd.type33 Tryd.underlying33 rfl rfl rfl rfl rfl rfl trivial
def ti35 : TI := ⟨1, 8, .other, [.nilFunc]⟩
set_option maxRecDepth 100000 in
theorem tiok35 : TIok Tryd.prog 35 ti35 := TIok.of Tryd.type35 Tryd.underlying35 rfl rfl rfl rfl rfl rfl trivial
def ti37 : TI := ⟨1, 8, .other, [.nilFunc]⟩
set_option maxRecDepth 100000 in
theorem tiok37 : TIok Tryd.prog 37 ti37 := TIok.of Tryd.type37 Tryd.underlying37 rfl rfl rfl rfl rfl rfl trivial
def ti38 : TI := ⟨1, 8, .other, [.nilFunc]⟩
set_option maxRecDepth 100000 in
theorem tiok38 : TIok Tryd.prog 38 ti38 := TIok.of Tryd.type38 Tryd.underlying38 rfl rfl rfl rfl rfl rfl trivial
def ti39 : TI := ⟨2, 32, .struct [(0, 9), (1, 9)], [(.string ⟨⟨[]⟩⟩), (.string ⟨⟨[]⟩⟩)]⟩
set_option maxRecDepth 100000 in
theorem tiok39 : TIok Tryd.prog 39 ti39 := TIok.of Tryd.type39 Tryd.underlying39 rfl rfl rfl rfl rfl rfl ⟨_, rfl, rfl⟩
def ti40 : TI := ⟨1, 8, .other, [.nilFunc]⟩
set_option maxRecDepth 100000 in
theorem tiok40 : TIok Tryd.prog 40 ti40 := TIok.of Tryd.type40 Tryd.underlying40 rfl rfl rfl rfl rfl rfl trivial
def ti41 : TI := ⟨1, 8, .other, [.nilFunc]⟩
set_option maxRecDepth 100000 in
theorem tiok41 : TIok Tryd.prog 41 ti41 := TIok.of Tryd.type41 Tryd.underlying41 rfl rfl rfl rfl rfl rfl trivial
def ti42 : TI := ⟨1, 8, .other, [.nilFunc]⟩
set_option maxRecDepth 100000 in
theorem tiok42 : TIok Tryd.prog 42 ti42 := TIok.of Tryd.type42 Tryd.underlying42 rfl rfl rfl rfl rfl rfl trivial
def ti43 : TI := ⟨1, 24, .slice 5, [(.slice none 0 0)]⟩
set_option maxRecDepth 100000 in
theorem tiok43 : TIok Tryd.prog 43 ti43 := TIok.of Tryd.type43 Tryd.underlying43 rfl rfl rfl rfl rfl rfl rfl
def ti44 : TI := ⟨1, 8, .other, [.nilFunc]⟩
set_option maxRecDepth 100000 in
theorem tiok44 : TIok Tryd.prog 44 ti44 := TIok.of Tryd.type44 Tryd.underlying44 rfl rfl rfl rfl rfl rfl trivial
def ti45 : TI := ⟨1, 24, .slice 9, [(.slice none 0 0)]⟩
set_option maxRecDepth 100000 in
theorem tiok45 : TIok Tryd.prog 45 ti45 := TIok.of Tryd.type45 Tryd.underlying45 rfl rfl rfl rfl rfl rfl rfl
def ti46 : TI := ⟨1, 8, .other, [.nilFunc]⟩
set_option maxRecDepth 100000 in
theorem tiok46 : TIok Tryd.prog 46 ti46 := TIok.of Tryd.type46 Tryd.underlying46 rfl rfl rfl rfl rfl rfl trivial
def ti47 : TI := ⟨1, 8, .other, [.nilFunc]⟩
set_option maxRecDepth 100000 in
theorem tiok47 : TIok Tryd.prog 47 ti47 := TIok.of Tryd.type47 Tryd.underlying47 rfl rfl rfl rfl rfl rfl trivial
def ti48 : TI := ⟨1, 8, .other, [.nilFunc]⟩
set_option maxRecDepth 100000 in
theorem tiok48 : TIok Tryd.prog 48 ti48 := TIok.of Tryd.type48 Tryd.underlying48 rfl rfl rfl rfl rfl rfl trivial
def ti49 : TI := ⟨1, 16, .other, [.nilIface]⟩
set_option maxRecDepth 100000 in
theorem tiok49 : TIok Tryd.prog 49 ti49 := TIok.of Tryd.type49 Tryd.underlying49 rfl rfl rfl rfl rfl rfl trivial
def ti53 : TI := ⟨1, 8, .other, [.nilFunc]⟩
set_option maxRecDepth 100000 in
theorem tiok53 : TIok Tryd.prog 53 ti53 := TIok.of Tryd.type53 Tryd.underlying53 rfl rfl rfl rfl rfl rfl trivial
def ti54 : TI := ⟨1, 8, .other, [.nilFunc]⟩
set_option maxRecDepth 100000 in
theorem tiok54 : TIok Tryd.prog 54 ti54 := TIok.of Tryd.type54 Tryd.underlying54 rfl rfl rfl rfl rfl rfl trivial
def ti55 : TI := ⟨1, 8, .ptr 57, [(.pointer none)]⟩
set_option maxRecDepth 100000 in
theorem tiok55 : TIok Tryd.prog 55 ti55 := TIok.of Tryd.type55 Tryd.underlying55 rfl rfl rfl rfl rfl rfl rfl
def ti56 : TI := ⟨2, 32, .struct [(0, 55), (1, 43)], [(.pointer none), (.slice none 0 0)]⟩
set_option maxRecDepth 100000 in
theorem tiok56 : TIok Tryd.prog 56 ti56 := TIok.of Tryd.type56 Tryd.underlying56 rfl rfl rfl rfl rfl rfl ⟨_, rfl, rfl⟩
def ti57 : TI := ⟨2, 32, .struct [(0, 55), (1, 43)], [(.pointer none), (.slice none 0 0)]⟩
set_option maxRecDepth 100000 in
theorem tiok57 : TIok Tryd.prog 57 ti57 := TIok.of Tryd.type57 Tryd.underlying57 rfl rfl rfl rfl rfl rfl ⟨_, rfl, rfl⟩
def ti58 : TI := ⟨1, 8, .other, [.nilFunc]⟩
set_option maxRecDepth 100000 in
theorem tiok58 : TIok Tryd.prog 58 ti58 := TIok.of Tryd.type58 Tryd.underlying58 rfl rfl rfl rfl rfl rfl trivial
def ti61 : TI := ⟨1, 8, .other, [.nilFunc]⟩
set_option maxRecDepth 100000 in
theorem tiok61 : TIok Tryd.prog 61 ti61 := TIok.of Tryd.type61 Tryd.underlying61 rfl rfl rfl rfl rfl rfl trivial
def ti62 : TI := ⟨1, 8, .other, [.nilFunc]⟩
set_option maxRecDepth 100000 in
theorem tiok62 : TIok Tryd.prog 62 ti62 := TIok.of Tryd.type62 Tryd.underlying62 rfl rfl rfl rfl rfl rfl trivial
def ti64 : TI := ⟨1, 8, .other, [.nilFunc]⟩
set_option maxRecDepth 100000 in
theorem tiok64 : TIok Tryd.prog 64 ti64 := TIok.of Tryd.type64 Tryd.underlying64 rfl rfl rfl rfl rfl rfl trivial
def ti65 : TI := ⟨1, 8, .other, [.nilFunc]⟩
set_option maxRecDepth 100000 in
theorem tiok65 : TIok Tryd.prog 65 ti65 := TIok.of Tryd.type65 Tryd.underlying65 rfl rfl rfl rfl rfl rfl trivial
def ti66 : TI := ⟨1, 8, .ptr 5, [(.pointer none)]⟩
set_option maxRecDepth 100000 in
theorem tiok66 : TIok Tryd.prog 66 ti66 := TIok.of Tryd.type66 Tryd.underlying66 rfl rfl rfl rfl rfl rfl rfl
def ti67 : TI := ⟨1, 8, .other, [.nilFunc]⟩
set_option maxRecDepth 100000 in
theorem tiok67 : TIok Tryd.prog 67 ti67 := TIok.of Tryd.type67 Tryd.underlying67 rfl rfl rfl rfl rfl rfl trivial
def ti68 : TI := ⟨1, 8, .int .i64, [(.int .i64 0)]⟩
set_option maxRecDepth 100000 in
theorem tiok68 : TIok Tryd.prog 68 ti68 := TIok.of Tryd.type68 Tryd.underlying68 rfl rfl rfl rfl rfl rfl rfl
def ti69 : TI := ⟨1, 8, .int .u64, [(.int .u64 0)]⟩
set_option maxRecDepth 100000 in
theorem tiok69 : TIok Tryd.prog 69 ti69 := TIok.of Tryd.type69 Tryd.underlying69 rfl rfl rfl rfl rfl rfl rfl
def ti72 : TI := ⟨1, 8, .int .u64, [(.int .u64 0)]⟩
set_option maxRecDepth 100000 in
theorem tiok72 : TIok Tryd.prog 72 ti72 := TIok.of Tryd.type72 Tryd.underlying72 rfl rfl rfl rfl rfl rfl rfl
def ti73 : TI := ⟨1, 8, .ptr 88, [(.pointer none)]⟩
set_option maxRecDepth 100000 in
theorem tiok73 : TIok Tryd.prog 73 ti73 := TIok.of Tryd.type73 Tryd.underlying73 rfl rfl rfl rfl rfl rfl rfl
def ti74 : TI := ⟨1, 8, .other, [.nilFunc]⟩
set_option maxRecDepth 100000 in
theorem tiok74 : TIok Tryd.prog 74 ti74 := TIok.of Tryd.type74 Tryd.underlying74 rfl rfl rfl rfl rfl rfl trivial
def ti75 : TI := ⟨1, 8, .other, [.nilFunc]⟩
set_option maxRecDepth 100000 in
theorem tiok75 : TIok Tryd.prog 75 ti75 := TIok.of Tryd.type75 Tryd.underlying75 rfl rfl rfl rfl rfl rfl trivial
def ti76 : TI := ⟨1, 8, .other, [.nilFunc]⟩
set_option maxRecDepth 100000 in
theorem tiok76 : TIok Tryd.prog 76 ti76 := TIok.of Tryd.type76 Tryd.underlying76 rfl rfl rfl rfl rfl rfl trivial
def ti80 : TI := ⟨1, 8, .other, [.nilFunc]⟩
set_option maxRecDepth 100000 in
theorem tiok80 : TIok Tryd.prog 80 ti80 := TIok.of Tryd.type80 Tryd.underlying80 rfl rfl rfl rfl rfl rfl trivial
def ti81 : TI := ⟨1, 8, .other, [.nilFunc]⟩
set_option maxRecDepth 100000 in
theorem tiok81 : TIok Tryd.prog 81 ti81 := TIok.of Tryd.type81 Tryd.underlying81 rfl rfl rfl rfl rfl rfl trivial
def ti82 : TI := ⟨1, 8, .ptr 78, [(.pointer none)]⟩
set_option maxRecDepth 100000 in
theorem tiok82 : TIok Tryd.prog 82 ti82 := TIok.of Tryd.type82 Tryd.underlying82 rfl rfl rfl rfl rfl rfl rfl
def ti84 : TI := ⟨1, 8, .other, [.nilFunc]⟩
set_option maxRecDepth 100000 in
theorem tiok84 : TIok Tryd.prog 84 ti84 := TIok.of Tryd.type84 Tryd.underlying84 rfl rfl rfl rfl rfl rfl trivial
def ti85 : TI := ⟨1, 8, .other, [.nilFunc]⟩
set_option maxRecDepth 100000 in
theorem tiok85 : TIok Tryd.prog 85 ti85 := TIok.of Tryd.type85 Tryd.underlying85 rfl rfl rfl rfl rfl rfl trivial
def ti86 : TI := ⟨1, 8, .other, [.nilFunc]⟩
set_option maxRecDepth 100000 in
theorem tiok86 : TIok Tryd.prog 86 ti86 := TIok.of Tryd.type86 Tryd.underlying86 rfl rfl rfl rfl rfl rfl trivial
def ti88 : TI := ⟨3, 48, .struct [(0, 9), (1, 9), (2, 50)], [(.string ⟨⟨[]⟩⟩), (.string ⟨⟨[]⟩⟩), .nilIface]⟩
set_option maxRecDepth 100000 in
theorem tiok88 : TIok Tryd.prog 88 ti88 := TIok.of Tryd.type88 Tryd.underlying88 rfl rfl rfl rfl rfl rfl ⟨_, rfl, rfl⟩
def ti90 : TI := ⟨1, 8, .other, [.nilFunc]⟩
set_option maxRecDepth 100000 in
theorem tiok90 : TIok Tryd.prog 90 ti90 := TIok.of Tryd.type90 Tryd.underlying90 rfl rfl rfl rfl rfl rfl trivial
def ti92 : TI := ⟨1, 8, .other, [.nilFunc]⟩
set_option maxRecDepth 100000 in
theorem tiok92 : TIok Tryd.prog 92 ti92 := TIok.of Tryd.type92 Tryd.underlying92 rfl rfl rfl rfl rfl rfl trivial
def ti93 : TI := ⟨1, 8, .other, [.nilFunc]⟩
set_option maxRecDepth 100000 in
theorem tiok93 : TIok Tryd.prog 93 ti93 := TIok.of Tryd.type93 Tryd.underlying93 rfl rfl rfl rfl rfl rfl trivial
def ti97 : TI := ⟨1, 8, .other, [.nilFunc]⟩
set_option maxRecDepth 100000 in
theorem tiok97 : TIok Tryd.prog 97 ti97 := TIok.of Tryd.type97 Tryd.underlying97 rfl rfl rfl rfl rfl rfl trivial
def ti98 : TI := ⟨1, 8, .other, [.nilFunc]⟩
set_option maxRecDepth 100000 in
theorem tiok98 : TIok Tryd.prog 98 ti98 := TIok.of Tryd.type98 Tryd.underlying98 rfl rfl rfl rfl rfl rfl trivial
def ti100 : TI := ⟨2, 2, .struct [(0, 5), (1, 5)], [(.int .u8 0), (.int .u8 0)]⟩
set_option maxRecDepth 100000 in
theorem tiok100 : TIok Tryd.prog 100 ti100 := TIok.of Tryd.type100 Tryd.underlying100 rfl rfl rfl rfl rfl rfl ⟨_, rfl, rfl⟩
def ti101 : TI := ⟨2, 2, .struct [(0, 5), (1, 5)], [(.int .u8 0), (.int .u8 0)]⟩
set_option maxRecDepth 100000 in
theorem tiok101 : TIok Tryd.prog 101 ti101 := TIok.of Tryd.type101 Tryd.underlying101 rfl rfl rfl rfl rfl rfl ⟨_, rfl, rfl⟩
def ti103 : TI := ⟨1, 8, .other, [.nilFunc]⟩
set_option maxRecDepth 100000 in
theorem tiok103 : TIok Tryd.prog 103 ti103 := TIok.of Tryd.type103 Tryd.underlying103 rfl rfl rfl rfl rfl rfl trivial
def ti104 : TI := ⟨1, 8, .other, [.nilFunc]⟩
set_option maxRecDepth 100000 in
theorem tiok104 : TIok Tryd.prog 104 ti104 := TIok.of Tryd.type104 Tryd.underlying104 rfl rfl rfl rfl rfl rfl trivial
def ti105 : TI := ⟨1, 8, .other, [.nilFunc]⟩
set_option maxRecDepth 100000 in
theorem tiok105 : TIok Tryd.prog 105 ti105 := TIok.of Tryd.type105 Tryd.underlying105 rfl rfl rfl rfl rfl rfl trivial
def ti107 : TI := ⟨1, 8, .other, [.nilFunc]⟩
set_option maxRecDepth 100000 in
theorem tiok107 : TIok Tryd.prog 107 ti107 := TIok.of Tryd.type107 Tryd.underlying107 rfl rfl rfl rfl rfl rfl trivial
def ti108 : TI := ⟨1, 8, .other, [.nilFunc]⟩
set_option maxRecDepth 100000 in
theorem tiok108 : TIok Tryd.prog 108 ti108 := TIok.of Tryd.type108 Tryd.underlying108 rfl rfl rfl rfl rfl rfl trivial
def ti110 : TI := ⟨1, 8, .other, [.nilFunc]⟩
set_option maxRecDepth 100000 in
theorem tiok110 : TIok Tryd.prog 110 ti110 := TIok.of Tryd.type110 Tryd.underlying110 rfl rfl rfl rfl rfl rfl trivial
def ti111 : TI := ⟨1, 8, .other, [.nilFunc]⟩
set_option maxRecDepth 100000 in
theorem tiok111 : TIok Tryd.prog 111 ti111 := TIok.of Tryd.type111 Tryd.underlying111 rfl rfl rfl rfl rfl rfl trivial
def ti113 : TI := ⟨1, 4, .int .u32, [(.int .u32 0)]⟩
set_option maxRecDepth 100000 in
theorem tiok113 : TIok Tryd.prog 113 ti113 := TIok.of Tryd.type113 Tryd.underlying113 rfl rfl rfl rfl rfl rfl rfl
def ti115 : TI := ⟨1, 8, .other, [.nilFunc]⟩
set_option maxRecDepth 100000 in
theorem tiok115 : TIok Tryd.prog 115 ti115 := TIok.of Tryd.type115 Tryd.underlying115 rfl rfl rfl rfl rfl rfl trivial
def ti116 : TI := ⟨1, 8, .other, [.nilFunc]⟩
set_option maxRecDepth 100000 in
theorem tiok116 : TIok Tryd.prog 116 ti116 := TIok.of Tryd.type116 Tryd.underlying116 rfl rfl rfl rfl rfl rfl trivial
def ti117 : TI := ⟨1, 8, .other, [.nilFunc]⟩
set_option maxRecDepth 100000 in
theorem tiok117 : TIok Tryd.prog 117 ti117 := TIok.of Tryd.type117 Tryd.underlying117 rfl rfl rfl rfl rfl rfl trivial
def ti120 : TI := ⟨4, 40, .struct [(0, 17), (1, 17), (2, 17), (3, 9)], [(.pointer none), (.pointer none), (.pointer none), (.string ⟨⟨[]⟩⟩)]⟩
set_option maxRecDepth 100000 in
theorem tiok120 : TIok Tryd.prog 120 ti120 := TIok.of Tryd.type120 Tryd.underlying120 rfl rfl rfl rfl rfl rfl ⟨_, rfl, rfl⟩
def ti121 : TI := ⟨4, 40, .struct [(0, 17), (1, 17), (2, 17), (3, 9)], [(.pointer none), (.pointer none), (.pointer none), (.string ⟨⟨[]⟩⟩)]⟩
set_option maxRecDepth 100000 in
theorem tiok121 : TIok Tryd.prog 121 ti121 := TIok.of Tryd.type121 Tryd.underlying121 rfl rfl rfl rfl rfl rfl ⟨_, rfl, rfl⟩
def ti123 : TI := ⟨0, 0, .struct [(0, 122)], []⟩
set_option maxRecDepth 100000 in
theorem tiok123 : TIok Tryd.prog 123 ti123 := TIok.of Tryd.type123 Tryd.underlying123 rfl rfl rfl rfl rfl rfl ⟨_, rfl, rfl⟩
def ti124 : TI := ⟨0, 0, .struct [(0, 122)], []⟩
set_option maxRecDepth 100000 in
theorem tiok124 : TIok Tryd.prog 124 ti124 := TIok.of Tryd.type124 Tryd.underlying124 rfl rfl rfl rfl rfl rfl ⟨_, rfl, rfl⟩
def ti125 : TI := ⟨1, 8, .other, [.nilFunc]⟩
set_option maxRecDepth 100000 in
theorem tiok125 : TIok Tryd.prog 125 ti125 := TIok.of Tryd.type125 Tryd.underlying125 rfl rfl rfl rfl rfl rfl trivial
def ti126 : TI := ⟨1, 1, .int .u8, [(.int .u8 0)]⟩
set_option maxRecDepth 100000 in
theorem tiok126 : TIok Tryd.prog 126 ti126 := TIok.of Tryd.type126 Tryd.underlying126 rfl rfl rfl rfl rfl rfl rfl
def ti127 : TI := ⟨1, 1, .int .u8, [(.int .u8 0)]⟩
set_option maxRecDepth 100000 in
theorem tiok127 : TIok Tryd.prog 127 ti127 := TIok.of Tryd.type127 Tryd.underlying127 rfl rfl rfl rfl rfl rfl rfl
def ti128 : TI := ⟨1, 8, .other, [.nilFunc]⟩
set_option maxRecDepth 100000 in
theorem tiok128 : TIok Tryd.prog 128 ti128 := TIok.of Tryd.type128 Tryd.underlying128 rfl rfl rfl rfl rfl rfl trivial
def ti129 : TI := ⟨1, 4, .int .i32, [(.int .i32 0)]⟩
set_option maxRecDepth 100000 in
theorem tiok129 : TIok Tryd.prog 129 ti129 := TIok.of Tryd.type129 Tryd.underlying129 rfl rfl rfl rfl rfl rfl rfl
def ti130 : TI := ⟨1, 4, .int .i32, [(.int .i32 0)]⟩
set_option maxRecDepth 100000 in
theorem tiok130 : TIok Tryd.prog 130 ti130 := TIok.of Tryd.type130 Tryd.underlying130 rfl rfl rfl rfl rfl rfl rfl
def ti131 : TI := ⟨11, 48, .struct [(0, 12), (1, 12), (2, 113), (3, 126), (4, 5), (5, 5), (6, 127), (7, 128), (8, 66), (9, 129), (10, 130)], [(.int .u64 0), (.int .u64 0), (.int .u32 0), (.int .u8 0), (.int .u8 0), (.int .u8 0), (.int .u8 0), .nilFunc, (.pointer none), (.int .i32 0), (.int .i32 0)]⟩
set_option maxRecDepth 100000 in
theorem tiok131 : TIok Tryd.prog 131 ti131 := TIok.of Tryd.type131 Tryd.underlying131 rfl rfl rfl rfl rfl rfl ⟨_, rfl, rfl⟩
def ti132 : TI := ⟨11, 48, .struct [(0, 12), (1, 12), (2, 113), (3, 126), (4, 5), (5, 5), (6, 127), (7, 128), (8, 66), (9, 129), (10, 130)], [(.int .u64 0), (.int .u64 0), (.int .u32 0), (.int .u8 0), (.int .u8 0), (.int .u8 0), (.int .u8 0), .nilFunc, (.pointer none), (.int .i32 0), (.int .i32 0)]⟩
set_option maxRecDepth 100000 in
theorem tiok132 : TIok Tryd.prog 132 ti132 := TIok.of Tryd.type132 Tryd.underlying132 rfl rfl rfl rfl rfl rfl ⟨_, rfl, rfl⟩
def tys : Tr := (.node 61 ti61 (.node 29 ti29 (.node 15 ti15 (.node 7 ti7 (.node 4 ti4 (.node 2 ti2 (.node 1 ti1 .nil .nil) (.node 3 ti3 .nil .nil)) (.node 6 ti6 (.node 5 ti5 .nil .nil) .nil)) (.node 11 ti11 (.node 9 ti9 (.node 8 ti8 .nil .nil) .nil) (.node 13 ti13 (.node 12 ti12 .nil .nil) .nil))) (.node 22 ti22 (.node 19 ti19 (.node 17 ti17 (.node 16 ti16 .nil .nil) (.node 18 ti18 .nil .nil)) (.node 21 ti21 (.node 20 ti20 .nil .nil) .nil)) (.node 26 ti26 (.node 25 ti25 (.node 23 ti23 .nil .nil) .nil) (.node 28 ti28 (.node 27 ti27 .nil .nil) .nil)))) (.node 44 ti44 (.node 38 ti38 (.node 33 ti33 (.node 31 ti31 (.node 30 ti30 .nil .nil) (.node 32 ti32 .nil .nil)) (.node 37 ti37 (.node 35 ti35 .nil .nil) .nil)) (.node 41 ti41 (.node 40 ti40 (.node 39 ti39 .nil .nil) .nil) (.node 43 ti43 (.node 42 ti42 .nil .nil) .nil))) (.node 53 ti53 (.node 47 ti47 (.node 46 ti46 (.node 45 ti45 .nil .nil) .nil) (.node 49 ti49 (.node 48 ti48 .nil .nil) .nil)) (.node 56 ti56 (.node 55 ti55 (.node 54 ti54 .nil .nil) .nil) (.node 58 ti58 (.node 57 ti57 .nil .nil) .nil))))) (.node 100 ti100 (.node 80 ti80 (.node 69 ti69 (.node 66 ti66 (.node 64 ti64 (.node 62 ti62 .nil .nil) (.node 65 ti65 .nil .nil)) (.node 68 ti68 (.node 67 ti67 .nil .nil) .nil)) (.node 74 ti74 (.node 73 ti73 (.node 72 ti72 .nil .nil) .nil) (.node 76 ti76 (.node 75 ti75 .nil .nil) .nil))) (.node 88 ti88 (.node 84 ti84 (.node 82 ti82 (.node 81 ti81 .nil .nil) .nil) (.node 86 ti86 (.node 85 ti85 .nil .nil) .nil)) (.node 93 ti93 (.node 92 ti92 (.node 90 ti90 .nil .nil) .nil) (.node 98 ti98 (.node 97 ti97 .nil .nil) .nil)))) (.node 120 ti120 (.node 110 ti110 (.node 105 ti105 (.node 103 ti103 (.node 101 ti101 .nil .nil) (.node 104 ti104 .nil .nil)) (.node 108 ti108 (.node 107 ti107 .nil .nil) .nil)) (.node 115 ti115 (.node 113 ti113 (.node 111 ti111 .nil .nil) .nil) (.node 117 ti117 (.node 116 ti116 .nil .nil) .nil))) (.node 127 ti127 (.node 124 ti124 (.node 123 ti123 (.node 121 ti121 .nil .nil) .nil) (.node 126 ti126 (.node 125 ti125 .nil .nil) .nil)) (.node 130 ti130 (.node 129 ti129 (.node 128 ti128 .nil .nil) .nil) (.node 132 ti132 (.node 131 ti131 .nil .nil) .nil))))))
def Θ : Nat → Option TI := tys.get
theorem hΘ : ThOk Tryd.prog Θ := Tr.ok (t := tys) ⟨tiok61, ⟨tiok29, ⟨tiok15, ⟨tiok7, ⟨tiok4, ⟨tiok2, ⟨tiok1, trivial, trivial⟩, ⟨tiok3, trivial, trivial⟩⟩, ⟨tiok6, ⟨tiok5, trivial, trivial⟩, trivial⟩⟩, ⟨tiok11, ⟨tiok9, ⟨tiok8, trivial, trivial⟩, trivial⟩, ⟨tiok13, ⟨tiok12, trivial, trivial⟩, trivial⟩⟩⟩, ⟨tiok22, ⟨tiok19, ⟨tiok17, ⟨tiok16, trivial, trivial⟩, ⟨tiok18, trivial, trivial⟩⟩, ⟨tiok21, ⟨tiok20, trivial, trivial⟩, trivial⟩⟩, ⟨tiok26, ⟨tiok25, ⟨tiok23, trivial, trivial⟩, trivial⟩, ⟨tiok28, ⟨tiok27, trivial, trivial⟩, trivial⟩⟩⟩⟩, ⟨tiok44, ⟨tiok38, ⟨tiok33, ⟨tiok31, ⟨tiok30, trivial, trivial⟩, ⟨tiok32, trivial, trivial⟩⟩, ⟨tiok37, ⟨tiok35, trivial, trivial⟩, trivial⟩⟩, ⟨tiok41, ⟨tiok40, ⟨tiok39, trivial, trivial⟩, trivial⟩, ⟨tiok43, ⟨tiok42, trivial, trivial⟩, trivial⟩⟩⟩, ⟨tiok53, ⟨tiok47, ⟨tiok46, ⟨tiok45, trivial, trivial⟩, trivial⟩, ⟨tiok49, ⟨tiok48, trivial, trivial⟩, trivial⟩⟩, ⟨tiok56, ⟨tiok55, ⟨tiok54, trivial, trivial⟩, trivial⟩, ⟨tiok58, ⟨tiok57, trivial, trivial⟩, trivial⟩⟩⟩⟩⟩, ⟨tiok100, ⟨tiok80, ⟨tiok69, ⟨tiok66, ⟨tiok64, ⟨tiok62, trivial, trivial⟩, ⟨tiok65, trivial, trivial⟩⟩, ⟨tiok68, ⟨tiok67, trivial, trivial⟩, trivial⟩⟩, ⟨tiok74, ⟨tiok73, ⟨tiok72, trivial, trivial⟩, trivial⟩, ⟨tiok76, ⟨tiok75, trivial, trivial⟩, trivial⟩⟩⟩, ⟨tiok88, ⟨tiok84, ⟨tiok82, ⟨tiok81, trivial, trivial⟩, trivial⟩, ⟨tiok86, ⟨tiok85, trivial, trivial⟩, trivial⟩⟩, ⟨tiok93, ⟨tiok92, ⟨tiok90, trivial, trivial⟩, trivial⟩, ⟨tiok98, ⟨tiok97, trivial, trivial⟩, trivial⟩⟩⟩⟩, ⟨tiok120, ⟨tiok110, ⟨tiok105, ⟨tiok103, ⟨tiok101, trivial, trivial⟩, ⟨tiok104, trivial, trivial⟩⟩, ⟨tiok108, ⟨tiok107, trivial, trivial⟩, trivial⟩⟩, ⟨tiok115, ⟨tiok113, ⟨tiok111, trivial, trivial⟩, trivial⟩, ⟨tiok117, ⟨tiok116, trivial, trivial⟩, trivial⟩⟩⟩, ⟨tiok127, ⟨tiok124, ⟨tiok123, ⟨tiok121, trivial, trivial⟩, trivial⟩, ⟨tiok126, ⟨tiok125, trivial, trivial⟩, trivial⟩⟩, ⟨tiok130, ⟨tiok129, ⟨tiok128, trivial, trivial⟩, trivial⟩, ⟨tiok132, ⟨tiok131, trivial, trivial⟩, trivial⟩⟩⟩⟩⟩⟩
end Go.Proofs.YtfdmlccbfbiloaaDoor
namespace Go.Proofs.YtfdmlccbfbiloaaDoor
open Go Go.Proofs.YtfdmlccbfbiloaaDoor.Vs
variable [Gl]
set_option linter.unusedSectionVars false

/-! #### bytes -/
def isBlank (x : Int) : Bool := x == 32 || x == 9
def isLetter (x : Int) : Bool := (decide (97 ≤ x) && decide (x ≤ 122)) || (decide (65 ≤ x) && decide (x ≤ 90))
def isDigit (x : Int) : Bool := decide (48 ≤ x) && decide (x ≤ 57)
def isVisible (x : Int) : Bool := (decide (32 ≤ x) && decide (x ≤ 126)) || x == 9
def tokenMarks : List UInt8 := [33, 35, 36, 37, 38, 39, 42, 43, 45, 46, 94, 95, 124, 126, 96]
def isMark (x : Int) : Bool := tokenMarks.any fun b => x == (b.toNat : Int)
def isToken (x : Int) : Bool := isLetter x || isDigit x || isMark x

theorem l1Blank_c (x : Int) : VC Tryd.prog 43 [.val (.int .u8 x)] (.val (.bool (isBlank x))) := by
  refine VC.intro hΘ Tryd.func43 rfl rfl Tryd.ntmps43 rfl rfl rfl fun B hB => ?_
  (conv => whnf)
  repeat' first
    | (refine brm_intro (fun _ => ?_) (fun _ => ?_) <;> (conv => whnf))
    | refine vfin_bool (Bool.eq_iff_iff.2 ?_)
  all_goals (simp [isBlank] at *; try omega)
theorem isDigit_c (x : Int) : VC Tryd.prog 26 [.val (.int .u8 x)] (.val (.bool (isDigit x))) := by
  refine VC.intro hΘ Tryd.func26 rfl rfl Tryd.ntmps26 rfl rfl rfl fun B hB => ?_
  (conv => whnf)
  repeat' first
    | (refine brm_intro (fun _ => ?_) (fun _ => ?_) <;> (conv => whnf))
    | refine vfin_bool (Bool.eq_iff_iff.2 ?_)
  all_goals (simp [isDigit] at *; try omega)
theorem isVisible_c (x : Int) : VC Tryd.prog 47 [.val (.int .u8 x)] (.val (.bool (isVisible x))) := by
  refine VC.intro hΘ Tryd.func47 rfl rfl Tryd.ntmps47 rfl rfl rfl fun B hB => ?_
  (conv => whnf)
  repeat' first
    | (refine brm_intro (fun _ => ?_) (fun _ => ?_) <;> (conv => whnf))
    | refine vfin_bool (Bool.eq_iff_iff.2 ?_)
  all_goals (simp [isVisible] at *; try omega)
theorem isLetter_c (x : Int) : VC Tryd.prog 45 [.val (.int .u8 x)] (.val (.bool (isLetter x))) := by
  refine VC.intro hΘ Tryd.func45 rfl rfl Tryd.ntmps45 rfl rfl rfl fun B hB => ?_
  (conv => whnf)
  repeat' first
    | (refine brm_intro (fun _ => ?_) (fun _ => ?_) <;> (conv => whnf))
    | refine vfin_bool (Bool.eq_iff_iff.2 ?_)
  all_goals (simp [isLetter] at *; try omega)
theorem l1Token_c (x : Int) : VC Tryd.prog 42 [.val (.int .u8 x)] (.val (.bool (isToken x))) := by
  refine VC.intro' hΘ Tryd.func42 rfl rfl Tryd.ntmps42 rfl rfl rfl fun B hB => ?_
  refine vsem_seq (vsem_code hΘ hB ?_)
  (conv => whnf)
  refine vsem_seq (vsem_block ?_)
  refine vsem_seq (vsem_cut (ι := Unit) (fun _ => ⟨[(0, .val (.int .u8 x)), (5, .val (.bool (isLetter x || isDigit x)))], []⟩) (fun _ => True) (vsem_code hΘ hB ?_) ?_)
  · (conv => whnf)
    repeat' refine brm_intro (fun _ => ?_) (fun _ => ?_) <;> (conv => whnf)
    all_goals refine ⟨(), ⟨⟨.inr rfl, .inr (vbool_eq (Bool.eq_iff_iff.2 ?_)), trivial⟩, trivial⟩, trivial⟩
    all_goals (simp [isLetter, isDigit] at *; try omega)
  intro _ _
  refine vsem_code hΘ hB ?_
  (conv => whnf)
  refine brm_intro (fun h => ?_) (fun h => ?_) <;> (conv => whnf)
  · refine vfin_bool ?_
    rw [isToken, h]; rfl
  refine vsem_code hΘ hB ?_
  (conv => whnf)
  have hmk : [[C.v (.int .u8 33)], [C.v (.int .u8 35)], [C.v (.int .u8 36)], [C.v (.int .u8 37)], [C.v (.int .u8 38)], [C.v (.int .u8 39)], [C.v (.int .u8 42)], [C.v (.int .u8 43)], [C.v (.int .u8 45)], [C.v (.int .u8 46)], [C.v (.int .u8 94)], [C.v (.int .u8 95)], [C.v (.int .u8 124)], [C.v (.int .u8 126)], [C.v (.int .u8 96)]] = bytesC tokenMarks := by simp [bytesC, tokenMarks]
  have hlen : (bytesC tokenMarks).length = 15 := rfl
  refine vloop_intro hΘ hB (ι := Nat) (fun i => ⟨[(0, .val (.int .u8 x)), (28, .own 1 (bytesC tokenMarks)), (29, .hd (.sl 28 0 0)), (30, .val (.int .i64 15)), (31, .val (.int .i64 i))], []⟩)
    (fun i => i ≤ 15 ∧ (tokenMarks.drop i).any (fun b => x == (b.toNat : Int)) = isMark x) (fun i => 15 - i) 0 ⟨⟨.inr rfl, .inr (vown_eq hmk), .inr rfl, .inr rfl, .inr rfl, trivial⟩, trivial⟩ ⟨by omega, rfl⟩ ?_
  rintro i ⟨k1, k2⟩
  (conv => whnf)
  refine brm_intro (fun h' => ?_) (fun h' => ?_) <;> simp only [decide_eq_true_eq, decide_eq_false_iff_not] at h' <;> (conv => whnf)
  · have hi : i < tokenMarks.length := by show i < 15; omega
    refine vix_intro i rfl (by rw [hlen]; exact hi) ?_
    (conv => whnf)
    rw [List.drop_eq_getElem_cons hi] at k2
    have hg : tokenMarks[i]? = some tokenMarks[i] := List.getElem?_eq_getElem hi
    generalize tokenMarks[i] = b at k2 hg
    refine vat_intro i [C.v (.int .u8 b.toNat)] rfl (by rw [bytesC, List.getElem?_map, hg]; rfl) ?_
    (conv => whnf)
    refine brm_intro (fun h2 => ?_) (fun h2 => ?_) <;> (conv => whnf)
    · refine vfin_bool ?_
      simp only [List.any_cons] at k2
      have : (x == (b.toNat : Int)) = true := by simp at h2 ⊢; omega
      rw [this, Bool.true_or] at k2
      rw [isToken, ← k2, Bool.or_true]
    · simp only [List.any_cons] at k2
      have : (x == (b.toNat : Int)) = false := by simp at h2 ⊢; omega
      rw [this, Bool.false_or] at k2
      exact ⟨i + 1, ⟨⟨.inr rfl, .inr rfl, .inr rfl, .inr rfl, .inr (vint_eq (by simp (disch := omega) only [wrap_i64]; rfl)), trivial⟩, trivial⟩, ⟨by omega, k2⟩, by omega⟩
  · refine vfin_bool ?_
    have : tokenMarks.drop i = [] := List.drop_eq_nil_of_le (by show 15 ≤ i; omega)
    rw [this] at k2
    rw [isToken, h, ← k2]; rfl
end Go.Proofs.YtfdmlccbfbiloaaDoor
namespace Go.Proofs.YtfdmlccbfbiloaaDoor
open Go Go.Proofs.YtfdmlccbfbiloaaDoor.Vs
variable [Gl]
set_option linter.unusedSectionVars false

/-! #### texts -/
theorem byteAt_get {l : List UInt8} {i : Nat} {b : UInt8} (h : l[i]? = some b) : byteAt l i = (b.toNat : Int) := by
  simp [byteAt, List.getD_eq_getElem?_getD, h]
def tokenOk (l : List UInt8) : Bool := (decide (1 ≤ l.length) && decide (l.length ≤ 64)) && l.all fun b => isToken b.toNat
def visibleOk (l : List UInt8) : Bool := decide (l.length ≤ 400) && l.all fun b => isVisible b.toNat
def lowerB (b : UInt8) : UInt8 := if 65 ≤ b.toNat ∧ b.toNat ≤ 90 then b + 32 else b
def lower (l : List UInt8) : List UInt8 := l.map lowerB
def blankB (b : UInt8) : Bool := isBlank b.toNat
def trimL (l : List UInt8) : List UInt8 := l.dropWhile blankB
def trimR (l : List UInt8) : List UInt8 := (l.reverse.dropWhile blankB).reverse
def trimmed (l : List UInt8) : List UInt8 := trimR (trimL l)

theorem tokenOkS_c (s : ByteArray) (hs : (sb s).length ≤ 140737488355328) : VC Tryd.prog 28 [.val (.string s)] (.val (.bool (tokenOk (sb s)))) := by
  refine VC.intro hΘ Tryd.func28 rfl rfl Tryd.ntmps28 rfl rfl rfl fun B hB => ?_
  generalize hl : sb s = l at *
  (conv => whnf)
  refine brm_intro (fun h => ?_) (fun h => ?_) <;> (conv => whnf) <;> rw [hl] at h <;> simp only [decide_eq_true_eq, decide_eq_false_iff_not] at h
  · refine vfin_bool ?_
    have : ¬ 1 ≤ l.length := by omega
    simp [tokenOk, this]
  refine brm_intro (fun h' => ?_) (fun h' => ?_) <;> (conv => whnf) <;> rw [hl] at h' <;> simp only [decide_eq_true_eq, decide_eq_false_iff_not] at h'
  · refine vfin_bool ?_
    have : ¬ l.length ≤ 64 := by omega
    simp [tokenOk, this]
  have hT : tokenOk l = l.all fun b => isToken b.toNat := by
    have h1 : 1 ≤ l.length := by omega
    have h2 : l.length ≤ 64 := by omega
    simp [tokenOk, h1, h2]
  rw [hT]
  refine vloop_intro hΘ hB (ι := Nat) (fun i => ⟨[(0, .val (.string s)), (3, .val (.int .i64 i))], []⟩) (fun i => i ≤ l.length ∧ (l.drop i).all (fun b => isToken b.toNat) = l.all fun b => isToken b.toNat) (fun i => l.length - i) 0
    ⟨⟨.inr rfl, .inr rfl, trivial⟩, trivial⟩ ⟨by omega, rfl⟩ ?_
  rintro i ⟨k1, k2⟩
  (conv => whnf)
  refine brm_intro (fun h => ?_) (fun h => ?_) <;> (conv => whnf) <;> rw [hl] at h <;> simp only [decide_eq_true_eq, decide_eq_false_iff_not] at h
  · have hi : i < l.length := by omega
    refine vix_intro i rfl (by rw [hl]; exact hi) ?_
    rw [List.drop_eq_getElem_cons hi, List.all_cons] at k2
    have hg := byteAt_get (List.getElem?_eq_getElem hi)
    generalize l[i] = b at k2 hg
    (conv => whnf)
    refine vcallS_intro0 rfl (l1Token_c (byteAt (sb s) i)) (f1 (av rfl) f0) ?_
    (conv => whnf)
    rw [hl, hg]
    refine brm_intro (fun h2 => ?_) (fun h2 => ?_) <;> (conv => whnf)
    · refine vfin_bool ?_
      simp only [Bool.not_eq_true'] at h2
      rw [h2, Bool.false_and] at k2
      exact k2
    · simp only [Bool.not_eq_false'] at h2
      rw [h2, Bool.true_and] at k2
      exact ⟨i + 1, ⟨⟨.inr rfl, .inr (vint_eq (by simp (disch := omega) only [wrap_i64]; rfl)), trivial⟩, trivial⟩, ⟨by omega, k2⟩, by omega⟩
  · refine vfin_bool ?_
    have : l.drop i = [] := List.drop_eq_nil_of_le (by omega)
    rw [this] at k2
    exact k2
end Go.Proofs.YtfdmlccbfbiloaaDoor
namespace Go.Proofs.YtfdmlccbfbiloaaDoor
open Go Go.Proofs.YtfdmlccbfbiloaaDoor.Vs
variable [Gl]
set_option linter.unusedSectionVars false

theorem visibleOkS_c (s : ByteArray) (hs : (sb s).length ≤ 140737488355328) : VC Tryd.prog 29 [.val (.string s)] (.val (.bool (visibleOk (sb s)))) := by
  refine VC.intro hΘ Tryd.func29 rfl rfl Tryd.ntmps29 rfl rfl rfl fun B hB => ?_
  generalize hl : sb s = l at *
  (conv => whnf)
  refine brm_intro (fun h => ?_) (fun h => ?_) <;> (conv => whnf) <;> rw [hl] at h <;> simp only [decide_eq_true_eq, decide_eq_false_iff_not] at h
  · refine vfin_bool ?_
    have : ¬ l.length ≤ 400 := by omega
    simp [visibleOk, this]
  have hT : visibleOk l = l.all fun b => isVisible b.toNat := by
    have h2 : l.length ≤ 400 := by omega
    simp [visibleOk, h2]
  rw [hT]
  refine vloop_intro hΘ hB (ι := Nat) (fun i => ⟨[(0, .val (.string s)), (3, .val (.int .i64 i))], []⟩) (fun i => i ≤ l.length ∧ (l.drop i).all (fun b => isVisible b.toNat) = l.all fun b => isVisible b.toNat) (fun i => l.length - i) 0
    ⟨⟨.inr rfl, .inr rfl, trivial⟩, trivial⟩ ⟨by omega, rfl⟩ ?_
  rintro i ⟨k1, k2⟩
  (conv => whnf)
  refine brm_intro (fun h => ?_) (fun h => ?_) <;> (conv => whnf) <;> rw [hl] at h <;> simp only [decide_eq_true_eq, decide_eq_false_iff_not] at h
  · have hi : i < l.length := by omega
    have hi' : i < (sb s).length := by rw [hl]; exact hi
    rw [List.drop_eq_getElem_cons hi, List.all_cons] at k2
    have hg := byteAt_get (List.getElem?_eq_getElem hi)
    generalize l[i] = b at k2 hg
    rw [← hl] at hg
    repeat' first
      | (refine vix_intro i rfl hi' ?_; (conv => whnf))
      | (refine brm_intro (fun _ => ?_) (fun _ => ?_) <;> (conv => whnf))
    all_goals (simp only [hg, decide_eq_true_eq, decide_eq_false_iff_not, bne_iff_ne, ne_eq, bne_eq_false_iff_eq] at *)
    all_goals first
      | (have hv : isVisible b.toNat = false := by (simp [isVisible]; omega)
         refine vfin_bool ?_
         rw [hv, Bool.false_and] at k2; exact k2)
      | (have hv : isVisible b.toNat = true := by (simp [isVisible]; omega)
         rw [hv, Bool.true_and] at k2
         exact ⟨i + 1, ⟨⟨.inr rfl, .inr (vint_eq (by simp (disch := omega) only [wrap_i64]; rfl)), trivial⟩, trivial⟩, ⟨by omega, k2⟩, by omega⟩)
  · refine vfin_bool ?_
    have : l.drop i = [] := List.drop_eq_nil_of_le (by omega)
    rw [this] at k2
    exact k2
theorem trimmedS_c (s : ByteArray) (hs : (sb s).length ≤ 140737488355328) : VC Tryd.prog 30 [.val (.string s)] (.val (.string (bs (trimmed (sb s))))) := by
  refine VC.intro' hΘ Tryd.func30 rfl rfl Tryd.ntmps30 rfl rfl rfl fun B hB => ?_
  refine vsem_seq (vsem_code hΘ hB ?_)
  (conv => whnf)
  refine vsem_seq (vsem_cut (ι := Unit) (fun _ => ⟨[(0, .val (.string (bs (trimL (sb s)))))], []⟩) (fun _ => True) (vsem_code hΘ hB ?_) ?_)
  · (conv => whnf)
    refine vloop_intro hΘ hB (ι := List UInt8) (fun l => ⟨[(0, .val (.string (bs l)))], []⟩) (fun l => l.length ≤ 140737488355328 ∧ trimL l = trimL (sb s)) (fun l => l.length) (sb s)
      ⟨⟨.inr rfl, trivial⟩, trivial⟩ ⟨hs, rfl⟩ ?_
    rintro (_ | ⟨b, r⟩) ⟨k1, k2⟩ <;> (conv => whnf)
    · exact ⟨(), ⟨⟨.inr (vstr_eq (congrArg bs k2)), trivial⟩, trivial⟩, trivial⟩
    · refine vix_intro 0 rfl (Nat.succ_pos _) ?_
      (conv => whnf)
      refine vcallS_intro0 rfl (l1Blank_c b.toNat) (f1 (av rfl) f0) ?_
      (conv => whnf)
      refine brm_intro (fun h => ?_) (fun h => ?_) <;> (conv => whnf)
      · refine vrange_intro 1 (r.length + 1) rfl rfl (by omega) (Nat.le_refl _) ?_
        (conv => whnf)
        refine ⟨r, ⟨⟨.inr (vstr_eq (congrArg bs ?_)), trivial⟩, trivial⟩, ⟨by simp at k1; omega, ?_⟩, by simp⟩
        · show (r.take (r.length + 1 - 1)) = r
          simp
        · rw [← k2]
          have hb : blankB b = true := h
          simp [trimL, hb]
      · refine ⟨(), ⟨⟨.inr (vstr_eq (congrArg bs ?_)), trivial⟩, trivial⟩, trivial⟩
        rw [← k2]
        have hb : blankB b = false := h
        show b :: r = _
        simp [trimL, hb]
  intro _ _
  refine vsem_code hΘ hB ?_
  (conv => whnf)
  have htl : (trimL (sb s)).length ≤ 140737488355328 := Nat.le_trans (List.dropWhile_sublist _).length_le hs
  refine vloop_intro hΘ hB (ι := List UInt8) (fun m => ⟨[(0, .val (.string (bs m.reverse)))], []⟩) (fun m => m.length ≤ 140737488355328 ∧ m.dropWhile blankB = (trimL (sb s)).reverse.dropWhile blankB) (fun m => m.length) (trimL (sb s)).reverse
    ⟨⟨.inr (vstr_eq (congrArg bs (List.reverse_reverse _).symm)), trivial⟩, trivial⟩ ⟨by simpa using htl, rfl⟩ ?_
  rintro m ⟨k1, k2⟩
  (conv => whnf)
  refine brm_intro (fun h => ?_) (fun h => ?_) <;> (conv => whnf) <;> simp only [sb_bs] at h
  · match m, h, k1, k2 with
    | [], h, _, _ => exact absurd h (by decide)
    | b :: r, _, k1, k2 =>
      have hlen : (sb (bs (b :: r).reverse)).length = r.length + 1 := by rw [sb_bs]; simp
      have hw : IntKind.i64.wrap (((sb (bs (b :: r).reverse)).length : Int) - 1) = (r.length : Int) := by
        rw [hlen]; simp at k1; rw [wrap_i64 (by omega) (by omega)]; omega
      refine vix_intro r.length hw (by rw [hlen]; omega) ?_
      have hb : byteAt (sb (bs (b :: r).reverse)) r.length = (b.toNat : Int) := byteAt_get (by rw [sb_bs]; simp)
      (conv => whnf)
      refine vcallS_intro0 rfl (l1Blank_c (byteAt (sb (bs (b :: r).reverse)) r.length)) (f1 (av rfl) f0) ?_
      (conv => whnf)
      rw [hb]
      refine brm_intro (fun h => ?_) (fun h => ?_) <;> (conv => whnf)
      · refine vrange_intro 0 r.length rfl hw (by omega) (by rw [hlen]; omega) ?_
        (conv => whnf)
        refine ⟨r, ⟨⟨.inr (vstr_eq (congrArg bs ?_)), trivial⟩, trivial⟩, ⟨by simp at k1; omega, ?_⟩, by simp⟩
        · rw [sb_bs]; simp
        · rw [← k2]
          have hb : blankB b = true := h
          simp [hb]
      · refine vfin_str (congrArg bs ?_)
        have hb : blankB b = false := h
        rw [trimmed, trimR, ← k2]
        simp [hb]
  · refine vfin_str (congrArg bs ?_)
    match m, h, k2 with
    | b :: r, h, _ => exfalso; simp at h; have := congrArg List.length h; simp [sb] at this
    | [], _, k2 => rw [trimmed, trimR, ← k2]; rfl
end Go.Proofs.YtfdmlccbfbiloaaDoor
namespace Go.Proofs.YtfdmlccbfbiloaaDoor
open Go Go.Proofs.YtfdmlccbfbiloaaDoor.Vs
variable [Gl]
set_option linter.unusedSectionVars false

theorem lower_step {l : List UInt8} {i : Nat} {b : UInt8} (h : l[i]? = some b) : (lower (l.take i) ++ l.drop i).set i (lowerB b) = lower (l.take (i + 1)) ++ l.drop (i + 1) := by
  have hi := (List.getElem?_eq_some_iff.1 h).1
  have hb := (List.getElem?_eq_some_iff.1 h).2
  rw [List.drop_eq_getElem_cons hi, List.take_succ_eq_append_getElem hi]
  have hlen : (lower (l.take i)).length = i := by simp [lower]; omega
  rw [List.set_append_right _ _ (by omega), hlen, Nat.sub_self, List.set_cons_zero]
  simp [lower, hb]
theorem lower_id {l : List UInt8} {i : Nat} {b : UInt8} (h : l[i]? = some b) (hb : lowerB b = b) : lower (l.take i) ++ l.drop i = lower (l.take (i + 1)) ++ l.drop (i + 1) := by
  rw [← lower_step h, hb]
  have hi := (List.getElem?_eq_some_iff.1 h).1
  have hlen : (lower (l.take i)).length = i := by simp [lower]; omega
  apply List.ext_getElem?
  intro k
  rw [List.getElem?_set]
  split
  · rename_i e
    subst e
    rw [if_pos (by simp [hlen]; omega), List.getElem?_append_right (by omega), hlen, Nat.sub_self, List.getElem?_drop, Nat.add_zero]
    exact h
  · rfl
theorem lower_at {l : List UInt8} {i : Nat} {b : UInt8} (h : l[i]? = some b) : (lower (l.take i) ++ l.drop i)[i]? = some b := by
  have hi := (List.getElem?_eq_some_iff.1 h).1
  have hlen : (lower (l.take i)).length = i := by simp [lower]; omega
  rw [List.getElem?_append_right (by omega), hlen, Nat.sub_self, List.getElem?_drop, Nat.add_zero]; exact h
theorem bytesC_at {l : List UInt8} {i : Nat} {b : UInt8} (h : l[i]? = some b) : (bytesC l)[i]? = some [C.v (.int .u8 b.toNat)] := by
  rw [bytesC, List.getElem?_map, h]; rfl
theorem bytesC_set {l : List UInt8} {i : Nat} {b : UInt8} : (bytesC l).set i [C.v (.int .u8 b.toNat)] = bytesC (l.set i b) := by
  rw [bytesC, bytesC, List.map_set]
theorem bytesC_len {l : List UInt8} : (bytesC l).length = l.length := by simp [bytesC]

theorem lowerB_id {b : UInt8} (h : ¬ (65 ≤ b.toNat ∧ b.toNat ≤ 90)) : lowerB b = b := by rw [lowerB, if_neg h]
theorem lowerB_up {b : UInt8} (h : 65 ≤ b.toNat) (h' : b.toNat ≤ 90) : ((lowerB b).toNat : Int) = (b.toNat : Int) + 32 := by
  rw [lowerB, if_pos ⟨h, h'⟩, UInt8.toNat_add]
  have : (32 : UInt8).toNat = 32 := rfl
  rw [this]
  omega
theorem lowerS_c (s : ByteArray) (hs : (sb s).length ≤ 140737488355328) : VC Tryd.prog 13 [.val (.string s)] (.val (.string (bs (lower (sb s))))) := by
  refine VC.intro hΘ Tryd.func13 rfl rfl Tryd.ntmps13 rfl rfl rfl fun B hB => ?_
  (conv => whnf)
  refine vreq_intro hs ?_
  (conv => whnf)
  generalize hl : sb s = l at *
  refine vloop_intro hΘ hB (ι := Nat) (fun i => ⟨[(3, .own 1 (bytesC (lower (l.take i) ++ l.drop i))), (4, .val (.int .i64 i))], []⟩) (fun i => i ≤ l.length) (fun i => l.length - i) 0
    ⟨⟨.inr rfl, .inr rfl, trivial⟩, trivial⟩ (Nat.zero_le _) ?_
  rintro i k1
  have hlen : (bytesC (lower (l.take i) ++ l.drop i)).length = l.length := by rw [bytesC_len]; simp [lower]; omega
  (conv => whnf)
  refine brm_intro (fun h => ?_) (fun h => ?_) <;> (conv => whnf) <;> rw [hlen] at h <;> simp only [decide_eq_true_eq, decide_eq_false_iff_not] at h
  · have hi : i < l.length := by omega
    have hg : l[i]? = some l[i] := List.getElem?_eq_getElem hi
    generalize l[i] = b at hg
    have hat := bytesC_at (lower_at hg)
    have hlt : i < (bytesC (lower (l.take i) ++ l.drop i)).length := by omega
    repeat' first
      | (refine vix_intro i rfl hlt ?_; (conv => whnf))
      | (refine vat_intro i _ rfl hat ?_; (conv => whnf))
      | (refine brm_intro (fun _ => ?_) (fun _ => ?_) <;> (conv => whnf))
    all_goals (simp only [decide_eq_true_eq, decide_eq_false_iff_not] at *)
    all_goals first
      | (have hb : lowerB b = b := lowerB_id (by omega)
         exact ⟨i + 1, ⟨⟨.inr (vown_eq (congrArg bytesC (lower_id hg hb))), .inr (vint_eq (by simp (disch := omega) only [wrap_i64]; rfl)), trivial⟩, trivial⟩, hi, by omega⟩)
      | (have hb := lowerB_up (b := b) (by omega) (by omega)
         refine ⟨i + 1, ⟨⟨.inr (vown_eq ?_), .inr (vint_eq (by simp (disch := omega) only [wrap_i64]; rfl)), trivial⟩, trivial⟩, hi, by omega⟩
         show (bytesC _).set i [C.v (.int .u8 (IntKind.u8.wrap ((b.toNat : Int) + 32)))] = _
         rw [wrap_u8 (by omega) (by omega), ← hb, bytesC_set, lower_step hg])
  · refine vbytes_intro _ rfl ?_
    (conv => whnf)
    refine vfin_str (congrArg bs ?_)
    have : i = l.length := by omega
    subst this
    simp
end Go.Proofs.YtfdmlccbfbiloaaDoor
namespace Go.Proofs.YtfdmlccbfbiloaaDoor
open Go Go.Proofs.YtfdmlccbfbiloaaDoor.Vs
variable [Gl]
set_option linter.unusedSectionVars false

/-! #### fields -/
abbrev Fd := ByteArray × ByteArray
def encF (p : Fd) : List C := [.v (.string p.1), .v (.string p.2)]
def valF (p : Fd) : V := .agg [.val (.string p.1), .val (.string p.2)]
def fieldOk (p : Fd) : Bool := (tokenOk (sb p.1) && visibleOk (sb p.2)) && trimmed (sb p.2) == sb p.2
def szOk (p : Fd) : Prop := (sb p.1).length ≤ 140737488355328 ∧ (sb p.2).length ≤ 140737488355328
def fieldsOk (l : List Fd) : Bool := decide (l.length ≤ 30) && l.all fieldOk
theorem mixed : Tryd.prog.follows .mixedOrders = true := by kernel_rfl

theorem l4Field_c (p : Fd) (hp : szOk p) : VC Tryd.prog 20 [valF p] (.val (.bool (fieldOk p))) := by
  refine VC.intro hΘ Tryd.func20 rfl rfl Tryd.ntmps20 rfl rfl rfl fun B hB => ?_
  (conv => whnf)
  refine vdraw_intro hΘ hB mixed (by kernel_rfl) ?_
  (conv => whnf)
  refine vcallQ_intro0 rfl (tokenOkS_c p.1 hp.1) (f1 (av rfl) f0) rfl ?_
  (conv => whnf)
  refine brm_intro (fun h => ?_) (fun h => ?_) <;> (conv => whnf)
  · refine vcallQ_intro0 rfl (visibleOkS_c p.2 hp.2) (f1 (av rfl) f0) rfl ?_
    (conv => whnf)
    refine brm_intro (fun h' => ?_) (fun h' => ?_) <;> (conv => whnf)
    · refine vcallQ_intro0 rfl (trimmedS_c p.2 hp.2) (f1 (av rfl) f0) rfl ?_
      (conv => whnf)
      refine vfin_bool ?_
      rw [fieldOk, h, h']
      rfl
    · refine vfin_bool ?_
      rw [fieldOk, h, h']
      rfl
  · refine vfin_bool ?_
    rw [fieldOk, h]
    rfl
theorem fieldsOkS_c (xs : List Fd) (hx : ∀ x ∈ xs, szOk x) (hl : xs.length ≤ 140737488355328) : VC Tryd.prog 10 [.rd none (.sl true 2 (xs.map encF))] (.val (.bool (fieldsOk xs))) := by
  refine VC.intro hΘ Tryd.func10 rfl rfl Tryd.ntmps10 rfl rfl rfl fun B hB => ?_
  (conv => whnf)
  refine brm_intro (fun h => ?_) (fun h => ?_) <;> (conv => whnf) <;> rw [List.length_map] at h <;> simp only [decide_eq_true_eq, decide_eq_false_iff_not] at h
  · refine vfin_bool ?_
    have : ¬ xs.length ≤ 30 := by omega
    simp [fieldsOk, this]
  have hT : fieldsOk xs = xs.all fieldOk := by
    have h2 : xs.length ≤ 30 := by omega
    simp [fieldsOk, h2]
  rw [hT]
  refine vloop_intro hΘ hB (ι := Nat) (fun i => ⟨[(0, .rd none (.sl true 2 (xs.map encF))), (3, .val (.int .i64 i))], []⟩) (fun i => i ≤ xs.length ∧ (xs.drop i).all fieldOk = xs.all fieldOk) (fun i => xs.length - i) 0
    ⟨⟨.inr rfl, .inr rfl, trivial⟩, trivial⟩ ⟨by omega, rfl⟩ ?_
  rintro i ⟨k1, k2⟩
  (conv => whnf)
  refine brm_intro (fun h => ?_) (fun h => ?_) <;> (conv => whnf) <;> rw [List.length_map] at h <;> simp only [decide_eq_true_eq, decide_eq_false_iff_not] at h
  · have hi : i < xs.length := by omega
    rw [List.drop_eq_getElem_cons hi, List.all_cons] at k2
    have hm : xs[i] ∈ xs := List.getElem_mem hi
    have hg : xs[i]? = some xs[i] := List.getElem?_eq_getElem hi
    generalize xs[i] = x at k2 hm hg
    refine vat_intro i (encF x) rfl (by rw [List.getElem?_map, hg]; rfl) ?_
    (conv => whnf)
    refine vcallS_intro0 rfl (l4Field_c x (hx x hm)) (f1 (fa (l1 (fv rfl) (l1 (fv rfl) l0))) f0) ?_
    (conv => whnf)
    refine brm_intro (fun h2 => ?_) (fun h2 => ?_) <;> (conv => whnf)
    · refine vfin_bool ?_
      simp only [Bool.not_eq_true'] at h2
      rw [h2, Bool.false_and] at k2
      exact k2
    · simp only [Bool.not_eq_false'] at h2
      rw [h2, Bool.true_and] at k2
      exact ⟨i + 1, ⟨⟨.inr rfl, .inr (vint_eq (by simp (disch := omega) only [wrap_i64]; rfl)), trivial⟩, trivial⟩, ⟨by omega, k2⟩, by omega⟩
  · refine vfin_bool ?_
    have : xs.drop i = [] := List.drop_eq_nil_of_le (by omega)
    rw [this] at k2
    exact k2
end Go.Proofs.YtfdmlccbfbiloaaDoor
namespace Go.Proofs.YtfdmlccbfbiloaaDoor
open Go Go.Proofs.YtfdmlccbfbiloaaDoor.Vs
variable [Gl]
set_option linter.unusedSectionVars false

def comma : List UInt8 := [44, 32]
def hitsOf (n : ByteArray) (xs : List Fd) : List (List UInt8) := (xs.filter fun p => lower (sb p.1) == lower (sb n)).map fun p => sb p.2
theorem hitsOf_cons {n : ByteArray} {p : Fd} {xs : List Fd} : hitsOf n (p :: xs) = (if lower (sb p.1) = lower (sb n) then [sb p.2] else []) ++ hitsOf n xs := by
  unfold hitsOf
  rw [List.filter_cons]
  by_cases h : lower (sb p.1) = lower (sb n) <;> simp [h]
theorem join_snoc {xs : List (List UInt8)} {v sep : List UInt8} (h : xs ≠ []) : Lib.join (xs ++ [v]) sep = Lib.join xs sep ++ sep ++ v := by
  match xs, h with
  | x :: r, _ => rw [List.cons_append, Lib.join_cons, Lib.join_cons]; simp [Lib.joinTail]
theorem join_len {xs : List (List UInt8)} {m : Nat} (h : ∀ x ∈ xs, x.length ≤ m) : (Lib.join xs comma).length ≤ xs.length * (m + 2) := by
  match xs with
  | [] => simp [Lib.join_nil]
  | x :: r =>
    rw [Lib.join_cons, List.length_append]
    have h1 := h x (by simp)
    have h2 : ∀ r : List (List UInt8), (∀ y ∈ r, y.length ≤ m) → (Lib.joinTail comma r).length ≤ r.length * (m + 2) := by
      intro r
      induction r with
      | nil => intro _; simp [Lib.joinTail]
      | cons y r ih =>
        intro hr
        have := ih (fun z hz => hr z (by simp [hz]))
        have hy := hr y (by simp)
        have hc : comma.length = 2 := rfl
        simp only [Lib.joinTail, List.map_cons, List.flatten_cons, List.length_append, List.length_cons, Nat.succ_mul, hc] at this ⊢
        omega
    have := h2 r (fun y hy => h y (by simp [hy]))
    simp only [List.length_cons, Nat.succ_mul]
    omega
/-- what Get answers -/
def getV (xs : List Fd) (n : ByteArray) : V := .tup [.val (.string (bs (Lib.join (hitsOf n xs) comma))), .val (.bool (decide (hitsOf n xs ≠ [])))]

theorem l4GetM_c (m : Nat) (xs : List Fd) (n : ByteArray) (hx : ∀ x ∈ xs, szOk x) (hv : ∀ x ∈ xs, (sb x.2).length ≤ m) (hn : (sb n).length ≤ 140737488355328) (hl : xs.length * (m + 2) ≤ 4222124650659900) (hl9 : xs.length ≤ 140737488355328) : VC Tryd.prog 11 [.rd none (.sl true 2 (xs.map encF)), .val (.string n)] (getV xs n) := by
  refine VC.intro hΘ Tryd.func11 rfl rfl Tryd.ntmps11 rfl rfl rfl fun B hB => ?_
  (conv => whnf)
  refine vloop_intro hΘ hB (ι := Nat × List (List UInt8)) (fun i => ⟨[(0, .rd none (.sl true 2 (xs.map encF))), (1, .val (.string n)), (6, .val (.string (bs (Lib.join i.2 comma)))), (7, .val (.bool (decide (i.2 ≠ [])))), (8, .val (.int .i64 i.1))], []⟩)
    (fun i => i.1 ≤ xs.length ∧ i.2 ++ hitsOf n (xs.drop i.1) = hitsOf n xs ∧ i.2.length ≤ i.1 ∧ ∀ x ∈ i.2, x.length ≤ m) (fun i => xs.length - i.1) (0, [])
    ⟨⟨.inr rfl, .inr rfl, .inr rfl, .inr rfl, .inr rfl, trivial⟩, trivial⟩ ⟨by simp, rfl, by simp, by simp⟩ ?_
  rintro ⟨i, hs⟩ ⟨k1, k2, k3, k4⟩
  simp only at k1 k2 k3 k4
  (conv => whnf)
  refine brm_intro (fun h => ?_) (fun h => ?_) <;> (conv => whnf) <;> rw [List.length_map] at h <;> simp only [decide_eq_true_eq, decide_eq_false_iff_not] at h
  · have hi : i < xs.length := by omega
    rw [List.drop_eq_getElem_cons hi, hitsOf_cons] at k2
    have hm : xs[i] ∈ xs := List.getElem_mem hi
    have hg : xs[i]? = some xs[i] := List.getElem?_eq_getElem hi
    generalize xs[i] = x at k2 hm hg
    have hat : (xs.map encF)[i]? = some (encF x) := by rw [List.getElem?_map, hg]; rfl
    refine vat_intro i (encF x) rfl hat ?_
    (conv => whnf)
    refine vcallS_intro0 rfl (lowerS_c x.1 (hx x hm).1) (f1 (av rfl) f0) ?_
    (conv => whnf)
    refine vcallS_intro0 rfl (lowerS_c n hn) (f1 (av rfl) f0) ?_
    (conv => whnf)
    have hstep : IntKind.i64.wrap ((i : Int) + 1) = ((i + 1 : Nat) : Int) := by rw [wrap_i64 (by omega) (by omega)]; rfl
    have hjl := join_len k4
    have hjl' : (Lib.join hs comma).length ≤ 4222124650659900 := Nat.le_trans hjl (Nat.le_trans (Nat.mul_le_mul_right _ (by omega)) hl)
    refine brm_intro (fun h2 => ?_) (fun h2 => ?_) <;> (conv => whnf) <;> simp only [sb_bs] at h2
    · have : ¬ lower (sb x.1) = lower (sb n) := by simpa using h2
      rw [if_neg this] at k2
      exact ⟨(i + 1, hs), ⟨⟨.inr rfl, .inr rfl, .inr rfl, .inr rfl, .inr (vint_eq hstep), trivial⟩, trivial⟩, ⟨hi, k2, by simp; omega, k4⟩, by simp; omega⟩
    · have : lower (sb x.1) = lower (sb n) := by simpa using h2
      rw [if_pos this, ← List.append_assoc] at k2
      have k4' : ∀ y ∈ hs ++ [sb x.2], y.length ≤ m := by
        intro y hy
        rcases List.mem_append.1 hy with hy | hy
        · exact k4 y hy
        · simp at hy; rw [hy]; exact hv x hm
      refine brm_intro (fun h3 => ?_) (fun h3 => ?_) <;> (conv => whnf) <;> simp only [decide_eq_true_eq, decide_eq_false_iff_not] at h3
      · refine vreq_intro (by rw [sb_bs]; simp [sb, cap63]; omega) ?_
        (conv => whnf)
        refine vat_intro i (encF x) rfl hat ?_
        (conv => whnf)
        have := (hx x hm).2
        refine vreq_intro (by rw [sb_bs, sb_bs]; simp [sb, cap63] at *; omega) ?_
        (conv => whnf)
        refine ⟨(i + 1, hs ++ [sb x.2]), ⟨⟨.inr rfl, .inr rfl, .inr (vstr_eq (congrArg bs ?_)), .inr (vbool_eq ?_), .inr (vint_eq hstep), trivial⟩, trivial⟩, ⟨hi, k2, by simp; omega, k4'⟩, by simp; omega⟩
        · rw [join_snoc h3]; rfl
        · simp
      · have h3 : hs = [] := by simpa using h3
        subst h3
        refine vat_intro i (encF x) rfl hat ?_
        (conv => whnf)
        have := (hx x hm).2
        refine vreq_intro (by rw [sb_bs]; simp [cap63, Lib.join_nil] at *; omega) ?_
        (conv => whnf)
        refine ⟨(i + 1, [sb x.2]), ⟨⟨.inr rfl, .inr rfl, .inr (vstr_eq (congrArg bs ?_)), .inr (vbool_eq ?_), .inr (vint_eq hstep), trivial⟩, trivial⟩, ⟨hi, k2, by simp, k4'⟩, by simp; omega⟩
        · rw [Lib.join_one]; rfl
        · simp
  · have : xs.drop i = [] := List.drop_eq_nil_of_le (by omega)
    rw [this] at k2
    have : hs = hitsOf n xs := by simpa [hitsOf] using k2
    subst this
    exact vfin_tup2 rfl rfl

theorem l4Get_c (xs : List Fd) (n : ByteArray) (hx : ∀ x ∈ xs, szOk x) (hn : (sb n).length ≤ 140737488355328) (hl : xs.length ≤ 30) : VC Tryd.prog 11 [.rd none (.sl true 2 (xs.map encF)), .val (.string n)] (getV xs n) :=
  l4GetM_c 140737488355328 xs n hx (fun x h => (hx x h).2) hn (Nat.le_trans (Nat.mul_le_mul_right _ hl) (by decide)) (by omega)

def getAll (xs : List Fd) (n : ByteArray) : V := if fieldsOk xs then getV xs n else .tup [.val (.string (bs [])), .val (.bool false)]
theorem toField_c (p : Fd) : VC Tryd.prog 14 [valF p] (valF p) := by
  refine VC.intro hΘ Tryd.func14 rfl rfl Tryd.ntmps14 rfl rfl rfl fun B hB => ?_
  (conv => whnf)
  exact vfin_agg rfl
end Go.Proofs.YtfdmlccbfbiloaaDoor
namespace Go.Proofs.YtfdmlccbfbiloaaDoor
open Go Go.Proofs.YtfdmlccbfbiloaaDoor.Vs
variable [Gl]
set_option linter.unusedSectionVars false

def zF : Fd := (⟨⟨[]⟩⟩, ⟨⟨[]⟩⟩)
theorem set_app {xs : List Fd} {i : Nat} {x : Fd} (h : xs[i]? = some x) : (xs.take i ++ List.replicate (xs.length - i) zF).set i x = xs.take (i + 1) ++ List.replicate (xs.length - (i + 1)) zF := by
  have hi := (List.getElem?_eq_some_iff.1 h).1
  have hb := (List.getElem?_eq_some_iff.1 h).2
  have e : xs.length - i = (xs.length - (i + 1)) + 1 := by omega
  rw [e, List.replicate_succ, List.take_succ_eq_append_getElem hi]
  have hlen : (xs.take i).length = i := by simp; omega
  rw [List.set_append_right _ _ (by omega), hlen, Nat.sub_self, List.set_cons_zero, hb]
  simp
theorem toFieldS_c (xs : List Fd) (hl : xs.length ≤ 2097152) : VC Tryd.prog 6 [.rd none (.sl true 2 (xs.map encF))] (.own 2 (xs.map encF)) := by
  refine VC.intro hΘ Tryd.func6 rfl rfl Tryd.ntmps6 rfl rfl rfl fun B hB => ?_
  (conv => whnf)
  refine vlenN_intro xs.length (by rw [List.length_map]) (by rw [List.length_map]) (Nat.le_trans (Nat.mul_le_mul_right _ hl) (by decide)) ?_
  (conv => whnf)
  refine vloop_intro hΘ hB (ι := Nat) (fun i => ⟨[(0, .rd none (.sl true 2 (xs.map encF))), (3, .own 2 ((xs.take i ++ List.replicate (xs.length - i) zF).map encF)), (4, .val (.int .i64 i))], []⟩)
    (fun i => i ≤ xs.length) (fun i => xs.length - i) 0 ⟨⟨.inr rfl, .inr (vown_eq ?_), .inr rfl, trivial⟩, trivial⟩ (Nat.zero_le _) ?_
  · rw [List.take_zero, List.nil_append, List.map_replicate]; rfl
  rintro i k1
  have hlen : ((xs.take i ++ List.replicate (xs.length - i) zF).map encF).length = xs.length := by simp; omega
  (conv => whnf)
  refine brm_intro (fun h => ?_) (fun h => ?_) <;> (conv => whnf) <;> rw [List.length_map] at h <;> simp only [decide_eq_true_eq, decide_eq_false_iff_not] at h
  · have hi : i < xs.length := by omega
    have hg : xs[i]? = some xs[i] := List.getElem?_eq_getElem hi
    generalize xs[i] = x at hg
    refine vat_intro i (encF x) rfl (by rw [List.getElem?_map, hg]; rfl) ?_
    (conv => whnf)
    refine vcallS_intro0 rfl (toField_c x) (f1 (fa (l1 (fv rfl) (l1 (fv rfl) l0))) f0) ?_
    (conv => whnf)
    refine vix_intro i rfl (by rw [hlen]; exact hi) ?_
    (conv => whnf)
    refine ⟨i + 1, ⟨⟨.inr rfl, .inr (vown_eq ?_), .inr (vint_eq (by simp (disch := omega) only [wrap_i64]; rfl)), trivial⟩, trivial⟩, hi, by omega⟩
    rw [← set_app hg, List.map_set]; rfl
  · have : i = xs.length := by omega
    subst this
    refine vfin_own ?_
    simp
end Go.Proofs.YtfdmlccbfbiloaaDoor
namespace Go.Proofs.YtfdmlccbfbiloaaDoor
open Go Go.Proofs.YtfdmlccbfbiloaaDoor.Vs
variable [Gl]
set_option linter.unusedSectionVars false

theorem eqField_c (p q : Fd) : VC Tryd.prog 19 [valF p, valF q] (.val (.bool (sb p.1 == sb q.1 && sb p.2 == sb q.2))) := by
  refine VC.intro hΘ Tryd.func19 rfl rfl Tryd.ntmps19 rfl rfl rfl fun B hB => ?_
  (conv => whnf)
  refine brm_intro (fun h => ?_) (fun h => ?_) <;> (conv => whnf) <;> simp only [Bool.not_eq_true', Bool.not_eq_false'] at h
  · refine vfin_bool ?_
    rw [h]; rfl
  refine brm_intro (fun h' => ?_) (fun h' => ?_) <;> (conv => whnf) <;> simp only [Bool.not_eq_true', Bool.not_eq_false'] at h'
  · refine vfin_bool ?_
    rw [h, h']; rfl
  · refine vfin_bool ?_
    rw [h, h']; rfl
theorem eqFieldS_c (xs : List Fd) (hl : xs.length ≤ 2097152) : VC Tryd.prog 8 [.rd none (.sl true 2 (xs.map encF)), .rd none (.sl true 2 (xs.map encF))] (.val (.bool true)) := by
  refine VC.intro hΘ Tryd.func8 rfl rfl Tryd.ntmps8 rfl rfl rfl fun B hB => ?_
  (conv => whnf)
  refine brm_intro (fun h => ?_) (fun h => ?_) <;> (conv => whnf)
  · exact absurd h (by simp)
  refine vloop_intro hΘ hB (ι := Nat) (fun i => ⟨[(0, .rd none (.sl true 2 (xs.map encF))), (1, .rd none (.sl true 2 (xs.map encF))), (5, .val (.int .i64 i))], []⟩)
    (fun i => i ≤ xs.length) (fun i => xs.length - i) 0 ⟨⟨.inr rfl, .inr rfl, .inr rfl, trivial⟩, trivial⟩ (Nat.zero_le _) ?_
  rintro i k1
  (conv => whnf)
  refine brm_intro (fun h => ?_) (fun h => ?_) <;> (conv => whnf) <;> rw [List.length_map] at h <;> simp only [decide_eq_true_eq, decide_eq_false_iff_not] at h
  · have hi : i < xs.length := by omega
    have hg : xs[i]? = some xs[i] := List.getElem?_eq_getElem hi
    generalize xs[i] = x at hg
    have hat : (xs.map encF)[i]? = some (encF x) := by rw [List.getElem?_map, hg]; rfl
    refine vdraw_intro hΘ hB mixed (by kernel_rfl) ?_
    (conv => whnf)
    refine vat_intro i (encF x) rfl hat ?_
    (conv => whnf)
    refine vat_intro i (encF x) rfl hat ?_
    (conv => whnf)
    refine vcallQ_intro0 rfl (eqField_c x x) (f1 (fa (l1 (fv rfl) (l1 (fv rfl) l0))) (f1 (fa (l1 (fv rfl) (l1 (fv rfl) l0))) f0)) rfl ?_
    (conv => whnf)
    refine brm_intro (fun h2 => ?_) (fun h2 => ?_) <;> (conv => whnf)
    · exact absurd h2 (by simp)
    · exact ⟨i + 1, ⟨⟨.inr rfl, .inr rfl, .inr (vint_eq (by simp (disch := omega) only [wrap_i64]; rfl)), trivial⟩, trivial⟩, hi, by omega⟩
  · exact vfin_bool rfl

/-! #### the program's own side -/
theorem indexByte_c (s : ByteArray) (c : Int) : VC Tryd.prog 46 [.val (.string s), .val (.int .u8 c)] (.val (.int .i64 (Lib.indexByte (sb s) c.toNat.toUInt8))) :=
  VC.of_vals (xs := [.string s, .int .u8 c]) Tryd.func46 rfl rfl rfl fun w => (Tryd.strings_IndexByte s c w).mono fun _ _ ⟨h1, h2⟩ => ⟨h1, h2 ▸ Go.RowKit.Below.refl _ _⟩
theorem indexByte_nonneg (l : List UInt8) (c : UInt8) : decide (Lib.indexByte l c ≥ 0) = l.contains c := by
  induction l with
  | nil => rfl
  | cons b r ih =>
    have hge := Lib.indexByte_ge r c
    rw [Lib.indexByte, List.contains_cons]
    by_cases h : b = c
    · subst h; simp
    · have h1 : (b == c) = false := by simpa using h
      have h2 : (c == b) = false := by simpa using fun e => h e.symm
      rw [h1, h2, Bool.false_or, ← ih]
      simp only [Bool.false_eq_true, if_false]
      by_cases h3 : Lib.indexByte r c = -1
      · simp [h3]
      · have : (Lib.indexByte r c == -1) = false := by simpa using h3
        rw [this]
        simp only [Bool.false_eq_true, if_false, decide_eq_decide]
        omega
theorem isMark_contains (b : UInt8) : isMark b.toNat = tokenMarks.contains b := by
  unfold isMark
  rw [List.contains_eq_any_beq]
  congr 1
  funext c
  rw [Bool.eq_iff_iff]
  simp only [beq_iff_eq]
  constructor
  · intro h; exact UInt8.toNat_inj.1 (by omega)
  · intro h; rw [h]
theorem tokenFn_c (b : UInt8) : VC Tryd.prog 44 [.val (.int .u8 b.toNat)] (.val (.bool (isToken b.toNat))) := by
  refine VC.intro hΘ Tryd.func44 rfl rfl Tryd.ntmps44 rfl rfl rfl fun B hB => ?_
  (conv => whnf)
  refine vcallS_intro0 rfl (isLetter_c b.toNat) (f1 (av rfl) f0) ?_
  (conv => whnf)
  refine brm_intro (fun h => ?_) (fun h => ?_) <;> (conv => whnf)
  · refine vfin_bool ?_
    rw [isToken, h]; rfl
  · refine vcallS_intro0 rfl (isDigit_c b.toNat) (f1 (av rfl) f0) ?_
    (conv => whnf)
    refine brm_intro (fun h' => ?_) (fun h' => ?_) <;> (conv => whnf)
    · refine vfin_bool ?_
      rw [isToken, h, h']; rfl
    · refine vcallS_intro0 rfl (indexByte_c _ b.toNat) (f1 (av rfl) (f1 (av rfl) f0)) ?_
      (conv => whnf)
      refine vfin_bool ?_
      rw [indexByte_nonneg, isToken, h, h', isMark_contains]
      simp only [Bool.false_or, Int.toNat_natCast]
      have : b.toNat.toUInt8 = b := by simp
      rw [this]
      rfl
end Go.Proofs.YtfdmlccbfbiloaaDoor
namespace Go.Proofs.YtfdmlccbfbiloaaDoor
open Go Go.Proofs.YtfdmlccbfbiloaaDoor.Vs
variable [Gl]
set_option linter.unusedSectionVars false

def idxFn {α : Type} (p : α → Bool) : List α → Nat → Int
  | [], _ => -1
  | x :: r, i => if p x then (i : Int) else idxFn p r (i + 1)
theorem idxFn_nonneg {α : Type} (p : α → Bool) : ∀ (l : List α) (i : Nat), decide (idxFn p l i ≥ 0) = l.any p
  | [], _ => rfl
  | x :: r, i => by
    rw [idxFn, List.any_cons]
    cases h : p x with
    | true => simp
    | false => simp only [Bool.false_eq_true, if_false, Bool.false_or]; exact idxFn_nonneg p r (i + 1)
def fnV (f : Nat) : Value := .func (.func f) #[] #[]

theorem allFn_c (F : Nat) (p : UInt8 → Bool) (hp : ∀ b : UInt8, VC Tryd.prog F [.val (.int .u8 b.toNat)] (.val (.bool (p b)))) (b : UInt8) :
    VC Tryd.prog 39 [.val (.int .u8 b.toNat), .rp none [.v (fnV F)]] (.val (.bool (!p b))) := by
  refine VC.intro hΘ Tryd.func39 rfl rfl Tryd.ntmps39 rfl rfl rfl fun B hB => ?_
  (conv => whnf)
  refine vcallS_intro0 rfl (hp b) (f1 (av rfl) f0) ?_
  (conv => whnf)
  exact vfin_bool rfl
theorem indexFnB_c (f : Nat) (cs : List C) (p : UInt8 → Bool) (hp : ∀ b : UInt8, VC Tryd.prog f ([.val (.int .u8 b.toNat)] ++ [.rp none cs]) (.val (.bool (p b)))) (l : List UInt8) (hl : l.length ≤ 140737488355328) :
    VC Tryd.prog 51 [.rd none (.sl true 1 (bytesC l)), .cl f [.rp none cs]] (.val (.int .i64 (idxFn p l 0))) := by
  refine VC.intro hΘ Tryd.func51 rfl rfl Tryd.ntmps51 rfl rfl rfl fun B hB => ?_
  (conv => whnf)
  refine vloop_intro hΘ hB (ι := Nat) (fun i => ⟨[(0, .rd none (.sl true 1 (bytesC l))), (1, .cl f [.rp none cs]), (7, .val (.int .i64 (bytesC l).length)), (8, .val (.int .i64 i))], []⟩)
    (fun i => i ≤ l.length ∧ idxFn p (l.drop i) i = idxFn p l 0) (fun i => l.length - i) 0 ⟨⟨.inr rfl, .inr rfl, .inr rfl, .inr rfl, trivial⟩, trivial⟩ ⟨Nat.zero_le _, rfl⟩ ?_
  rintro i ⟨k1, k2⟩
  (conv => whnf)
  refine brm_intro (fun h => ?_) (fun h => ?_) <;> (conv => whnf) <;> rw [bytesC_len] at h <;> simp only [decide_eq_true_eq, decide_eq_false_iff_not] at h
  · have hi : i < l.length := by omega
    have hg : l[i]? = some l[i] := List.getElem?_eq_getElem hi
    rw [List.drop_eq_getElem_cons hi, idxFn] at k2
    generalize l[i] = b at hg k2
    refine vat_intro i _ rfl (bytesC_at hg) ?_
    (conv => whnf)
    refine vcallS_intro rfl (hp b) (kp rfl k0) (f1 (av rfl) f0) ?_
    (conv => whnf)
    refine brm_intro (fun h2 => ?_) (fun h2 => ?_) <;> (conv => whnf)
    · refine vfin_int ?_
      rw [h2, if_pos rfl] at k2
      exact k2
    · rw [h2] at k2
      simp only [Bool.false_eq_true, if_false] at k2
      exact ⟨i + 1, ⟨⟨.inr rfl, .inr rfl, .inr rfl, .inr (vint_eq (by simp (disch := omega) only [wrap_i64]; rfl)), trivial⟩, trivial⟩, ⟨hi, k2⟩, by omega⟩
  · refine vfin_int ?_
    have : l.drop i = [] := List.drop_eq_nil_of_le (by omega)
    rw [this] at k2
    exact k2
theorem containsFnB_c (f : Nat) (cs : List C) (p : UInt8 → Bool) (hp : ∀ b : UInt8, VC Tryd.prog f ([.val (.int .u8 b.toNat)] ++ [.rp none cs]) (.val (.bool (p b)))) (l : List UInt8) (hl : l.length ≤ 140737488355328) :
    VC Tryd.prog 38 [.rd none (.sl true 1 (bytesC l)), .cl f [.rp none cs]] (.val (.bool (l.any p))) := by
  refine VC.intro hΘ Tryd.func38 rfl rfl Tryd.ntmps38 rfl rfl rfl fun B hB => ?_
  (conv => whnf)
  refine vcallS_intro0 rfl (indexFnB_c f cs p hp l hl) (f1 (ar rfl rfl) (f1 (acl (kp rfl k0)) f0)) ?_
  (conv => whnf)
  exact vfin_bool (idxFn_nonneg p l 0)
theorem all_c (F : Nat) (p : UInt8 → Bool) (hp : ∀ b : UInt8, VC Tryd.prog F [.val (.int .u8 b.toNat)] (.val (.bool (p b)))) (s : ByteArray) (hs : (sb s).length ≤ 140737488355328) :
    VC Tryd.prog 25 [.val (.string s), .val (fnV F)] (.val (.bool ((sb s).all p))) := by
  refine VC.intro hΘ Tryd.func25 rfl rfl Tryd.ntmps25 rfl rfl rfl fun B hB => ?_
  (conv => whnf)
  refine vreq_intro hs ?_
  (conv => whnf)
  refine vcallS_intro0 rfl (containsFnB_c 39 [.v (fnV F)] (fun b => !p b) (allFn_c F p hp) (sb s) hs) (f1 (ah rfl rfl rfl) (f1 (acl (kp (pb rfl rfl) k0)) f0)) ?_
  (conv => whnf)
  refine vfin_bool ?_
  rw [← List.not_all_eq_any_not, Bool.not_not]
theorem tokenOkI_c (s : ByteArray) (hs : (sb s).length ≤ 140737488355328) : VC Tryd.prog 32 [.val (.string s)] (.val (.bool (tokenOk (sb s)))) := by
  refine VC.intro hΘ Tryd.func32 rfl rfl Tryd.ntmps32 rfl rfl rfl fun B hB => ?_
  (conv => whnf)
  refine brm_intro (fun h => ?_) (fun h => ?_) <;> (conv => whnf) <;> simp only [decide_eq_true_eq, decide_eq_false_iff_not] at h
  · refine brm_intro (fun h' => ?_) (fun h' => ?_) <;> (conv => whnf) <;> simp only [decide_eq_true_eq, decide_eq_false_iff_not] at h'
    · refine vcallS_intro0 rfl (all_c 44 (fun b => isToken b.toNat) tokenFn_c s hs) (f1 (av rfl) (f1 (av rfl) f0)) ?_
      (conv => whnf)
      refine vfin_bool ?_
      have h1 : 1 ≤ (sb s).length := by omega
      have h2 : (sb s).length ≤ 64 := by omega
      simp [tokenOk, h1, h2]
    · refine vfin_bool ?_
      have h2 : ¬ (sb s).length ≤ 64 := by omega
      simp [tokenOk, h2]
  · refine vfin_bool ?_
    have h2 : ¬ 1 ≤ (sb s).length := by omega
    simp [tokenOk, h2]
theorem visibleOkI_c (s : ByteArray) (hs : (sb s).length ≤ 140737488355328) : VC Tryd.prog 33 [.val (.string s)] (.val (.bool (visibleOk (sb s)))) := by
  refine VC.intro hΘ Tryd.func33 rfl rfl Tryd.ntmps33 rfl rfl rfl fun B hB => ?_
  (conv => whnf)
  refine brm_intro (fun h => ?_) (fun h => ?_) <;> (conv => whnf) <;> simp only [decide_eq_true_eq, decide_eq_false_iff_not] at h
  · refine vcallS_intro0 rfl (all_c 47 (fun b => isVisible b.toNat) (fun b => isVisible_c b.toNat) s hs) (f1 (av rfl) (f1 (av rfl) f0)) ?_
    (conv => whnf)
    refine vfin_bool ?_
    have h2 : (sb s).length ≤ 400 := by omega
    simp [visibleOk, h2]
  · refine vfin_bool ?_
    have h2 : ¬ (sb s).length ≤ 400 := by omega
    simp [visibleOk, h2]
end Go.Proofs.YtfdmlccbfbiloaaDoor
namespace Go.Proofs.YtfdmlccbfbiloaaDoor
open Go Go.Proofs.YtfdmlccbfbiloaaDoor.Vs Go.Shelf
variable [Gl]
set_option linter.unusedSectionVars false

theorem trimR_cons (x : UInt8) (r : List UInt8) : trimR (x :: r) = if trimR r = [] then (if blankB x then [] else [x]) else x :: trimR r := by
  unfold trimR
  rw [List.reverse_cons, List.dropWhile_append]
  by_cases h : r.reverse.dropWhile blankB = []
  · rw [h]
    cases hb : blankB x <;> simp [List.dropWhile, hb]
  · have h1 : (r.reverse.dropWhile blankB).isEmpty = false := by simpa using h
    rw [h1]
    have h2 : ¬ (r.reverse.dropWhile blankB).reverse = [] := by simpa using h
    rw [if_neg h2]
    simp
theorem trim_swap : ∀ l : List UInt8, trimL (trimR l) = trimR (trimL l)
  | [] => rfl
  | x :: r => by
    have ih := trim_swap r
    rw [trimR_cons]
    cases hb : blankB x with
    | true =>
      have e : trimL (x :: r) = trimL r := by simp [trimL, hb]
      rw [e, ← ih]
      by_cases h : trimR r = []
      · rw [h]; simp [trimL]
      · rw [if_neg h]; simp [trimL, hb]
    | false =>
      have e : trimL (x :: r) = x :: r := by simp [trimL, hb]
      rw [e, trimR_cons, hb]
      by_cases h : trimR r = []
      · rw [h]; simp [trimL, hb]
      · rw [if_neg h]; simp [trimL, hb]
theorem trimS_eq (l : List UInt8) : Lib.trimS l [32, 9] = trimmed l := by
  have hf : (fun b : UInt8 => ([32, 9] : List UInt8).contains b) = blankB := by
    funext b
    rw [Bool.eq_iff_iff]
    simp [blankB, isBlank]
    constructor
    · rintro (h | h) <;> subst h <;> simp
    · rintro (h | h)
      · left; exact UInt8.toNat_inj.1 (by have h : (b.toNat : Int) = _ := h; simp; omega)
      · right; exact UInt8.toNat_inj.1 (by have h : (b.toNat : Int) = _ := h; simp; omega)
  unfold Lib.trimS Lib.trimLeftS Lib.trimRightS trimmed
  rw [← trim_swap, hf]
  rfl
theorem trim_c (s : ByteArray) (hs : (sb s).length ≤ 140737488355328) : VC Tryd.prog 48 [.val (.string s), .val (.string ⟨#[32, 9]⟩)] (.val (.string (bs (trimmed (sb s))))) := by
  refine VC.of_vals (xs := [.string s, .string ⟨#[32, 9]⟩]) Tryd.func48 rfl rfl rfl fun w => ?_
  rw [← trimS_eq]
  exact Any.strings_Trim_laid Tryd.lays160 (by kernel_rfl) s ⟨#[32, 9]⟩ w (by rw [size_sb]; omega) (by decide) (ascii_of_all (by decide))
theorem join_c (xs : List ByteArray) (sep : ByteArray) (hN : xs.length ≤ 140737488355328) (hlen : (Lib.join (xs.map sb) (sb sep)).length ≤ 140737488355328) : VC Tryd.prog 24 [.rd none (.sl true 1 (xs.map strC)), .val (.string sep)] (.val (.string (bs (Lib.join (xs.map sb) (sb sep))))) := by
  refine VC.of_strs Tryd.func24 rfl rfl rfl (fun h w a c => ?_) (fun w bk o c hc hb hl => ?_)
  · subst h
    exact (Tryd.strings_Join_none a c sep w).mono fun _ _ ⟨h1, h2⟩ => ⟨h1, h2 ▸ Go.RowKit.Below.refl _ _⟩
  · exact Tryd.strings_Join bk o c xs sep w hc hb hN hl hlen
end Go.Proofs.YtfdmlccbfbiloaaDoor
namespace Go.Proofs.YtfdmlccbfbiloaaDoor
open Go Go.Proofs.YtfdmlccbfbiloaaDoor.Vs
variable [Gl]
set_option linter.unusedSectionVars false

theorem lowerI_c (s : ByteArray) (hs : (sb s).length ≤ 140737488355328) : VC Tryd.prog 18 [.val (.string s)] (.val (.string (bs (lower (sb s))))) := by
  refine VC.intro hΘ Tryd.func18 rfl rfl Tryd.ntmps18 rfl rfl rfl fun B hB => ?_
  (conv => whnf)
  refine vreq_intro hs ?_
  (conv => whnf)
  generalize hl : sb s = l at *
  refine vloop_intro hΘ hB (ι := Nat) (fun i => ⟨[(3, .own 1 (bytesC (lower (l.take i) ++ l.drop i))), (8, .hd (.sl 3 0 0)), (9, .val (.int .i64 (bytesC l).length)), (10, .val (.int .i64 i))], []⟩) (fun i => i ≤ l.length) (fun i => l.length - i) 0
    ⟨⟨.inr rfl, .inr rfl, .inr rfl, .inr rfl, trivial⟩, trivial⟩ (Nat.zero_le _) ?_
  rintro i k1
  have hlen : (bytesC (lower (l.take i) ++ l.drop i)).length = l.length := by rw [bytesC_len]; simp [lower]; omega
  (conv => whnf)
  refine brm_intro (fun h => ?_) (fun h => ?_) <;> (conv => whnf) <;> rw [bytesC_len] at h <;> simp only [decide_eq_true_eq, decide_eq_false_iff_not] at h
  · have hi : i < l.length := by omega
    have hg : l[i]? = some l[i] := List.getElem?_eq_getElem hi
    generalize l[i] = b at hg
    have hat := bytesC_at (lower_at hg)
    have hlt : i < (bytesC (lower (l.take i) ++ l.drop i)).length := by omega
    repeat' first
      | (refine vix_intro i rfl hlt ?_; (conv => whnf))
      | (refine vat_intro i _ rfl hat ?_; (conv => whnf))
      | (refine brm_intro (fun _ => ?_) (fun _ => ?_) <;> (conv => whnf))
    all_goals (simp only [decide_eq_true_eq, decide_eq_false_iff_not] at *)
    all_goals first
      | (have hb : lowerB b = b := lowerB_id (by omega)
         exact ⟨i + 1, ⟨⟨.inr (vown_eq (congrArg bytesC (lower_id hg hb))), .inr rfl, .inr rfl, .inr (vint_eq (by simp (disch := omega) only [wrap_i64]; rfl)), trivial⟩, trivial⟩, hi, by omega⟩)
      | (have hb := lowerB_up (b := b) (by omega) (by omega)
         refine ⟨i + 1, ⟨⟨.inr (vown_eq ?_), .inr rfl, .inr rfl, .inr (vint_eq (by simp (disch := omega) only [wrap_i64]; rfl)), trivial⟩, trivial⟩, hi, by omega⟩
         show (bytesC _).set i [C.v (.int .u8 (IntKind.u8.wrap (IntKind.u8.wrap ((b.toNat : Int) + 97) - 65)))] = _
         rw [wrap_u8 (x := (b.toNat : Int) + 97) (by omega) (by omega), wrap_u8 (by omega) (by omega), show (b.toNat : Int) + 97 - 65 = b.toNat + 32 by omega, ← hb, bytesC_set, lower_step hg])
  · refine vbytes_intro _ rfl ?_
    (conv => whnf)
    refine vfin_str (congrArg bs ?_)
    have : i = l.length := by omega
    subst this
    simp
theorem trimmedI_c (s : ByteArray) (hs : (sb s).length ≤ 140737488355328) : VC Tryd.prog 34 [.val (.string s)] (.val (.string (bs (trimmed (sb s))))) := by
  refine VC.intro hΘ Tryd.func34 rfl rfl Tryd.ntmps34 rfl rfl rfl fun B hB => ?_
  (conv => whnf)
  refine vcallS_intro0 rfl (trim_c s hs) (f1 (av rfl) (f1 (av rfl) f0)) ?_
  (conv => whnf)
  exact vfin_str rfl
theorem isField_c (p : Fd) (hp : szOk p) : VC Tryd.prog 23 [valF p] (.val (.bool (fieldOk p))) := by
  refine VC.intro hΘ Tryd.func23 rfl rfl Tryd.ntmps23 rfl rfl rfl fun B hB => ?_
  (conv => whnf)
  refine vdraw_intro hΘ hB mixed (by kernel_rfl) ?_
  (conv => whnf)
  refine vcallQ_intro0 rfl (tokenOkI_c p.1 hp.1) (f1 (av rfl) f0) rfl ?_
  (conv => whnf)
  refine brm_intro (fun h => ?_) (fun h => ?_) <;> (conv => whnf)
  · refine vcallQ_intro0 rfl (visibleOkI_c p.2 hp.2) (f1 (av rfl) f0) rfl ?_
    (conv => whnf)
    refine brm_intro (fun h' => ?_) (fun h' => ?_) <;> (conv => whnf)
    · refine vcallQ_intro0 rfl (trimmedI_c p.2 hp.2) (f1 (av rfl) f0) rfl ?_
      (conv => whnf)
      refine vfin_bool ?_
      rw [fieldOk, h, h']
      rfl
    · refine vfin_bool ?_
      rw [fieldOk, h, h']
      rfl
  · refine vfin_bool ?_
    rw [fieldOk, h]
    rfl
theorem fieldFn_c (p : Fd) (hp : szOk p) : VC Tryd.prog 22 [valF p] (.val (.bool (!fieldOk p))) := by
  refine VC.intro hΘ Tryd.func22 rfl rfl Tryd.ntmps22 rfl rfl rfl fun B hB => ?_
  (conv => whnf)
  refine vcallS_intro0 rfl (isField_c p hp) (f1 (fa (l1 (fv rfl) (l1 (fv rfl) l0))) f0) ?_
  (conv => whnf)
  exact vfin_bool rfl
theorem indexFnF_c (xs : List Fd) (hx : ∀ x ∈ xs, szOk x) (hl : xs.length ≤ 140737488355328) :
    VC Tryd.prog 31 [.rd none (.sl true 2 (xs.map encF)), .val (fnV 22)] (.val (.int .i64 (idxFn (fun p => !fieldOk p) xs 0))) := by
  refine VC.intro hΘ Tryd.func31 rfl rfl Tryd.ntmps31 rfl rfl rfl fun B hB => ?_
  (conv => whnf)
  refine vloop_intro hΘ hB (ι := Nat) (fun i => ⟨[(0, .rd none (.sl true 2 (xs.map encF))), (1, .val (fnV 22)), (7, .val (.int .i64 (xs.map encF).length)), (8, .val (.int .i64 i))], []⟩)
    (fun i => i ≤ xs.length ∧ idxFn (fun p => !fieldOk p) (xs.drop i) i = idxFn (fun p => !fieldOk p) xs 0) (fun i => xs.length - i) 0 ⟨⟨.inr rfl, .inr rfl, .inr rfl, .inr rfl, trivial⟩, trivial⟩ ⟨Nat.zero_le _, rfl⟩ ?_
  rintro i ⟨k1, k2⟩
  (conv => whnf)
  refine brm_intro (fun h => ?_) (fun h => ?_) <;> (conv => whnf) <;> rw [List.length_map] at h <;> simp only [decide_eq_true_eq, decide_eq_false_iff_not] at h
  · have hi : i < xs.length := by omega
    have hg : xs[i]? = some xs[i] := List.getElem?_eq_getElem hi
    have hm : xs[i] ∈ xs := List.getElem_mem hi
    rw [List.drop_eq_getElem_cons hi, idxFn] at k2
    generalize xs[i] = x at hg k2 hm
    refine vat_intro i (encF x) rfl (by rw [List.getElem?_map, hg]; rfl) ?_
    (conv => whnf)
    refine vcallS_intro0 rfl (fieldFn_c x (hx x hm)) (f1 (fa (l1 (fv rfl) (l1 (fv rfl) l0))) f0) ?_
    (conv => whnf)
    refine brm_intro (fun h2 => ?_) (fun h2 => ?_) <;> (conv => whnf)
    · refine vfin_int ?_
      rw [h2, if_pos rfl] at k2
      exact k2
    · rw [h2] at k2
      simp only [Bool.false_eq_true, if_false] at k2
      exact ⟨i + 1, ⟨⟨.inr rfl, .inr rfl, .inr rfl, .inr (vint_eq (by simp (disch := omega) only [wrap_i64]; rfl)), trivial⟩, trivial⟩, ⟨hi, k2⟩, by omega⟩
  · refine vfin_int ?_
    have : xs.drop i = [] := List.drop_eq_nil_of_le (by omega)
    rw [this] at k2
    exact k2
theorem containsFnF_c (xs : List Fd) (hx : ∀ x ∈ xs, szOk x) (hl : xs.length ≤ 140737488355328) :
    VC Tryd.prog 21 [.rd none (.sl true 2 (xs.map encF)), .val (fnV 22)] (.val (.bool (xs.any fun p => !fieldOk p))) := by
  refine VC.intro hΘ Tryd.func21 rfl rfl Tryd.ntmps21 rfl rfl rfl fun B hB => ?_
  (conv => whnf)
  refine vcallS_intro0 rfl (indexFnF_c xs hx hl) (f1 (ar rfl rfl) (f1 (av rfl) f0)) ?_
  (conv => whnf)
  exact vfin_bool (idxFn_nonneg _ xs 0)
theorem fieldsOkI_c (xs : List Fd) (hx : ∀ x ∈ xs, szOk x) (hl : xs.length ≤ 140737488355328) : VC Tryd.prog 15 [.rd none (.sl true 2 (xs.map encF))] (.val (.bool (fieldsOk xs))) := by
  refine VC.intro hΘ Tryd.func15 rfl rfl Tryd.ntmps15 rfl rfl rfl fun B hB => ?_
  (conv => whnf)
  refine brm_intro (fun h => ?_) (fun h => ?_) <;> (conv => whnf) <;> rw [List.length_map] at h <;> simp only [decide_eq_true_eq, decide_eq_false_iff_not] at h
  · refine vcallS_intro0 rfl (containsFnF_c xs hx hl) (f1 (ar rfl rfl) (f1 (av rfl) f0)) ?_
    (conv => whnf)
    refine vfin_bool ?_
    have h2 : xs.length ≤ 30 := by omega
    rw [← List.not_all_eq_any_not, Bool.not_not]
    simp [fieldsOk, h2]
  · refine vfin_bool ?_
    have h2 : ¬ xs.length ≤ 30 := by omega
    simp [fieldsOk, h2]
end Go.Proofs.YtfdmlccbfbiloaaDoor
namespace Go.Proofs.YtfdmlccbfbiloaaDoor
open Go Go.Proofs.YtfdmlccbfbiloaaDoor.Vs
variable [Gl]
set_option linter.unusedSectionVars false

def hitsB (n : ByteArray) (xs : List Fd) : List ByteArray := (xs.filter fun p => lower (sb p.1) == lower (sb n)).map (·.2)
theorem hitsB_of (n : ByteArray) (xs : List Fd) : (hitsB n xs).map sb = hitsOf n xs := by
  simp [hitsB, hitsOf]
theorem hitsB_cons {n : ByteArray} {p : Fd} {xs : List Fd} : hitsB n (p :: xs) = (if lower (sb p.1) = lower (sb n) then [p.2] else []) ++ hitsB n xs := by
  unfold hitsB
  rw [List.filter_cons]
  by_cases h : lower (sb p.1) = lower (sb n) <;> simp [h]
theorem hitsB_len (n : ByteArray) (xs : List Fd) : (hitsB n xs).length ≤ xs.length := by
  unfold hitsB; rw [List.length_map]; exact List.length_filter_le _ _
theorem hits_short {n : ByteArray} {xs : List Fd} (h : fieldsOk xs = true) : ∀ x ∈ hitsOf n xs, x.length ≤ 400 := by
  intro x hx
  obtain ⟨p, hp, rfl⟩ := List.mem_map.1 hx
  have hp := (List.mem_filter.1 hp).1
  simp only [fieldsOk, Bool.and_eq_true, List.all_eq_true] at h
  have := h.2 p hp
  simp only [fieldOk, visibleOk, Bool.and_eq_true, decide_eq_true_eq] at this
  exact this.1.2.1

theorem getI_c (xs : List Fd) (n : ByteArray) (hx : ∀ x ∈ xs, szOk x) (hn : (sb n).length ≤ 140737488355328) (hok : fieldsOk xs = true) : VC Tryd.prog 16 [.rd none (.sl true 2 (xs.map encF)), .val (.string n)] (getV xs n) := by
  have h30 : xs.length ≤ 30 := by
    simp only [fieldsOk, Bool.and_eq_true, decide_eq_true_eq] at hok
    exact hok.1
  refine VC.intro hΘ Tryd.func16 rfl rfl Tryd.ntmps16 rfl rfl rfl fun B hB => ?_
  (conv => whnf)
  refine vloop_intro hΘ hB (ι := Nat × List ByteArray) (fun i => ⟨[(1, .val (.string n)), (6, .own 1 (i.2.map strC)), (10, .rd none (.sl true 2 (xs.map encF))), (11, .val (.int .i64 (xs.map encF).length)), (12, .val (.int .i64 i.1))], []⟩)
    (fun i => i.1 ≤ xs.length ∧ i.2 ++ hitsB n (xs.drop i.1) = hitsB n xs ∧ i.2.length ≤ i.1) (fun i => xs.length - i.1) (0, [])
    ⟨⟨.inr rfl, .inr rfl, .inr rfl, .inr rfl, .inr rfl, trivial⟩, trivial⟩ ⟨by simp, rfl, by simp⟩ ?_
  rintro ⟨i, hs⟩ ⟨k1, k2, k3⟩
  simp only at k1 k2 k3
  (conv => whnf)
  refine brm_intro (fun h => ?_) (fun h => ?_) <;> (conv => whnf) <;> rw [List.length_map] at h <;> simp only [decide_eq_true_eq, decide_eq_false_iff_not] at h
  · have hi : i < xs.length := by omega
    rw [List.drop_eq_getElem_cons hi, hitsB_cons] at k2
    have hm : xs[i] ∈ xs := List.getElem_mem hi
    have hg : xs[i]? = some xs[i] := List.getElem?_eq_getElem hi
    generalize xs[i] = x at k2 hm hg
    have hat : (xs.map encF)[i]? = some (encF x) := by rw [List.getElem?_map, hg]; rfl
    refine vat_intro i (encF x) rfl hat ?_
    (conv => whnf)
    refine vcallS_intro0 rfl (lowerI_c x.1 (hx x hm).1) (f1 (av rfl) f0) ?_
    (conv => whnf)
    refine vcallS_intro0 rfl (lowerI_c n hn) (f1 (av rfl) f0) ?_
    (conv => whnf)
    have hstep : IntKind.i64.wrap ((i : Int) + 1) = ((i + 1 : Nat) : Int) := by rw [wrap_i64 (by omega) (by omega)]; rfl
    refine brm_intro (fun h2 => ?_) (fun h2 => ?_) <;> (conv => whnf) <;> simp only [sb_bs] at h2
    · have : lower (sb x.1) = lower (sb n) := by simpa using h2
      rw [if_pos this, ← List.append_assoc] at k2
      refine vreq_intro (by rw [List.length_map]; show (hs.length + 1) * 17 ≤ _; omega) ?_
      (conv => whnf)
      refine ⟨(i + 1, hs ++ [x.2]), ⟨⟨.inr rfl, .inr (vown_eq ?_), .inr rfl, .inr rfl, .inr (vint_eq hstep), trivial⟩, trivial⟩, ⟨hi, k2, by simp; omega⟩, by simp; omega⟩
      rw [List.map_append]; rfl
    · have : ¬ lower (sb x.1) = lower (sb n) := by simpa using h2
      rw [if_neg this] at k2
      exact ⟨(i + 1, hs), ⟨⟨.inr rfl, .inr rfl, .inr rfl, .inr rfl, .inr (vint_eq hstep), trivial⟩, trivial⟩, ⟨hi, k2, by simp; omega⟩, by simp; omega⟩
  · have : xs.drop i = [] := List.drop_eq_nil_of_le (by omega)
    rw [this] at k2
    have : hs = hitsB n xs := by simpa [hitsB] using k2
    subst this
    have hlen := hitsB_len n xs
    refine vcallS_intro0 rfl (join_c (hitsB n xs) ⟨#[44, 32]⟩ (by omega) ?_) (f1 (ah rfl rfl rfl) (f1 (av rfl) f0)) ?_
    · rw [hitsB_of]
      refine Nat.le_trans (join_len (hits_short hok)) ?_
      rw [← hitsB_of, List.length_map]; omega
    (conv => whnf)
    refine vfin_tup2 ?_ (vbool_eq ?_)
    · rw [hitsB_of]; rfl
    · rw [Bool.eq_iff_iff, ← hitsB_of]
      simp
      rw [List.length_pos_iff]
end Go.Proofs.YtfdmlccbfbiloaaDoor
namespace Go.Proofs.YtfdmlccbfbiloaaDoor
open Go Go.Proofs.YtfdmlccbfbiloaaDoor.Vs
variable [Gl]
set_option linter.unusedSectionVars false

def szF (l : Int) (a b : ByteArray) : Int := if l - (sb a).length < 0 then -1 else if l - (sb a).length - (sb b).length < 0 then -1 else l - (sb a).length - (sb b).length

theorem szField_c (a b : ByteArray) (l : Int) (h1 : 0 ≤ l) (h2 : l ≤ 1048576) (ha : (sb a).length ≤ 140737488355328) (hb : (sb b).length ≤ 140737488355328) : VC Tryd.prog 9 [.agg [.val (.string a), .val (.string b)], .val (.int .i64 l)] (.val (.int .i64 (szF l a b))) := by
  refine VC.intro hΘ Tryd.func9 rfl rfl Tryd.ntmps9 rfl rfl rfl fun B hB => ?_
  (conv => whnf)
  refine brm_intro (fun h => ?_) (fun h => ?_) <;> simp (disch := omega) only [wrap_i64, decide_eq_true_eq, decide_eq_false_iff_not] at h
  · (conv => whnf)
    refine vfin_int ?_
    simp [szF, h]
  · (conv => whnf)
    refine brm_intro (fun h' => ?_) (fun h' => ?_) <;> simp (disch := omega) only [wrap_i64, decide_eq_true_eq, decide_eq_false_iff_not] at h' <;> (conv => whnf) <;> refine vfin_int ?_ <;> simp (disch := omega) only [wrap_i64, szF, h, h', if_true, if_false]
def szFS (l : Int) : List Fd → Int
  | [] => l
  | x :: xs => if szF l x.1 x.2 < 0 then -1 else szFS (szF l x.1 x.2) xs
theorem szF_le {l : Int} {a b : ByteArray} (h : 0 ≤ l) : szF l a b ≤ l := by
  unfold szF; split <;> (try split) <;> omega
theorem szFieldS_c (xs : List Fd) (l : Int) (h1 : 0 ≤ l) (h2 : l ≤ 1048576) (hl : xs.length ≤ 140737488355328) (hx : ∀ x ∈ xs, (sb x.1).length ≤ 140737488355328 ∧ (sb x.2).length ≤ 140737488355328) :
    VC Tryd.prog 4 [.rd none (.sl true 2 (xs.map encF)), .val (.int .i64 l)] (.val (.int .i64 (if l - xs.length < 0 then -1 else szFS (l - xs.length) xs))) := by
  refine VC.intro hΘ Tryd.func4 rfl rfl Tryd.ntmps4 rfl rfl rfl fun B hB => ?_
  (conv => whnf)
  refine brm_intro (fun h => ?_) (fun h => ?_) <;> simp only [List.length_map] at h <;> simp (disch := omega) only [wrap_i64, decide_eq_true_eq, decide_eq_false_iff_not] at h
  · (conv => whnf)
    refine vfin_int ?_
    simp [h]
  rw [if_neg h]
  (conv => whnf)
  refine vloop_intro hΘ hB (ι := Nat × Int) (fun x => ⟨[(0, .rd none (.sl true 2 (xs.map encF))), (1, .val (.int .i64 x.2)), (5, .val (.int .i64 x.1))], []⟩)
    (fun x => x.1 ≤ xs.length ∧ 0 ≤ x.2 ∧ x.2 ≤ 1048576 ∧ szFS x.2 (xs.drop x.1) = szFS (l - xs.length) xs) (fun x => xs.length - x.1) (0, l - xs.length)
    ⟨⟨.inr rfl, .inr (vint_eq (by simp only [List.length_map]; simp (disch := omega) only [wrap_i64])), .inr rfl, trivial⟩, trivial⟩ ⟨by simp, by simp; omega, by simp; omega, rfl⟩ ?_
  rintro ⟨i, v⟩ ⟨k1, k2, k3, k4⟩
  simp only at k1 k2 k3 k4
  (conv => whnf)
  refine brm_intro (fun h => ?_) (fun h => ?_) <;> simp only [List.length_map, decide_eq_true_eq, decide_eq_false_iff_not, Int.ofNat_lt] at h
  · have hi : xs[i]? = some xs[i] := List.getElem?_eq_getElem h
    have hm : xs[i] ∈ xs := List.getElem_mem h
    rw [List.drop_eq_getElem_cons h] at k4
    generalize xs[i] = x at hi hm k4
    (conv => whnf)
    refine vat_intro i (encF x) rfl (by rw [List.getElem?_map, hi]; rfl) ?_
    (conv => whnf)
    refine vcallS_intro0 rfl (szField_c x.1 x.2 v k2 k3 (hx x hm).1 (hx x hm).2) (f1 (fa (l1 (fv rfl) (l1 (fv rfl) l0))) (f1 (av rfl) f0)) ?_
    (conv => whnf)
    refine brm_intro (fun h' => ?_) (fun h' => ?_) <;> simp only [decide_eq_true_eq, decide_eq_false_iff_not] at h' 
    · (conv => whnf)
      refine vfin_int ?_
      simp [szFS, h'] at k4
      exact k4
    · have := szF_le (a := x.1) (b := x.2) k2
      simp only [szFS, if_neg h'] at k4
      exact ⟨(i + 1, szF v x.1 x.2), ⟨⟨.inr rfl, .inr rfl, .inr (vint_eq (by simp (disch := omega) only [wrap_i64]; rfl)), trivial⟩, trivial⟩, ⟨h, by simp; omega, by simp; omega, k4⟩, by simp; omega⟩
  · (conv => whnf)
    refine vfin_int ?_
    have : xs.drop i = [] := List.drop_eq_nil_of_le (by omega)
    rw [this] at k4
    exact k4


theorem szFS_neg : ∀ {xs : List Fd} {l : Int}, 0 ≤ szFS l xs → 0 ≤ l ∨ xs = []
  | [], l, _ => .inr rfl
  | x :: r, l, h => by
    rw [szFS] at h
    split at h
    · omega
    · rename_i h1
      left
      unfold szF at h1
      split at h1
      · omega
      · omega
end Go.Proofs.YtfdmlccbfbiloaaDoor
namespace Go.Proofs.YtfdmlccbfbiloaaDoor
open Go Go.Proofs.YtfdmlccbfbiloaaDoor.Vs
variable [Gl]
set_option linter.unusedSectionVars false

/-! #### the marks -/
def markL (n : Nat) (l : List UInt8) : List UInt8 := if n = 0 then l else markL (n / 10) (UInt8.ofNat (48 + n % 10) :: l)
termination_by n
decreasing_by omega
def markB (n : Int) : ByteArray := if n ≤ 0 then ⟨⟨[109, 48]⟩⟩ else ⟨⟨109 :: markL n.toNat []⟩⟩
end Go.Proofs.YtfdmlccbfbiloaaDoor
namespace Go.Proofs.YtfdmlccbfbiloaaDoor
open Go Go.Proofs.YtfdmlccbfbiloaaDoor.Vs
variable [Gl]
set_option linter.unusedSectionVars false

def encM (n : Int) : Nat → List (List C)
  | 0 => []
  | k + 1 => [C.v (.string (markB n)), C.v (.string (markB (n + 1)))] :: encM (n + 2) k
theorem encM_len (n : Int) : ∀ k, (encM n k).length = k
  | 0 => rfl
  | k + 1 => by simp [encM, encM_len (n + 2) k]
theorem encM_succ (n : Int) : ∀ k, encM n (k + 1) = encM n k ++ [[C.v (.string (markB (n + 2 * k))), C.v (.string (markB (n + 2 * k + 1)))]]
  | 0 => by simp [encM]
  | k + 1 => by
    have h1 : n + 2 + 2 * (k : Int) = n + 2 * ((k + 1 : Nat) : Int) := by omega
    rw [encM, encM_succ (n + 2) k, encM, h1]; rfl
theorem modify_at {α : Type} (f : α → α) (x : α) (r : List α) : ∀ E : List α, (E ++ x :: r).modify E.length f = E ++ f x :: r
  | [] => rfl
  | e :: E => by simp [modify_at f x r E]
theorem mark_step {xs : List (List C)} {n : Int} {i : Nat} (hi : i < xs.length) (h2 : ∀ x ∈ xs, x.length = 2) :
    putE 2 (0 + 1) [C.v (.string (markB (n + 2 * i + 1)))] (putE 2 (0 + 0) [C.v (.string (markB (n + 2 * i)))] (encM n i ++ xs.drop i) i) i = encM n (i + 1) ++ xs.drop (i + 1) := by
  have hx := h2 _ (List.getElem_mem hi)
  rw [List.drop_eq_getElem_cons hi]
  generalize xs[i] = x at hx
  obtain ⟨a, b, rfl⟩ : ∃ a b, x = [a, b] := by
    match x, hx with
    | [a, b], _ => exact ⟨a, b, rfl⟩
  have e1 : ∀ ys, putE 2 (0 + 0) [C.v (.string (markB (n + 2 * i)))] ys i = ys.modify i fun c => splC c 0 [C.v (.string (markB (n + 2 * i)))] := fun _ => rfl
  have e2 : ∀ ys, putE 2 (0 + 1) [C.v (.string (markB (n + 2 * i + 1)))] ys i = ys.modify i fun c => splC c 1 [C.v (.string (markB (n + 2 * i + 1)))] := fun _ => rfl
  have hE : (encM n i).length = i := encM_len n i
  rw [e2, e1, encM_succ]
  generalize encM n i = E at hE
  subst hE
  rw [modify_at, modify_at, List.append_assoc]
  rfl
end Go.Proofs.YtfdmlccbfbiloaaDoor
namespace Go.Proofs.YtfdmlccbfbiloaaDoor
open Go Go.Proofs.YtfdmlccbfbiloaaDoor.Vs
variable [Gl]
set_option linter.unusedSectionVars false

theorem encM_get (n : Int) : ∀ (k i : Nat), i < k → (encM n k)[i]? = some [C.v (.string (markB (n + 2 * i))), C.v (.string (markB (n + 2 * i + 1)))] := by
  intro k
  induction k with
  | zero => intro i h; omega
  | succ k ih =>
    intro i h
    rw [encM_succ]
    by_cases hk : i < k
    · rw [List.getElem?_append_left (by rw [encM_len]; exact hk)]; exact ih i hk
    · have : i = k := by omega
      subst this
      rw [List.getElem?_append_right (by rw [encM_len]; exact Nat.le_refl _), encM_len, Nat.sub_self]; rfl
end Go.Proofs.YtfdmlccbfbiloaaDoor
namespace Go.Proofs.YtfdmlccbfbiloaaDoor
open Go Go.Proofs.YtfdmlccbfbiloaaDoor.Vs
variable [Gl]
set_option linter.unusedSectionVars false

/-! #### items -/
def seg (l : List UInt8) (f i : Nat) : List UInt8 := (l.drop f).take (i - f)
theorem seg_self (l : List UInt8) (i : Nat) : seg l i i = [] := by simp [seg]
theorem seg_succ {l : List UInt8} {f i : Nat} {b : UInt8} (h : f ≤ i) (hb : l[i]? = some b) : seg l f (i + 1) = seg l f i ++ [b] := by
  unfold seg
  have : i + 1 - f = (i - f) + 1 := by omega
  rw [this, List.take_add_one, List.getElem?_drop, show f + (i - f) = i by omega, hb]; rfl
theorem seg_all {l : List UInt8} {f : Nat} : seg l f l.length = l.drop f := by
  unfold seg; rw [List.take_of_length_le]; simp
def emitI (cur : List UInt8) : List (List UInt8) := if trimmed cur = [] then [] else [trimmed cur]
def itemsG : List UInt8 → Bool → Bool → List UInt8 → List (List UInt8)
  | [], _, _, cur => emitI cur
  | c :: r, o, e, cur =>
    if e = true then itemsG r o false (cur ++ [c]) else
    if c = 44 ∧ o = false then emitI cur ++ itemsG r o false [] else
    if c = 34 then itemsG r (!o) false (cur ++ [c]) else
    if c = 92 ∧ o = true then itemsG r o true (cur ++ [c]) else itemsG r o false (cur ++ [c])
def items (l : List UInt8) : List (List UInt8) := if visibleOk l then itemsG l false false [] else []
def itemsB (l : List UInt8) : List ByteArray := (items l).map bs
def gI (l : List UInt8) (o : Bool) (cur : List UInt8) : List ByteArray := (itemsG l o false cur).map bs
def eI (cur : List UInt8) : List ByteArray := (emitI cur).map bs
theorem gI_nil {o : Bool} {cur : List UInt8} : gI [] o cur = eI cur := by simp [gI, eI, itemsG]
theorem gI_comma {r : List UInt8} {cur : List UInt8} : gI (44 :: r) false cur = eI cur ++ gI r false [] := by simp [gI, eI, itemsG]
theorem gI_quote {r : List UInt8} {o : Bool} {cur : List UInt8} : gI (34 :: r) o cur = gI r (!o) (cur ++ [34]) := by simp [gI, itemsG]
theorem gI_esc1 {cur : List UInt8} : gI [92] true cur = eI (cur ++ [92]) := by simp [gI, eI, itemsG]
theorem gI_esc2 {d : UInt8} {r cur : List UInt8} : gI (92 :: d :: r) true cur = gI r true (cur ++ [92] ++ [d]) := by simp [gI, itemsG]
theorem gI_other {c : UInt8} {r cur : List UInt8} {o : Bool} (h1 : ¬ (c = 44 ∧ o = false)) (h2 : ¬ c = 34) (h3 : ¬ (c = 92 ∧ o = true)) : gI (c :: r) o cur = gI r o (cur ++ [c]) := by
  simp only [gI, itemsG, h1, h2, h3, if_false, Bool.false_eq_true]
theorem trimmed_len (l : List UInt8) : (trimmed l).length ≤ l.length := by
  unfold trimmed trimR trimL
  rw [List.length_reverse]
  refine Nat.le_trans (List.dropWhile_sublist _).length_le ?_
  rw [List.length_reverse]
  exact (List.dropWhile_sublist _).length_le
theorem emitI_len {cur x : List UInt8} (h : x ∈ emitI cur) : x.length ≤ cur.length := by
  unfold emitI at h
  split at h
  · cases h
  · simp only [List.mem_singleton] at h; subst h; exact trimmed_len cur
theorem itemsG_len : ∀ (l : List UInt8) (o e : Bool) (cur x : List UInt8), x ∈ itemsG l o e cur → x.length ≤ cur.length + l.length
  | [], o, e, cur, x, h => by
    simp only [itemsG] at h
    exact Nat.le_trans (emitI_len h) (Nat.le_add_right _ _)
  | c :: r, o, e, cur, x, h => by
    have step : ∀ o e, x ∈ itemsG r o e (cur ++ [c]) → x.length ≤ cur.length + (c :: r).length := by
      intro o e h
      have := itemsG_len r o e _ x h
      simp at this ⊢; omega
    rw [itemsG] at h
    split at h
    · exact step _ _ h
    · split at h
      · rcases List.mem_append.1 h with h | h
        · exact Nat.le_trans (emitI_len h) (Nat.le_add_right _ _)
        · have := itemsG_len r o false [] x h
          simp at this ⊢; omega
      · split at h
        · exact step _ _ h
        · split at h
          · exact step _ _ h
          · exact step _ _ h
theorem items_len {l x : List UInt8} (h : x ∈ items l) : x.length ≤ 400 := by
  unfold items at h
  split at h
  · rename_i hv
    have := itemsG_len l false false [] x h
    simp only [visibleOk, Bool.and_eq_true, decide_eq_true_eq] at hv
    simp at this; omega
  · cases h
theorem itemsB_len {l : List UInt8} {x : ByteArray} (h : x ∈ itemsB l) : (sb x).length ≤ 400 := by
  obtain ⟨y, hy, rfl⟩ := List.mem_map.1 h
  exact items_len hy
theorem emitI_cnt (cur : List UInt8) : (emitI cur).length ≤ 1 := by unfold emitI; split <;> simp
theorem itemsG_cnt : ∀ (l : List UInt8) (o e : Bool) (cur : List UInt8), (itemsG l o e cur).length ≤ l.length + 1
  | [], o, e, cur => by simp only [itemsG]; exact emitI_cnt cur
  | c :: r, o, e, cur => by
    have step : ∀ o e cur, (itemsG r o e cur).length ≤ (c :: r).length + 1 := by
      intro o e cur
      have := itemsG_cnt r o e cur
      simp; omega
    rw [itemsG]
    split
    · exact step _ _ _
    · split
      · have := itemsG_cnt r o false []
        have := emitI_cnt cur
        simp; omega
      · split
        · exact step _ _ _
        · split <;> exact step _ _ _
theorem itemsB_cnt (l : List UInt8) : (itemsB l).length ≤ 401 := by
  unfold itemsB items
  split
  · rename_i hv
    simp only [visibleOk, Bool.and_eq_true, decide_eq_true_eq] at hv
    have := itemsG_cnt l false false []
    simp; omega
  · simp
structure ISt where
  acc : List ByteArray
  fr : Nat
  o : Bool
  i : Nat

end Go.Proofs.YtfdmlccbfbiloaaDoor
namespace Go.Proofs.YtfdmlccbfbiloaaDoor
open Go Go.Proofs.YtfdmlccbfbiloaaDoor.Vs
variable [Gl]
set_option linter.unusedSectionVars false

end Go.Proofs.YtfdmlccbfbiloaaDoor
namespace Go.Proofs.YtfdmlccbfbiloaaDoor
open Go Go.Proofs.YtfdmlccbfbiloaaDoor.Vs
variable [Gl]
set_option linter.unusedSectionVars false

/-! #### fields without some names -/
def sameN (n : ByteArray) (p : Fd) : Bool := lower (sb n) == lower (sb p.1)
def withoutF (ns : List ByteArray) (xs : List Fd) : List Fd := xs.filter fun p => !(ns.any fun n => sameN n p)
theorem withoutF_le (ns : List ByteArray) (xs : List Fd) : (withoutF ns xs).length ≤ xs.length := List.length_filter_le _ _
theorem withoutF_mem {ns : List ByteArray} {xs : List Fd} {p : Fd} (h : p ∈ withoutF ns xs) : p ∈ xs := (List.mem_filter.1 h).1
theorem withoutF_cons {ns : List ByteArray} {p : Fd} {xs : List Fd} : withoutF ns (p :: xs) = (if (ns.any fun n => sameN n p) = true then [] else [p]) ++ withoutF ns xs := by
  unfold withoutF
  rw [List.filter_cons]
  cases h : ns.any fun n => sameN n p <;> simp
theorem withoutF_app (ns ms : List ByteArray) (xs : List Fd) : withoutF (ns ++ ms) xs = withoutF ms (withoutF ns xs) := by
  unfold withoutF
  rw [List.filter_filter]
  congr 1
  funext p
  rw [List.any_append, Bool.not_or, Bool.and_comm]
theorem withoutF_swap (ns ms : List ByteArray) (xs : List Fd) : withoutF (ns ++ ms) xs = withoutF (ms ++ ns) xs := by
  unfold withoutF
  congr 1
  funext p
  rw [List.any_append, List.any_append, Bool.or_comm]
theorem withoutF_nil (xs : List Fd) : withoutF [] xs = xs := by simp [withoutF]

end Go.Proofs.YtfdmlccbfbiloaaDoor
namespace Go.Proofs.YtfdmlccbfbiloaaDoor
open Go Go.Proofs.YtfdmlccbfbiloaaDoor.Vs
variable [Gl]
set_option linter.unusedSectionVars false
/-! #### trees of a row's arguments -/
theorem fd_of {n : Nat} {xs : List (List C)} (h : ∀ x ∈ xs, Ty Θ (n + 2) 32 x) : ∃ l : List Fd, xs = l.map encF ∧ ∀ p ∈ l, szOk p := by
  induction xs with
  | nil => exact ⟨[], rfl, by simp⟩
  | cons x r ih =>
    obtain ⟨l, rfl, hl⟩ := ih (fun y hy => h y (by simp [hy]))
    obtain ⟨c1, c2, rfl, ⟨s1, rfl, h1⟩, c3, c4, rfl, ⟨s2, rfl, h2⟩, rfl⟩ := (h x (by simp) : TyF (Ty Θ (n + 1)) [(0, 9), (1, 9)] x)
    refine ⟨(s1, s2) :: l, rfl, fun p hp => ?_⟩
    rcases List.mem_cons.1 hp with rfl | hp
    · exact ⟨Nat.le_trans h1 (by decide), Nat.le_trans h2 (by decide)⟩
    · exact hl p hp
end Go.Proofs.YtfdmlccbfbiloaaDoor
namespace Go.Proofs.YtfdmlccbfbiloaaDoor
open Go Go.Proofs.YtfdmlccbfbiloaaDoor.Vs
variable [Gl]
set_option linter.unusedSectionVars false

/-! #### responses and objects -/
structure Rsp where
  st : Int
  fs : List Fd
  bd : ByteArray
structure Obj where
  key : ByteArray
  fs : List Fd
  r : Rsp
  asked : Int
  got : Int
  ep : Int
def rdF (xs : List Fd) : V := .rd none (.sl true 2 (xs.map encF))
def owF (xs : List Fd) : V := .own 2 (xs.map encF)
def Rsp.cs (r : Rsp) (x : V) : V := .agg [.val (.int .i64 r.st), x, .val (.string r.bd)]
def Obj.cs (o : Obj) (x y : V) : V := .agg [.val (.string o.key), x, .val (.int .i64 o.r.st), y, .val (.string o.r.bd), .val (.int .i64 o.asked), .val (.int .i64 o.got), .val (.int .i64 o.ep)]
def Rsp.rd (r : Rsp) : V := r.cs (rdF r.fs)
def Rsp.ow (r : Rsp) : V := r.cs (owF r.fs)
def Obj.rd (o : Obj) : V := o.cs (rdF o.fs) (rdF o.r.fs)
def Obj.ow (o : Obj) : V := o.cs (owF o.fs) (owF o.r.fs)

/-! #### sizes -/
def szL (l : Int) (xs : List Fd) : Int := if l - xs.length < 0 then -1 else szFS (l - xs.length) xs
theorem szFS_le : ∀ {xs : List Fd} {l : Int}, 0 ≤ l → szFS l xs ≤ l
  | [], l, _ => Int.le_refl _
  | x :: r, l, h => by
    rw [szFS]
    split
    · omega
    · rename_i h1
      exact Int.le_trans (szFS_le (by omega)) (szF_le h)
theorem szL_le {xs : List Fd} {l : Int} (h : 0 ≤ l) : szL l xs ≤ l := by
  unfold szL
  split
  · omega
  · rename_i h1
    exact Int.le_trans (szFS_le (by omega)) (by omega)
def szR (l : Int) (r : Rsp) : Int := if szL l r.fs < 0 then -1 else if szL l r.fs - (sb r.bd).length < 0 then -1 else szL l r.fs - (sb r.bd).length
def szO (l : Int) (o : Obj) : Int := if l - (sb o.key).length < 0 then -1 else if szL (l - (sb o.key).length) o.fs < 0 then -1 else if szR (szL (l - (sb o.key).length) o.fs) o.r < 0 then -1 else szR (szL (l - (sb o.key).length) o.fs) o.r
def fdOk (xs : List Fd) : Prop := xs.length ≤ 140737488355328 ∧ ∀ x ∈ xs, szOk x
def Rsp.ok (r : Rsp) : Prop := fdOk r.fs ∧ (sb r.bd).length ≤ 140737488355328
def Obj.ok (o : Obj) : Prop := (sb o.key).length ≤ 140737488355328 ∧ fdOk o.fs ∧ o.r.ok

theorem szR_le {r : Rsp} {l : Int} (h : 0 ≤ l) : szR l r ≤ l := by
  have := szL_le (xs := r.fs) h
  unfold szR
  split
  · omega
  · split <;> omega
end Go.Proofs.YtfdmlccbfbiloaaDoor
namespace Go.Proofs.YtfdmlccbfbiloaaDoor
open Go Go.Proofs.YtfdmlccbfbiloaaDoor.Vs
variable [Gl]
set_option linter.unusedSectionVars false

/-! #### what is an object -/
def grB (b : UInt8) : Bool := decide (33 ≤ b.toNat) && decide (b.toNat ≤ 126)
def keyOk (l : List UInt8) : Bool := l.all grB && decide (l.length ≤ 500)
def inR (x lo hi : Int) : Bool := decide (lo ≤ x) && decide (x ≤ hi)
def bareSt (x : Int) : Bool := x == 204 || x == 304
def lenN : ByteArray := ⟨#[99, 111, 110, 116, 101, 110, 116, 45, 108, 101, 110, 103, 116, 104]⟩
def codN : ByteArray := ⟨#[116, 114, 97, 110, 115, 102, 101, 114, 45, 101, 110, 99, 111, 100, 105, 110, 103]⟩
def hasF (n : ByteArray) (xs : List Fd) : Bool := decide (hitsOf n xs ≠ [])
def msgF (xs : List Fd) : Bool := (fieldsOk xs && !hasF lenN xs) && !hasF codN xs
def Rsp.good (r : Rsp) : Bool := ((inR r.st 200 599 && msgF r.fs) && decide ((sb r.bd).length ≤ 4000)) && (!bareSt r.st || sb r.bd == [])
def Obj.good (o : Obj) : Bool := (((((keyOk (sb o.key) && fieldsOk o.fs) && o.r.good) && inR o.asked 0 253402300799) && inR o.got 0 253402300799) && decide (o.asked ≤ o.got)) && inR o.ep 0 100000

theorem hasF_no {n : ByteArray} {xs : List Fd} : hasF n xs = false ↔ ∀ p ∈ xs, sameN n p = false := by
  unfold hasF hitsOf
  simp only [decide_eq_false_iff_not, ne_eq, Decidable.not_not, List.map_eq_nil_iff, List.filter_eq_nil_iff, beq_iff_eq, sameN, beq_eq_false_iff_ne]
  exact ⟨fun h p hp e => h p hp e.symm, fun h p hp e => h p hp e.symm⟩
theorem own_len (xs : List Fd) : (((withoutF [lenN, codN] xs).length : Int) == (xs.length : Int)) = (!hasF lenN xs && !hasF codN xs) := by
  rw [Bool.eq_iff_iff]
  simp only [beq_iff_eq, Int.natCast_inj, Bool.and_eq_true, Bool.not_eq_true', hasF_no]
  unfold withoutF
  rw [List.length_filter_eq_length_iff]
  simp only [List.any_cons, List.any_nil, Bool.or_false, Bool.not_eq_true', Bool.or_eq_false_iff]
  exact ⟨fun h => ⟨fun p hp => (h p hp).1, fun p hp => (h p hp).2⟩, fun h p hp => ⟨h.1 p hp, h.2 p hp⟩⟩
theorem good_of (o : Obj) : o.good = ((((((decide ((sb o.key).length ≤ 500) && (sb o.key).all grB) && fieldsOk o.fs) && o.r.good) && inR o.got 0 253402300799) && inR o.asked 0 o.got) && inR o.ep 0 100000) := by
  unfold Obj.good keyOk
  rw [Bool.eq_iff_iff]
  simp only [Bool.and_eq_true, decide_eq_true_eq, inR]
  constructor
  · rintro ⟨⟨⟨⟨⟨⟨⟨a, b⟩, c⟩, d⟩, e1, e2⟩, f1, f2⟩, g⟩, i1, i2⟩
    exact ⟨⟨⟨⟨⟨⟨b, a⟩, c⟩, d⟩, f1, f2⟩, e1, g⟩, i1, i2⟩
  · rintro ⟨⟨⟨⟨⟨⟨b, a⟩, c⟩, d⟩, f1, f2⟩, e1, g⟩, i1, i2⟩
    exact ⟨⟨⟨⟨⟨⟨⟨a, b⟩, c⟩, d⟩, e1, by omega⟩, f1, f2⟩, g⟩, i1, i2⟩
end Go.Proofs.YtfdmlccbfbiloaaDoor
namespace Go.Proofs.YtfdmlccbfbiloaaDoor
open Go Go.Proofs.YtfdmlccbfbiloaaDoor.Vs
variable [Gl]
set_option linter.unusedSectionVars false

/-! #### Renewed -/
def addF (acc : List Fd) (f : Fd) : List Fd := withoutF [f.1] acc ++ [f]
def addAll (rs xs : List Fd) : List Fd := rs.foldl addF xs
theorem addAll_mem : ∀ {rs xs : List Fd} {p : Fd}, p ∈ addAll rs xs → p ∈ rs ∨ p ∈ xs
  | [], xs, p, h => .inr h
  | f :: r, xs, p, h => by
    rcases addAll_mem (rs := r) (xs := addF xs f) h with h | h
    · exact .inl (by simp [h])
    · rcases List.mem_append.1 h with h | h
      · exact .inr (withoutF_mem h)
      · simp only [List.mem_singleton] at h; exact .inl (by simp [h])
theorem addAll_len : ∀ (rs xs : List Fd), (addAll rs xs).length ≤ xs.length + rs.length
  | [], xs => Nat.le_refl _
  | f :: r, xs => by
    have := addAll_len r (addF xs f)
    have h2 := withoutF_le [f.1] xs
    have e : addAll (f :: r) xs = addAll r (addF xs f) := rfl
    rw [e]
    simp only [addF, List.length_append, List.length_cons, List.length_nil] at this ⊢
    omega
theorem addAll_take {rs xs : List Fd} {i : Nat} {f : Fd} (h : rs[i]? = some f) : addAll (rs.take (i + 1)) xs = withoutF [f.1] (addAll (rs.take i) xs) ++ [f] := by
  unfold addAll
  rw [List.take_add_one, h, List.foldl_append]; rfl
def zeroObj : Obj := ⟨⟨⟨[]⟩⟩, [], ⟨0, [], ⟨⟨[]⟩⟩⟩, 0, 0, 0⟩
def renewO (o : Obj) (r : Rsp) (a g : Int) : Obj := ⟨o.key, o.fs, ⟨o.r.st, addAll r.fs o.r.fs, o.r.bd⟩, a, g, o.ep⟩
def renewOk (o : Obj) (r : Rsp) (a g : Int) : Bool := ((o.good && r.good) && r.st == 304) && (renewO o r a g).good
def renewRes (o : Obj) (r : Rsp) (a g : Int) : Obj := if renewOk o r a g then renewO o r a g else zeroObj
def renewV (o : Obj) (b : Bool) : V := .tup [o.ow, .val (.bool b)]
theorem good_fs {o : Obj} (h : o.good = true) : fieldsOk o.fs = true ∧ fieldsOk o.r.fs = true := by
  simp only [Obj.good, Rsp.good, msgF, Bool.and_eq_true] at h
  exact ⟨h.1.1.1.1.1.2, h.1.1.1.1.2.1.1.2.1.1⟩
theorem goodR_fs {r : Rsp} (h : r.good = true) : fieldsOk r.fs = true := by
  simp only [Rsp.good, msgF, Bool.and_eq_true] at h
  exact h.1.1.2.1.1
theorem fieldsOk_len {xs : List Fd} (h : fieldsOk xs = true) : xs.length ≤ 30 := by
  simp only [fieldsOk, Bool.and_eq_true, decide_eq_true_eq] at h; exact h.1
theorem fieldsOk_val {xs : List Fd} (h : fieldsOk xs = true) : ∀ x ∈ xs, (sb x.2).length ≤ 400 := by
  intro x hx
  simp only [fieldsOk, Bool.and_eq_true, decide_eq_true_eq, List.all_eq_true, fieldOk, visibleOk] at h
  exact (h.2 x hx).1.2.1
theorem renew_len (o : Obj) (r : Rsp) (a g : Int) : (renewRes o r a g).fs.length ≤ 30 ∧ (renewRes o r a g).r.fs.length ≤ 30 := by
  unfold renewRes
  split
  · rename_i h
    simp only [renewOk, Bool.and_eq_true] at h
    exact ⟨fieldsOk_len (good_fs h.2).1, fieldsOk_len (good_fs h.2).2⟩
  · exact ⟨Nat.zero_le _, Nat.zero_le _⟩
theorem renew_no {o : Obj} {r : Rsp} {a g : Int} (h : renewOk o r a g = false) : renewRes o r a g = zeroObj := by simp [renewRes, h]
theorem renew_yes {o : Obj} {r : Rsp} {a g : Int} (h : renewOk o r a g = true) : renewRes o r a g = renewO o r a g := by simp [renewRes, h]
/-- the zero object, as the program makes it -/
theorem fin_zero : vfin (.tup [.agg [.val (.string ⟨⟨[]⟩⟩), nilV, .val (.int .i64 0), nilV, .val (.string ⟨⟨[]⟩⟩), .val (.int .i64 0), .val (.int .i64 0), .val (.int .i64 0)], .val (.bool false)]) (renewV zeroObj false) :=
  vfin_wk (wk_tup ⟨.inl (.inr ⟨_, _, rfl, rfl, ⟨.inr rfl, .inl wk_nil1, .inr rfl, .inl wk_nil1, .inr rfl, .inr rfl, .inr rfl, .inr rfl, trivial⟩⟩), .inr rfl, trivial⟩)

end Go.Proofs.YtfdmlccbfbiloaaDoor
namespace Go.Proofs.YtfdmlccbfbiloaaDoor
open Go Go.Proofs.YtfdmlccbfbiloaaDoor.Vs
variable [Gl]
set_option linter.unusedSectionVars false

/-! #### purges: what is one, what it hits (no program here) -/
structure Prg where
  k : Int
  t : ByteArray
def Prg.vs (p : Prg) : V := .agg [.val (.int .i64 p.k), .val (.string p.t)]
def Prg.good (p : Prg) : Bool := if p.k = 4 then sb p.t == [] else ((inR p.k 1 3 && decide (1 ≤ (sb p.t).length)) && decide ((sb p.t).length ≤ 200)) && (sb p.t).all grB
/-- as the program says it -/
theorem Prg.good_of (p : Prg) : p.good = (((inR p.k 1 4 && ((p.k == 4) == (sb p.t == []))) && decide ((sb p.t).length ≤ 200)) && (sb p.t).all grB) := by
  unfold Prg.good
  by_cases h4 : p.k = 4
  · rw [if_pos h4, h4]
    cases hs : sb p.t with
    | nil => simp [inR]
    | cons b r => simp [inR]
  · rw [if_neg h4]
    have hk : (p.k == 4) = false := by simpa using h4
    rw [hk]
    cases hs : sb p.t with
    | nil => simp [inR]
    | cons b r =>
      rw [Bool.eq_iff_iff]
      simp only [inR, Bool.and_eq_true, decide_eq_true_eq, List.length_cons]
      constructor
      · rintro ⟨⟨⟨⟨a, b⟩, c⟩, d⟩, e⟩
        exact ⟨⟨⟨⟨a, by omega⟩, by rfl⟩, d⟩, e⟩
      · rintro ⟨⟨⟨⟨a, b⟩, c⟩, d⟩, e⟩
        exact ⟨⟨⟨⟨a, by omega⟩, by omega⟩, d⟩, e⟩
def tagN : ByteArray := ⟨#[115, 117, 114, 114, 111, 103, 97, 116, 101, 45, 107, 101, 121]⟩
def startsB (l t : List UInt8) : Bool := decide (t.length ≤ l.length) && l.take t.length == t
def Prg.hits (p : Prg) (o : Obj) : Bool :=
  if p.k = 1 then sb o.key == sb p.t
  else if p.k = 2 then (itemsB (Lib.join (hitsOf tagN o.r.fs) comma)).any fun n => sb n == sb p.t
  else if p.k = 3 then startsB (sb o.key) (sb p.t)
  else true
end Go.Proofs.YtfdmlccbfbiloaaDoor
namespace Go.Proofs.YtfdmlccbfbiloaaDoor
open Go Go.Proofs.YtfdmlccbfbiloaaDoor.Vs
variable [Gl]
set_option linter.unusedSectionVars false

end Go.Proofs.YtfdmlccbfbiloaaDoor
namespace Go.Proofs.YtfdmlccbfbiloaaDoor
open Go Go.Proofs.YtfdmlccbfbiloaaDoor.Vs
variable [Gl]
set_option linter.unusedSectionVars false

end Go.Proofs.YtfdmlccbfbiloaaDoor
namespace Go.Proofs.YtfdmlccbfbiloaaDoor
open Go Go.Proofs.YtfdmlccbfbiloaaDoor.Vs
variable [Gl]
set_option linter.unusedSectionVars false

end Go.Proofs.YtfdmlccbfbiloaaDoor
namespace Go.Proofs.YtfdmlccbfbiloaaDoor
open Go Go.Proofs.YtfdmlccbfbiloaaDoor.Vs
variable [Gl]
set_option linter.unusedSectionVars false

/-! #### dates (no program here) -/
structure Dt where
  y : Int
  mo : Int
  d : Int
  h : Int
  mi : Int
  s : Int
def Dt.v (x : Dt) : V := .agg [.val (.int .i64 x.y), .val (.int .i64 x.mo), .val (.int .i64 x.d), .val (.int .i64 x.h), .val (.int .i64 x.mi), .val (.int .i64 x.s)]
def Dt.z : Dt := ⟨0, 0, 0, 0, 0, 0⟩
def leap (y : Int) : Bool := (y.tmod 4 == 0 && !(y.tmod 100 == 0)) || y.tmod 400 == 0
def mdays (y m : Int) : Int := if m = 4 ∨ m = 6 ∨ m = 9 ∨ m = 11 then 30 else if m = 2 then (if leap y then 29 else 28) else 31
def Dt.ok (x : Dt) : Bool := ((((inR x.y 1970 9999 && inR x.mo 1 12) && inR x.d 1 (mdays x.y x.mo)) && inR x.h 0 23) && inR x.mi 0 59) && inR x.s 0 59
def ydays (y : Int) : Int := 365 * (y - 1970) + (y - 1).tdiv 4 - (y - 1).tdiv 100 + (y - 1).tdiv 400 - 477
/-- the days of the first k months -/
def msum (y : Int) : Nat → Int
  | 0 => 0
  | k + 1 => msum y k + mdays y (k + 1)
def Dt.days (x : Dt) : Int := ydays x.y + x.d - 1 + msum x.y (x.mo.toNat - 1)
def Dt.moment (x : Dt) : Int := if x.ok then x.days * 86400 + x.h * 3600 + x.mi * 60 + x.s else -1
theorem mdays_le (y m : Int) : 28 ≤ mdays y m ∧ mdays y m ≤ 31 := by unfold mdays; split; omega; split; split <;> omega; omega
theorem msum_le (y : Int) : ∀ k, 0 ≤ msum y k ∧ msum y k ≤ 31 * k
  | 0 => by simp [msum]
  | k + 1 => by have := msum_le y k; have := mdays_le y (k + 1); simp only [msum]; omega
theorem ydays_le {y : Int} (h1 : 1970 ≤ y) (h2 : y ≤ 9999) : 0 ≤ ydays y ∧ ydays y ≤ 4000000 := by
  unfold ydays
  rw [Int.tdiv_eq_ediv_of_nonneg (by omega), Int.tdiv_eq_ediv_of_nonneg (by omega), Int.tdiv_eq_ediv_of_nonneg (by omega)]
  omega
theorem ok_iff {x : Dt} : x.ok = true ↔ (1970 ≤ x.y ∧ x.y ≤ 9999) ∧ (1 ≤ x.mo ∧ x.mo ≤ 12) ∧ (1 ≤ x.d ∧ x.d ≤ mdays x.y x.mo) ∧ (0 ≤ x.h ∧ x.h ≤ 23) ∧ (0 ≤ x.mi ∧ x.mi ≤ 59) ∧ 0 ≤ x.s ∧ x.s ≤ 59 := by
  simp only [Dt.ok, inR, Bool.and_eq_true, decide_eq_true_eq, and_assoc]
theorem days_le {x : Dt} (h : x.ok = true) : 0 ≤ x.days ∧ x.days ≤ 5000000 := by
  obtain ⟨h1, h2, h3, _⟩ := ok_iff.1 h
  have := ydays_le h1.1 h1.2
  have := msum_le x.y (x.mo.toNat - 1)
  have := mdays_le x.y x.mo
  unfold Dt.days
  omega
/-- a digit -/
def dgt (n : Int) : UInt8 := UInt8.ofNat (48 + n.toNat)
def two (n : Int) : List UInt8 := [dgt (n / 10 % 10), dgt (n % 10)]
def wkT : List UInt8 := [83, 117, 110, 77, 111, 110, 84, 117, 101, 87, 101, 100, 84, 104, 117, 70, 114, 105, 83, 97, 116]
def moT : List UInt8 := [74, 97, 110, 70, 101, 98, 77, 97, 114, 65, 112, 114, 77, 97, 121, 74, 117, 110, 74, 117, 108, 65, 117, 103, 83, 101, 112, 79, 99, 116, 78, 111, 118, 68, 101, 99]
def at3 (t : List UInt8) (k : Nat) : List UInt8 := [t.getD (3 * k + 0) 0, t.getD (3 * k + 1) 0, t.getD (3 * k + 2) 0]
def mk29 (w0 w1 w2 d1 d2 m0 m1 m2 y1 y2 y3 y4 h1 h2 i1 i2 s1 s2 : UInt8) : List UInt8 := [w0, w1, w2, 44, 32, d1, d2, 32, m0, m1, m2, 32, y1, y2, y3, y4, 32, h1, h2, 58, i1, i2, 58, s1, s2, 32, 71, 77, 84]
def g3 (t : List UInt8) (k j : Nat) : UInt8 := t.getD (3 * k + j) 0
def Dt.wd (x : Dt) : Nat := ((x.days + 4) % 7).toNat
def Dt.show (x : Dt) : List UInt8 :=
  mk29 (g3 wkT x.wd 0) (g3 wkT x.wd 1) (g3 wkT x.wd 2) (dgt (x.d / 10 % 10)) (dgt (x.d % 10)) (g3 moT (x.mo.toNat - 1) 0) (g3 moT (x.mo.toNat - 1) 1) (g3 moT (x.mo.toNat - 1) 2)
    (dgt (x.y / 100 / 10 % 10)) (dgt (x.y / 100 % 10)) (dgt (x.y / 10 % 10)) (dgt (x.y % 10)) (dgt (x.h / 10 % 10)) (dgt (x.h % 10)) (dgt (x.mi / 10 % 10)) (dgt (x.mi % 10)) (dgt (x.s / 10 % 10)) (dgt (x.s % 10))
theorem show_len (x : Dt) : x.show.length = 29 := rfl

/-! #### digits -/
def isDg (b : UInt8) : Bool := isDigit b.toNat
def numL (l : List UInt8) : Nat := l.foldl (fun n b => n * 10 + (b.toNat - 48)) 0
def digits (l : List UInt8) : Option Int := if ((decide (1 ≤ l.length) && decide (l.length ≤ 15)) && l.all isDg) = true then some (numL l : Int) else none
theorem dgt_dg {n : Int} (h0 : 0 ≤ n) (h1 : n ≤ 9) : (dgt n).toNat = 48 + n.toNat := by
  unfold dgt; rw [UInt8.toNat_ofNat']; omega
theorem isDg_dgt {n : Int} (h0 : 0 ≤ n) (h1 : n ≤ 9) : isDg (dgt n) = true := by
  unfold isDg isDigit; rw [dgt_dg h0 h1]; simp; omega
theorem digits_two {n : Int} (h0 : 0 ≤ n) (h1 : n ≤ 99) : digits (two n) = some n := by
  have e1 := isDg_dgt (n := n / 10 % 10) (by omega) (by omega)
  have e2 := isDg_dgt (n := n % 10) (by omega) (by omega)
  have d1 := dgt_dg (n := n / 10 % 10) (by omega) (by omega)
  have d2 := dgt_dg (n := n % 10) (by omega) (by omega)
  unfold digits two
  rw [if_pos (by simp [e1, e2])]
  simp only [numL, List.foldl_cons, List.foldl_nil, d1, d2, Option.some.injEq]
  omega
theorem digits_four {n : Int} (h0 : 0 ≤ n) (h1 : n ≤ 9999) : digits (two (n / 100) ++ two n) = some n := by
  have e1 := isDg_dgt (n := n / 100 / 10 % 10) (by omega) (by omega)
  have e2 := isDg_dgt (n := n / 100 % 10) (by omega) (by omega)
  have e3 := isDg_dgt (n := n / 10 % 10) (by omega) (by omega)
  have e4 := isDg_dgt (n := n % 10) (by omega) (by omega)
  have d1 := dgt_dg (n := n / 100 / 10 % 10) (by omega) (by omega)
  have d2 := dgt_dg (n := n / 100 % 10) (by omega) (by omega)
  have d3 := dgt_dg (n := n / 10 % 10) (by omega) (by omega)
  have d4 := dgt_dg (n := n % 10) (by omega) (by omega)
  unfold digits two
  rw [if_pos (by simp [e1, e2, e3, e4])]
  simp only [numL, List.cons_append, List.nil_append, List.foldl_cons, List.foldl_nil, d1, d2, d3, d4, Option.some.injEq]
  omega
theorem numL_snoc (l : List UInt8) (b : UInt8) : numL (l ++ [b]) = numL l * 10 + (b.toNat - 48) := by simp [numL]
theorem numF_lt : ∀ (l : List UInt8) (acc k : Nat), acc < 10 ^ k → l.all isDg = true → l.foldl (fun n b => n * 10 + (b.toNat - 48)) acc < 10 ^ (k + l.length)
  | [], acc, k, h, _ => h
  | b :: r, acc, k, h, hl => by
    rw [List.all_cons, Bool.and_eq_true] at hl
    have h2 : isDg b = true := hl.1
    simp only [isDg, isDigit, Bool.and_eq_true, decide_eq_true_eq] at h2
    have := numF_lt r (acc * 10 + (b.toNat - 48)) (k + 1) (by rw [Nat.pow_succ]; omega) hl.2
    rw [List.foldl_cons, List.length_cons, show k + (r.length + 1) = k + 1 + r.length by omega]
    exact this
theorem numL_lt (l : List UInt8) (h : l.all isDg = true) : numL l < 10 ^ l.length := by
  have := numF_lt l 0 0 (by decide) h
  rwa [Nat.zero_add] at this

/-! #### what is read -/
def cutL (s : List UInt8) (f t : Nat) : List UInt8 := (s.drop f).take (t - f)
def monS (w : List UInt8) : Nat → Int
  | 0 => 0
  | k + 1 => if at3 moT k = w then (k + 1 : Int) else monS w k
/-- as the reference reads it -/
def parS (s : List UInt8) : Dt :=
  let n := fun p => (digits (cutL s p (p + 2))).getD 0
  ⟨100 * n 12 + n 14, monS (cutL s 8 11) 12, n 5, n 17, n 20, n 23⟩
/-- as the program reads it -/
def parI (s : List UInt8) : Dt :=
  let n := fun f t => (digits (cutL s f t)).getD (-1)
  ⟨n 12 16, (Lib.index moT (cutL s 8 11)).tdiv 3 + 1, n 5 7, n 17 19, n 20 22, n 23 25⟩
def Dt.shows (x : Dt) (s : List UInt8) : Bool := x.ok && x.show == s
theorem monS_at : ∀ k : Nat, k < 12 → monS (at3 moT k) 12 = (k : Int) + 1 := by decide +kernel
theorem index_at : ∀ k : Nat, k < 12 → Lib.index moT (at3 moT k) = 3 * (k : Int) := by decide +kernel
section
variable (w0 w1 w2 d1 d2 m0 m1 m2 y1 y2 y3 y4 h1 h2 i1 i2 s1 s2 : UInt8)
theorem cut_5_7 : cutL (mk29 w0 w1 w2 d1 d2 m0 m1 m2 y1 y2 y3 y4 h1 h2 i1 i2 s1 s2) 5 7 = [d1, d2] := rfl
theorem cut_8_11 : cutL (mk29 w0 w1 w2 d1 d2 m0 m1 m2 y1 y2 y3 y4 h1 h2 i1 i2 s1 s2) 8 11 = [m0, m1, m2] := rfl
theorem cut_12_14 : cutL (mk29 w0 w1 w2 d1 d2 m0 m1 m2 y1 y2 y3 y4 h1 h2 i1 i2 s1 s2) 12 14 = [y1, y2] := rfl
theorem cut_14_16 : cutL (mk29 w0 w1 w2 d1 d2 m0 m1 m2 y1 y2 y3 y4 h1 h2 i1 i2 s1 s2) 14 16 = [y3, y4] := rfl
theorem cut_12_16 : cutL (mk29 w0 w1 w2 d1 d2 m0 m1 m2 y1 y2 y3 y4 h1 h2 i1 i2 s1 s2) 12 16 = [y1, y2, y3, y4] := rfl
theorem cut_17_19 : cutL (mk29 w0 w1 w2 d1 d2 m0 m1 m2 y1 y2 y3 y4 h1 h2 i1 i2 s1 s2) 17 19 = [h1, h2] := rfl
theorem cut_20_22 : cutL (mk29 w0 w1 w2 d1 d2 m0 m1 m2 y1 y2 y3 y4 h1 h2 i1 i2 s1 s2) 20 22 = [i1, i2] := rfl
theorem cut_23_25 : cutL (mk29 w0 w1 w2 d1 d2 m0 m1 m2 y1 y2 y3 y4 h1 h2 i1 i2 s1 s2) 23 25 = [s1, s2] := rfl
end
theorem parS_show {x : Dt} (h : x.ok = true) : parS x.show = x := by
  obtain ⟨⟨a1, a2⟩, ⟨b1, b2⟩, ⟨c1, c2⟩, ⟨d1, d2⟩, ⟨e1, e2⟩, f1, f2⟩ := ok_iff.1 h
  have := mdays_le x.y x.mo
  have q : ∀ k, x.mo.toNat - 1 = k → k < 12 → monS (at3 moT (x.mo.toNat - 1)) 12 = x.mo := by
    intro k hk hlt
    rw [monS_at _ (by omega)]
    omega
  have hm := q _ rfl (by omega)
  have g1 : digits (cutL x.show 12 14) = some (x.y / 100) := by unfold Dt.show; rw [cut_12_14]; exact digits_two (by omega) (by omega)
  have g2 : digits (cutL x.show 14 16) = some (x.y % 100) := by
    unfold Dt.show; rw [cut_14_16]
    have : [dgt (x.y / 10 % 10), dgt (x.y % 10)] = two (x.y % 100) := by
      unfold two
      rw [show x.y % 100 / 10 % 10 = x.y / 10 % 10 by omega, show x.y % 100 % 10 = x.y % 10 by omega]
    rw [this]; exact digits_two (by omega) (by omega)
  have g3 : digits (cutL x.show 5 7) = some x.d := by unfold Dt.show; rw [cut_5_7]; exact digits_two (by omega) (by omega)
  have g4 : digits (cutL x.show 17 19) = some x.h := by unfold Dt.show; rw [cut_17_19]; exact digits_two (by omega) (by omega)
  have g5 : digits (cutL x.show 20 22) = some x.mi := by unfold Dt.show; rw [cut_20_22]; exact digits_two (by omega) (by omega)
  have g6 : digits (cutL x.show 23 25) = some x.s := by unfold Dt.show; rw [cut_23_25]; exact digits_two (by omega) (by omega)
  have g7 : cutL x.show 8 11 = at3 moT (x.mo.toNat - 1) := by unfold Dt.show; rw [cut_8_11]; rfl
  obtain ⟨y, mo, d, hh, mi, s⟩ := x
  generalize hS : Dt.show _ = S at *
  simp only [parS, g1, g2, g3, g4, g5, g6, g7, hm, Option.getD_some]
  congr 1
  simp only at a1 a2
  omega
theorem parI_show {x : Dt} (h : x.ok = true) : parI x.show = x := by
  obtain ⟨⟨a1, a2⟩, ⟨b1, b2⟩, ⟨c1, c2⟩, ⟨d1, d2⟩, ⟨e1, e2⟩, f1, f2⟩ := ok_iff.1 h
  have := mdays_le x.y x.mo
  have g1 : digits (cutL x.show 12 16) = some x.y := by unfold Dt.show; rw [cut_12_16]; exact digits_four (by omega) (by omega)
  have g3 : digits (cutL x.show 5 7) = some x.d := by unfold Dt.show; rw [cut_5_7]; exact digits_two (by omega) (by omega)
  have g4 : digits (cutL x.show 17 19) = some x.h := by unfold Dt.show; rw [cut_17_19]; exact digits_two (by omega) (by omega)
  have g5 : digits (cutL x.show 20 22) = some x.mi := by unfold Dt.show; rw [cut_20_22]; exact digits_two (by omega) (by omega)
  have g6 : digits (cutL x.show 23 25) = some x.s := by unfold Dt.show; rw [cut_23_25]; exact digits_two (by omega) (by omega)
  have g7 : cutL x.show 8 11 = at3 moT (x.mo.toNat - 1) := by unfold Dt.show; rw [cut_8_11]; rfl
  have hm : (Lib.index moT (at3 moT (x.mo.toNat - 1))).tdiv 3 + 1 = x.mo := by
    rw [index_at _ (by omega)]
    rw [Int.tdiv_eq_ediv_of_nonneg (by omega)]
    omega
  obtain ⟨y, mo, d, hh, mi, s⟩ := x
  generalize hS : Dt.show _ = S at *
  simp only [parI, g1, g3, g4, g5, g6, g7, hm, Option.getD_some]
def readOk (s : List UInt8) : Bool := decide (s.length = 29) && (parS s).shows s
def readD (s : List UInt8) : Dt := if readOk s then parS s else Dt.z
def readV (s : List UInt8) : V := .tup [(readD s).v, .val (.bool (readOk s))]
theorem shows_parI (s : List UInt8) : (parI s).shows s = (parS s).shows s := by
  rw [Bool.eq_iff_iff]
  unfold Dt.shows
  simp only [Bool.and_eq_true, beq_iff_eq]
  constructor
  · rintro ⟨h1, h2⟩
    have := parS_show h1
    rw [h2] at this
    rw [this]; exact ⟨h1, h2⟩
  · rintro ⟨h1, h2⟩
    have := parI_show h1
    rw [h2] at this
    rw [this]; exact ⟨h1, h2⟩
theorem parI_eq {s : List UInt8} (h : (parI s).shows s = true) : parI s = parS s := by
  unfold Dt.shows at h
  simp only [Bool.and_eq_true, beq_iff_eq] at h
  have := parS_show h.1
  rw [h.2] at this
  exact this.symm
/-- the moment of a field -/
def dateB (s : List UInt8) : Int := if readOk s then (readD s).moment else -1
end Go.Proofs.YtfdmlccbfbiloaaDoor
namespace Go.Proofs.YtfdmlccbfbiloaaDoor
open Go Go.Proofs.YtfdmlccbfbiloaaDoor.Vs
variable [Gl]
set_option linter.unusedSectionVars false

/-! #### control (no program here) -/
structure Ctl where
  ma : Int
  sh : Int
  st : Int
  ns : Bool
  nc : Bool
  pr : Bool
  mu : Bool
def Ctl.z : Ctl := ⟨-1, -1, -1, false, false, false, false⟩
def Ctl.cs (c : Ctl) : List V := [.val (.int .i64 c.ma), .val (.int .i64 c.sh), .val (.int .i64 c.st), .val (.bool c.ns), .val (.bool c.nc), .val (.bool c.pr), .val (.bool c.mu)]
def Ctl.v (c : Ctl) : V := .agg c.cs
def secM : Int := 1000000000
def maW : List UInt8 := [109, 97, 120, 45, 97, 103, 101]
def shW : List UInt8 := [115, 45, 109, 97, 120, 97, 103, 101]
def stW : List UInt8 := [109, 97, 120, 45, 115, 116, 97, 108, 101]
def nsW : List UInt8 := [110, 111, 45, 115, 116, 111, 114, 101]
def ncW : List UInt8 := [110, 111, 45, 99, 97, 99, 104, 101]
def prW : List UInt8 := [112, 114, 105, 118, 97, 116, 101]
def muW : List UInt8 := [109, 117, 115, 116, 45, 114, 101, 118, 97, 108, 105, 100, 97, 116, 101]
/-- the number of a directive with a name (the sign behind it included) -/
def told (n x : List UInt8) : Option Int := if (decide (n.length < x.length) && x.take n.length == n) = true then (digits (x.drop n.length)).map (fun v => min secM v) else none
def tell (a : Int) (o : Option Int) : Int := if a < 0 then o.getD a else a
def ctlStep (c : Ctl) (x : List UInt8) : Ctl :=
  ⟨tell c.ma (told (maW ++ [61]) x), tell c.sh (told (shW ++ [61]) x), tell (tell c.st (told (stW ++ [61]) x)) (if x = stW then some secM else none), c.ns || x == nsW, c.nc || x == ncW, c.pr || x == prW, c.mu || x == muW⟩
def ctlL (c : Ctl) (l : List ByteArray) : Ctl := l.foldl (fun c x => ctlStep c (lower (sb x))) c
def ctl (s : List UInt8) : Ctl := ctlL Ctl.z (itemsB s)
theorem digits_le {l : List UInt8} {v : Int} (h : digits l = some v) : 0 ≤ v ∧ v < 1000000000000000 := by
  unfold digits at h
  split at h
  · rename_i hh
    simp only [Bool.and_eq_true, decide_eq_true_eq] at hh
    injection h with h
    have h1 := numL_lt l hh.2
    have h2 : (10 : Nat) ^ l.length ≤ 10 ^ 15 := Nat.pow_le_pow_right (by decide) hh.1.2
    omega
  · cases h
theorem told_le {n x : List UInt8} {v : Int} (h : told n x = some v) : 0 ≤ v ∧ v ≤ secM := by
  unfold told at h
  split at h
  · cases hd : digits (x.drop n.length) with
    | none => rw [hd] at h; cases h
    | some u =>
      rw [hd] at h
      simp only [Option.map_some, Option.some.injEq] at h
      have := digits_le hd
      unfold secM at *
      omega
  · cases h
def Ctl.ok (c : Ctl) : Prop := (-1 ≤ c.ma ∧ c.ma ≤ secM) ∧ (-1 ≤ c.sh ∧ c.sh ≤ secM) ∧ -1 ≤ c.st ∧ c.st ≤ secM
theorem tell_ok {a : Int} {o : Option Int} (h : -1 ≤ a ∧ a ≤ secM) (ho : ∀ v, o = some v → 0 ≤ v ∧ v ≤ secM) : -1 ≤ tell a o ∧ tell a o ≤ secM := by
  unfold tell
  split
  · cases o with
    | none => exact h
    | some v => have := ho v rfl; simp only [Option.getD_some]; omega
  · exact h
theorem ctlStep_ok {c : Ctl} (h : c.ok) (x : List UInt8) : (ctlStep c x).ok := by
  refine ⟨tell_ok h.1 fun v => told_le, tell_ok h.2.1 fun v => told_le, tell_ok (tell_ok h.2.2 fun v => told_le) fun v hv => ?_⟩
  split at hv
  · injection hv with hv; unfold secM at *; omega
  · cases hv
theorem ctlL_ok : ∀ {l : List ByteArray} {c : Ctl}, c.ok → (ctlL c l).ok
  | [], _, h => h
  | _ :: r, _, h => ctlL_ok (l := r) (ctlStep_ok h _)
theorem ctl_ok (s : List UInt8) : (ctl s).ok := ctlL_ok ⟨by decide, by decide, by decide⟩

/-! #### tags -/
structure Tg where
  w : Bool
  t : List UInt8
def tgChar (b : UInt8) : Bool := (decide (33 ≤ b.toNat) && decide (b.toNat ≤ 126)) && !(b == 34)
def Tg.ok (x : Tg) : Bool := decide (x.t.length ≤ 40) && x.t.all tgChar
def Tg.shw (x : Tg) : List UInt8 := (if x.w then [87, 47] else []) ++ [34] ++ x.t ++ [34]
def tgK (s : List UInt8) : Bool × List UInt8 := if (decide (2 < s.length) && s.take 2 == [87, 47]) = true then (true, s.drop 2) else (false, s)
/-- as the reference reads it -/
def tgS (s : List UInt8) : Tg := ⟨(tgK s).1, ((tgK s).2.drop 1).take ((tgK s).2.length - 1 - 1)⟩
/-- as the program reads it -/
def tgI (s : List UInt8) : Tg := if Lib.hasPrefix s [87, 47] then ⟨true, Lib.trimS (s.drop 2) [34]⟩ else ⟨false, Lib.trimS s [34]⟩
def Tg.shows (x : Tg) (s : List UInt8) : Bool := x.ok && x.shw == s
theorem tg_no34 {x : Tg} (h : x.ok = true) : ∀ b ∈ x.t, (b == 34) = false := by
  intro b hb
  simp only [Tg.ok, Bool.and_eq_true, List.all_eq_true] at h
  have := h.2 b hb
  simp only [tgChar, Bool.and_eq_true, Bool.not_eq_true'] at this
  exact this.2
theorem trim_q {t : List UInt8} (h : ∀ b ∈ t, (b == 34) = false) : Lib.trimS (34 :: (t ++ [34])) [34] = t := by
  have one : ∀ b : UInt8, ([34] : List UInt8).contains b = (b == 34) := fun b => Lib.contains_one 34 b
  have dw : ∀ l : List UInt8, (∀ b ∈ l, (b == 34) = false) → l.dropWhile ((([34] : List UInt8)).contains ·) = l := by
    intro l hl
    cases l with
    | nil => rfl
    | cons b r => rw [List.dropWhile_cons, one, hl b (by simp)]; rfl
  unfold Lib.trimS Lib.trimRightS Lib.trimLeftS
  have e1 : (34 :: (t ++ [34])).reverse.dropWhile ((([34] : List UInt8)).contains ·) = (if t = [] then [] else t.reverse ++ [34]) := by
    rw [List.reverse_cons, List.reverse_append]
    cases ht : t.reverse with
    | nil =>
      have : t = [] := by simpa using ht
      subst this
      rfl
    | cons b r =>
      have hne : ¬ t = [] := by intro e; subst e; cases ht
      rw [if_neg hne]
      have hb : (b == 34) = false := h b (by have : b ∈ t.reverse := by rw [ht]; simp
                                             simpa using this)
      show (34 :: (b :: r ++ [34])).dropWhile _ = _
      rw [List.dropWhile_cons, one]
      simp only [beq_self_eq_true, if_true]
      show (b :: (r ++ [34])).dropWhile _ = _
      rw [List.dropWhile_cons, one, hb]
      rfl
  rw [e1]
  split
  · rename_i ht
    subst ht; rfl
  · rw [List.reverse_append, List.reverse_reverse]
    show (34 :: t).dropWhile _ = _
    rw [List.dropWhile_cons, one]
    simp only [beq_self_eq_true, if_true]
    exact dw t h
theorem tgS_shw {x : Tg} (h : x.ok = true) : tgS x.shw = x := by
  obtain ⟨w, t⟩ := x
  cases w with
  | true =>
    have : tgK (Tg.shw ⟨true, t⟩) = (true, 34 :: (t ++ [34])) := by
      unfold tgK Tg.shw
      simp
    unfold tgS
    rw [this]
    simp
  | false =>
    have : tgK (Tg.shw ⟨false, t⟩) = (false, 34 :: (t ++ [34])) := by
      unfold tgK Tg.shw
      cases t <;> simp
    unfold tgS
    rw [this]
    simp
theorem tgI_shw {x : Tg} (h : x.ok = true) : tgI x.shw = x := by
  have hq := trim_q (tg_no34 h)
  obtain ⟨w, t⟩ := x
  cases w with
  | true =>
    have : Lib.hasPrefix (Tg.shw ⟨true, t⟩) [87, 47] = true := by simp [Tg.shw, Lib.hasPrefix]
    unfold tgI
    rw [if_pos this]
    have e : (Tg.shw ⟨true, t⟩).drop 2 = 34 :: (t ++ [34]) := by simp [Tg.shw]
    rw [e, hq]
  | false =>
    have : ¬ Lib.hasPrefix (Tg.shw ⟨false, t⟩) [87, 47] = true := by simp [Tg.shw, Lib.hasPrefix]
    unfold tgI
    rw [if_neg this]
    have e : Tg.shw ⟨false, t⟩ = 34 :: (t ++ [34]) := by simp [Tg.shw]
    rw [e, hq]
def tgOk (s : List UInt8) : Bool := (tgS s).shows s
theorem tgI_shows (s : List UInt8) : (tgI s).shows s = tgOk s := by
  unfold tgOk
  rw [Bool.eq_iff_iff]
  unfold Tg.shows
  simp only [Bool.and_eq_true, beq_iff_eq]
  constructor
  · rintro ⟨h1, h2⟩
    have := tgS_shw h1
    rw [h2] at this
    rw [this]; exact ⟨h1, h2⟩
  · rintro ⟨h1, h2⟩
    have := tgI_shw h1
    rw [h2] at this
    rw [this]; exact ⟨h1, h2⟩
theorem tgI_eq {s : List UInt8} (h : tgOk s = true) : tgI s = tgS s := by
  have h' := (tgI_shows s).trans h
  unfold Tg.shows at h'
  simp only [Bool.and_eq_true, beq_iff_eq] at h'
  have := tgS_shw h'.1
  rw [h'.2] at this
  exact this.symm
def tgV (s : List UInt8) : V := if tgOk s then .tup [.agg [.val (.bool (tgS s).w), .val (.string (bs (tgS s).t))], .val (.bool true)] else .tup [.agg [.val (.bool false), .val (.string ⟨⟨[]⟩⟩)], .val (.bool false)]
end Go.Proofs.YtfdmlccbfbiloaaDoor
namespace Go.Proofs.YtfdmlccbfbiloaaDoor
open Go Go.Proofs.YtfdmlccbfbiloaaDoor.Vs
variable [Gl]
set_option linter.unusedSectionVars false

/-! #### digits, both -/
def digV (l : List UInt8) : V := .tup [.val (.int .i64 ((digits l).getD 0)), .val (.bool (digits l).isSome)]
theorem digV_no {l : List UInt8} (h : digits l = none) : digV l = .tup [.val (.int .i64 0), .val (.bool false)] := by unfold digV; rw [h]; rfl
theorem digV_yes {l : List UInt8} {v : Int} (h : digits l = some v) : digV l = .tup [.val (.int .i64 v), .val (.bool true)] := by unfold digV; rw [h]; rfl
theorem take_snoc {l : List UInt8} {i : Nat} {b : UInt8} (h : l[i]? = some b) : l.take (i + 1) = l.take i ++ [b] := by
  rw [List.take_add_one, h]; rfl
theorem isDg_iff (b : UInt8) : isDg b = true ↔ 48 ≤ b.toNat ∧ b.toNat ≤ 57 := by
  unfold isDg isDigit; simp only [Bool.and_eq_true, decide_eq_true_eq]; omega
theorem digitsS_c (s : ByteArray) (hs : (sb s).length ≤ 140737488355328) : VC Tryd.prog 12 [.val (.string s)] (digV (sb s)) := by
  refine VC.intro hΘ Tryd.func12 rfl rfl Tryd.ntmps12 rfl rfl rfl fun B hB => ?_
  (conv => whnf)
  refine brm_p (fun h1 => ?_) (fun h1 => ?_) <;> (conv => whnf)
  · rw [digV_no (by unfold digits; rw [if_neg]; simp only [Bool.and_eq_true, decide_eq_true_eq]; omega)]
    exact vfin_tup2 rfl rfl
  refine brm_p (fun h2 => ?_) (fun h2 => ?_) <;> (conv => whnf)
  · rw [digV_no (by unfold digits; rw [if_neg]; simp only [Bool.and_eq_true, decide_eq_true_eq]; omega)]
    exact vfin_tup2 rfl rfl
  refine vloop_intro hΘ hB (ι := Nat) (fun i => ⟨[(0, .val (.string s)), (4, .val (.int .i64 (numL ((sb s).take i) : Nat))), (5, .val (.int .i64 i))], []⟩) (fun i => i ≤ (sb s).length ∧ ((sb s).take i).all isDg = true) (fun i => (sb s).length - i) 0
    ⟨⟨.inr rfl, .inr rfl, .inr rfl, trivial⟩, trivial⟩ ⟨by omega, rfl⟩ ?_
  rintro i ⟨k1, k2⟩
  (conv => whnf)
  refine brm_p (fun h => ?_) (fun h => ?_) <;> (conv => whnf)
  · obtain ⟨b, hg, hm, hd⟩ := drop_at (xs := sb s) (i := i) (by omega)
    have hb := byteAt_get hg
    have no : ¬ isDg b = true → digits (sb s) = none := by
      intro hn
      unfold digits
      rw [if_neg]
      simp only [Bool.and_eq_true, List.all_eq_true]
      exact fun h => hn (h.2 b hm)
    refine vix_intro i rfl (by omega) ?_
    (conv => whnf)
    rw [hb]
    refine brm_p (fun h1 => ?_) (fun h1 => ?_) <;> (conv => whnf)
    · rw [digV_no (no (by rw [isDg_iff]; omega))]
      exact vfin_tup2 rfl rfl
    refine vix_intro i rfl (by omega) ?_
    (conv => whnf)
    rw [hb]
    refine brm_p (fun h2 => ?_) (fun h2 => ?_) <;> (conv => whnf)
    · rw [digV_no (no (by rw [isDg_iff]; omega))]
      exact vfin_tup2 rfl rfl
    have hdg : isDg b = true := by rw [isDg_iff]; omega
    refine vix_intro i rfl (by omega) ?_
    (conv => whnf)
    rw [hb]
    have hlt := numL_lt _ k2
    have hl2 : ((sb s).take i).length ≤ 14 := by rw [List.length_take]; omega
    have hp : (10 : Nat) ^ ((sb s).take i).length ≤ 10 ^ 14 := Nat.pow_le_pow_right (by decide) hl2
    refine ⟨i + 1, ⟨⟨.inr rfl, .inr (vint_eq ?_), .inr (vint_eq (wrap_succ (by omega))), trivial⟩, trivial⟩, ⟨by omega, ?_⟩, by omega⟩
    · rw [take_snoc hg, numL_snoc]
      have : IntKind.u8.wrap ((b.toNat : Int) - 48) = ((b.toNat - 48 : Nat) : Int) := by
        have := b.toNat_lt
        have e : ((b.toNat : Int) - 48) % 2 ^ 8 = ((b.toNat - 48 : Nat) : Int) := by omega
        simp only [IntKind.wrap, IntKind.bits, IntKind.signed, Bool.false_and, Bool.false_eq_true, if_false]
        exact e
      simp only [this]
      simp (disch := omega) only [wrap_i64]
      omega
    · rw [take_snoc hg, List.all_append, k2]
      simpa using hdg
  · have : (sb s).take i = sb s := List.take_of_length_le (by omega)
    rw [this] at k2 ⊢
    rw [digV_yes (v := (numL (sb s) : Nat)) (by unfold digits; rw [if_pos]; simp only [Bool.and_eq_true, decide_eq_true_eq]; exact ⟨⟨by omega, by omega⟩, k2⟩)]
    exact vfin_tup2 rfl rfl

theorem isDigitP_c (b : UInt8) : VC Tryd.prog 26 [.val (.int .u8 b.toNat)] (.val (.bool (isDg b))) := isDigit_c b.toNat
theorem parseUM (M : Nat) (hM : 1000000000000000 ≤ M) : ∀ (l : List UInt8) (acc k : Nat), k + l.length ≤ 15 → acc < 10 ^ k → l.all isDg = true → Lib.parseUintM M acc l = .ok (l.foldl (fun n b => n * 10 + (b.toNat - 48)) acc)
  | [], acc, k, _, _, _ => rfl
  | b :: r, acc, k, h1, h2, h3 => by
    rw [List.all_cons, Bool.and_eq_true] at h3
    have hb := (isDg_iff b).1 h3.1
    have hk : k + 1 ≤ 15 := by simp at h1; omega
    have hp : (10 : Nat) ^ (k + 1) ≤ 10 ^ 15 := Nat.pow_le_pow_right (by decide) hk
    have hs : (10 : Nat) ^ (k + 1) = 10 ^ k * 10 := Nat.pow_succ ..
    rw [Lib.parseUintM, if_pos (by omega), if_neg (by omega), if_neg (by omega)]
    rw [List.foldl_cons]
    exact parseUM M hM r _ (k + 1) (by simp at h1; omega) (by omega) h3.2
theorem parseInt_of {l : List UInt8} (h1 : 1 ≤ l.length) (h2 : l.length ≤ 15) (h3 : l.all isDg = true) : Lib.parseIntB 64 l = .ok (numL l : Nat) := by
  cases l with
  | nil => simp at h1
  | cons c r =>
    have hc := (isDg_iff c).1 (by rw [List.all_cons, Bool.and_eq_true] at h3; exact h3.1)
    have hu : Lib.parseUintB 64 (c :: r) = .ok (numL (c :: r)) := by
      rw [Lib.parseUintB, if_neg (by simp)]
      exact parseUM _ (by decide) _ 0 0 (by omega) (by decide) h3
    have hn := numL_lt _ h3
    have hp : (10 : Nat) ^ (c :: r).length ≤ 10 ^ 15 := Nat.pow_le_pow_right (by decide) h2
    rw [Lib.parseIntB_plain 64 c r (by omega) (by omega), hu]
    unfold Lib.signlessC
    simp only [show (2 : Nat) ^ (64 - 1) = 9223372036854775808 from rfl]
    rw [if_neg (by omega)]
theorem below_bytes {w w' : World} {k : Nat} (h : w' = w ∨ ∃ t, w' = Lib.bytesWorld w k t) : RowKit.Below w.heap.size w w' := by
  rcases h with rfl | ⟨t, rfl⟩
  · exact RowKit.Below.refl _ _
  · exact Lib.bytesWorld_below _ _ _
theorem parseInt_c (s : ByteArray) (h1 : 1 ≤ (sb s).length) (h2 : (sb s).length ≤ 15) (h3 : (sb s).all isDg = true) :
    VC Tryd.prog 27 [.val (.string s), .val (.int .i64 10), .val (.int .i64 64)] (.tup [.val (.int .i64 (numL (sb s) : Nat)), .val .nilIface]) :=
  VC.of_tupG (xs := [.string s, .int .i64 10, .int .i64 64]) (ys := [.int .i64 (numL (sb s) : Nat), .nilIface]) Tryd.func27 rfl rfl rfl fun _ w _ =>
    (Tryd.strconv_ParseInt_10_at64_ok s (by rw [Lib.size_eq]; show (sb s).length ≤ _; omega) (numL (sb s) : Nat) (parseInt_of h1 h2 h3) w).mono fun _ _ ⟨h1, h2⟩ => ⟨h1, below_bytes h2⟩
theorem digitsI_c (s : ByteArray) (hs : (sb s).length ≤ 140737488355328) : VC Tryd.prog 17 [.val (.string s)] (digV (sb s)) := by
  refine VC.intro hΘ Tryd.func17 rfl rfl Tryd.ntmps17 rfl rfl rfl fun B hB => ?_
  (conv => whnf)
  refine brm_p (fun h1 => ?_) (fun h1 => ?_) <;> (conv => whnf)
  · rw [digV_no (by unfold digits; rw [if_neg]; simp only [Bool.and_eq_true, decide_eq_true_eq]; omega)]
    exact vfin_tup2 rfl rfl
  refine brm_p (fun h2 => ?_) (fun h2 => ?_) <;> (conv => whnf)
  · rw [digV_no (by unfold digits; rw [if_neg]; simp only [Bool.and_eq_true, decide_eq_true_eq]; omega)]
    exact vfin_tup2 rfl rfl
  refine call_bb rfl (all_c 26 isDg isDigitP_c s hs) (f1 (av rfl) (f1 (av rfl) f0)) (fun h3 => ?_) (fun h3 => ?_) <;> (conv => whnf)
  rotate_left
  · rw [digV_no (by unfold digits; rw [if_neg]; simp only [Bool.and_eq_true]; rw [h3]; simp)]
    exact vfin_tup2 rfl rfl
  refine vcallS_intro0 rfl (parseInt_c s (by omega) (by omega) h3) (f1 (av rfl) (f1 (av rfl) (f1 (av rfl) f0))) ?_
  (conv => whnf)
  rw [digV_yes (v := (numL (sb s) : Nat)) (by unfold digits; rw [if_pos]; simp only [Bool.and_eq_true, decide_eq_true_eq]; exact ⟨⟨by omega, by omega⟩, h3⟩)]
  exact vfin_tup2 rfl rfl
end Go.Proofs.YtfdmlccbfbiloaaDoor
namespace Go.Proofs.YtfdmlccbfbiloaaDoor
open Go Go.Proofs.YtfdmlccbfbiloaaDoor.Vs
variable [Gl]
set_option linter.unusedSectionVars false

/-! #### how the end of a body is told -/
def fldT (n : ByteArray) (xs : List Fd) : List UInt8 := Lib.join (hitsOf n xs) comma
theorem fldT_len {n : ByteArray} {xs : List Fd} (h : fieldsOk xs = true) : (fldT n xs).length ≤ 140737488355328 := by
  refine Nat.le_trans (join_len (hits_short h)) ?_
  have h1 := fieldsOk_len h
  have h2 := hitsB_len n xs
  rw [← hitsB_of, List.length_map]
  omega
theorem getT_eq {n : ByteArray} {xs : List Fd} : getV xs n = .tup [.val (.string (bs (fldT n xs))), .val (.bool (hasF n xs))] := rfl
def chW : List UInt8 := [99, 104, 117, 110, 107, 101, 100]
def fr (one two : Bool) (d : Option Int) (l : List UInt8) : Int × Int :=
  if (!one && !two) = true then (0, 0) else if (((one && !two) && d.isSome) && decide (d.getD 0 ≤ 4000)) = true then (1, d.getD 0) else if ((two && !one) && l == chW) = true then (2, 0) else (3, 0)
def frP (xs : List Fd) : Int × Int := if fieldsOk xs then fr (hasF lenN xs) (hasF codN xs) (digits (fldT lenN xs)) (lower (fldT codN xs)) else (3, 0)
def frV (xs : List Fd) : V := .tup [.val (.int .i64 (frP xs).1), .val (.int .i64 (frP xs).2)]

set_option maxRecDepth 100000 in
theorem framingS_c (xs : List Fd) (hx : ∀ x ∈ xs, szOk x) (hl : xs.length ≤ 140737488355328) : VC Tryd.prog 5 [rdF xs] (frV xs) := by
  refine VC.intro hΘ Tryd.func5 rfl rfl Tryd.ntmps5 rfl rfl rfl fun B hB => ?_
  (conv => whnf)
  refine call_bb rfl (fieldsOkS_c xs hx hl) (f1 (ar rfl rfl) f0) (fun h => ?_) (fun h => ?_) <;> (conv => whnf)
  rotate_left
  · have : frP xs = (3, 0) := by unfold frP; rw [h]; rfl
    unfold frV; rw [this]
    exact vfin_tup2 rfl rfl
  have hP : frP xs = fr (hasF lenN xs) (hasF codN xs) (digits (fldT lenN xs)) (lower (fldT codN xs)) := by unfold frP; rw [h]; rfl
  unfold frV
  rw [hP]
  have c1 := l4Get_c xs lenN hx (by decide) (fieldsOk_len h)
  have c2 := l4Get_c xs codN hx (by decide) (fieldsOk_len h)
  rw [getT_eq] at c1 c2
  have l1 := fldT_len (n := lenN) h
  have l2 := fldT_len (n := codN) h
  generalize hasF lenN xs = one at c1 ⊢
  generalize hasF codN xs = two at c2 ⊢
  generalize fldT lenN xs = J1 at c1 l1 ⊢
  generalize fldT codN xs = J2 at c2 l2 ⊢
  have c3 := digitsS_c (bs J1) (by rw [sb_bs]; exact l1)
  have c4 := lowerS_c (bs J2) (by rw [sb_bs]; exact l2)
  rw [sb_bs] at c3 c4
  unfold digV at c3
  generalize lower J2 = Lw at c4 ⊢
  refine vcallS_intro0 rfl c1 (f1 (ar rfl rfl) (f1 (av rfl) f0)) ?_
  (conv => whnf)
  refine vcallS_intro0 rfl c2 (f1 (ar rfl rfl) (f1 (av rfl) f0)) ?_
  (conv => whnf)
  cases hd : digits J1 with
  | none =>
    rw [hd] at c3
    refine vcallS_intro0 rfl c3 (f1 (av rfl) f0) ?_
    cases one with
    | false =>
      cases two with
      | false =>
        (conv => whnf)
        exact vfin_tup2 rfl rfl
      | true =>
        (conv => whnf)
        refine vcallS_intro0 rfl c4 (f1 (av rfl) f0) ?_
        (conv => whnf)
        refine brm_eq (fun k => ?_) (fun k => ?_) <;> (conv => whnf)
        · have k : Lw = chW := k
          subst k
          exact vfin_tup2 rfl rfl
        · have k : (Lw == chW) = false := by simpa using (show ¬ Lw = chW from k)
          refine vfin_tup2 ?_ ?_ <;> simp [fr, k]
    | true =>
      cases two with
      | false =>
        (conv => whnf)
        exact vfin_tup2 rfl rfl
      | true =>
        (conv => whnf)
        exact vfin_tup2 rfl rfl
  | some v =>
    rw [hd] at c3
    refine vcallS_intro0 rfl c3 (f1 (av rfl) f0) ?_
    cases one with
    | false =>
      cases two with
      | false =>
        (conv => whnf)
        exact vfin_tup2 rfl rfl
      | true =>
        (conv => whnf)
        refine vcallS_intro0 rfl c4 (f1 (av rfl) f0) ?_
        (conv => whnf)
        refine brm_eq (fun k => ?_) (fun k => ?_) <;> (conv => whnf)
        · have k : Lw = chW := k
          subst k
          exact vfin_tup2 rfl rfl
        · have k : (Lw == chW) = false := by simpa using (show ¬ Lw = chW from k)
          refine vfin_tup2 ?_ ?_ <;> simp [fr, k]
    | true =>
      cases two with
      | false =>
        (conv => whnf)
        refine brm_p (fun k => ?_) (fun k => ?_) <;> (conv => whnf)
        · have k : v ≤ 4000 := k
          refine vfin_tup2 ?_ ?_ <;> simp [fr, k]
        · have k : ¬ v ≤ 4000 := k
          refine vfin_tup2 ?_ ?_ <;> simp [fr, k]
      | true =>
        (conv => whnf)
        exact vfin_tup2 rfl rfl

set_option maxRecDepth 100000 in
theorem framingI_c (xs : List Fd) (hx : ∀ x ∈ xs, szOk x) (hl : xs.length ≤ 140737488355328) : VC Tryd.prog 7 [rdF xs] (frV xs) := by
  refine VC.intro hΘ Tryd.func7 rfl rfl Tryd.ntmps7 rfl rfl rfl fun B hB => ?_
  (conv => whnf)
  refine call_bb rfl (fieldsOkI_c xs hx hl) (f1 (ar rfl rfl) f0) (fun h => ?_) (fun h => ?_) <;> (conv => whnf)
  rotate_left
  · have : frP xs = (3, 0) := by unfold frP; rw [h]; rfl
    unfold frV; rw [this]
    exact vfin_tup2 rfl rfl
  have hP : frP xs = fr (hasF lenN xs) (hasF codN xs) (digits (fldT lenN xs)) (lower (fldT codN xs)) := by unfold frP; rw [h]; rfl
  unfold frV
  rw [hP]
  have c1 := getI_c xs lenN hx (by decide) h
  have c2 := getI_c xs codN hx (by decide) h
  rw [getT_eq] at c1 c2
  have l1 := fldT_len (n := lenN) h
  have l2 := fldT_len (n := codN) h
  generalize hasF lenN xs = one at c1 ⊢
  generalize hasF codN xs = two at c2 ⊢
  generalize fldT lenN xs = J1 at c1 l1 ⊢
  generalize fldT codN xs = J2 at c2 l2 ⊢
  have c3 := digitsI_c (bs J1) (by rw [sb_bs]; exact l1)
  have c4 := lowerI_c (bs J2) (by rw [sb_bs]; exact l2)
  rw [sb_bs] at c3 c4
  unfold digV at c3
  generalize lower J2 = Lw at c4 ⊢
  refine vcallS_intro0 rfl c1 (f1 (ar rfl rfl) (f1 (av rfl) f0)) ?_
  (conv => whnf)
  refine vcallS_intro0 rfl c2 (f1 (ar rfl rfl) (f1 (av rfl) f0)) ?_
  (conv => whnf)
  cases hd : digits J1 with
  | none =>
    rw [hd] at c3
    refine vcallS_intro0 rfl c3 (f1 (av rfl) f0) ?_
    cases one with
    | false =>
      cases two with
      | false =>
        (conv => whnf)
        exact vfin_tup2 rfl rfl
      | true =>
        (conv => whnf)
        refine vcallS_intro0 rfl c4 (f1 (av rfl) f0) ?_
        (conv => whnf)
        refine brm_eq (fun k => ?_) (fun k => ?_) <;> (conv => whnf)
        · have k : Lw = chW := k
          subst k
          exact vfin_tup2 rfl rfl
        · have k : (Lw == chW) = false := by simpa using (show ¬ Lw = chW from k)
          refine vfin_tup2 ?_ ?_ <;> simp [fr, k]
    | true =>
      cases two with
      | false =>
        (conv => whnf)
        exact vfin_tup2 rfl rfl
      | true =>
        (conv => whnf)
        exact vfin_tup2 rfl rfl
  | some v =>
    rw [hd] at c3
    refine vcallS_intro0 rfl c3 (f1 (av rfl) f0) ?_
    cases one with
    | false =>
      cases two with
      | false =>
        (conv => whnf)
        exact vfin_tup2 rfl rfl
      | true =>
        (conv => whnf)
        refine vcallS_intro0 rfl c4 (f1 (av rfl) f0) ?_
        (conv => whnf)
        refine brm_eq (fun k => ?_) (fun k => ?_) <;> (conv => whnf)
        · have k : Lw = chW := k
          subst k
          exact vfin_tup2 rfl rfl
        · have k : (Lw == chW) = false := by simpa using (show ¬ Lw = chW from k)
          refine vfin_tup2 ?_ ?_ <;> simp [fr, k]
    | true =>
      cases two with
      | false =>
        (conv => whnf)
        refine brm_p (fun k => ?_) (fun k => ?_) <;> (conv => whnf)
        · have k : v ≤ 4000 := k
          refine vfin_tup2 ?_ ?_ <;> simp [fr, k]
        · have k : ¬ v ≤ 4000 := k
          refine vfin_tup2 ?_ ?_ <;> simp [fr, k]
      | true =>
        (conv => whnf)
        exact vfin_tup2 rfl rfl

set_option maxRecDepth 100000 in
theorem framing_law (xs : List Fd) (ha : fdOk xs) : VC Tryd.prog 3 [rdF xs] (.val (.bool true)) := by
  refine VC.intro hΘ Tryd.func3 rfl rfl Tryd.ntmps3 rfl rfl rfl fun B hB => ?_
  (conv => whnf)
  refine call_i rfl (szFieldS_c xs 1048576 (by decide) (by decide) ha.1 ha.2) (f1 (ar rfl rfl) (f1 (av rfl) f0)) fun z hz => ?_
  (conv => whnf)
  refine brm_p (fun h => ?_) (fun h => ?_) <;> (conv => whnf)
  · exact vfin_bool rfl
  have o1 : xs.length ≤ 2097152 := by
    rw [hz] at h
    split at h
    · omega
    · omega
  have cS := framingS_c xs ha.2 ha.1
  have cI := framingI_c xs ha.2 ha.1
  unfold frV at cS cI
  generalize (frP xs).1 = v1 at cS cI
  generalize (frP xs).2 = v2 at cS cI
  refine vcallS_intro0 rfl (toFieldS_c xs o1) (f1 (ar rfl rfl) f0) ?_
  (conv => whnf)
  refine vcallS_intro0 rfl cS (f1 (ah rfl rfl rfl) f0) ?_
  (conv => whnf)
  refine vcallS_intro0 rfl (toFieldS_c xs o1) (f1 (ar rfl rfl) f0) ?_
  (conv => whnf)
  refine vcallS_intro0 rfl cI (f1 (ah rfl rfl rfl) f0) ?_
  (conv => whnf)
  refine brm_ne (fun h => absurd rfl h) (fun _ => ?_) <;> (conv => whnf)
  refine brm_ne (fun h => absurd rfl h) (fun _ => ?_) <;> (conv => whnf)
  refine vcallS_intro0 rfl (toFieldS_c xs o1) (f1 (ar rfl rfl) f0) ?_
  (conv => whnf)
  refine vcallS_intro0 rfl (eqFieldS_c xs o1) (f1 (ah rfl rfl rfl) (f1 (ah rfl rfl rfl) f0)) ?_
  (conv => whnf)
  exact vfin_bool rfl
end Go.Proofs.YtfdmlccbfbiloaaDoor
