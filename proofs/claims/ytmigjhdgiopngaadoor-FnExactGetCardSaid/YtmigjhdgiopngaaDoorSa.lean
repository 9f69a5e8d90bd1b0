import Derived.Test.YtmigjhdgiopngaaDoorVc
import Derived.Test.YtmigjhdgiopngaaDoorProg
import Derived.Lib.Join
import Derived.Test.YtmigjhdgiopngaaDoorShelf
import Derived.Lib.IndexLaws
namespace Go.Proofs.YtmigjhdgiopngaaDoor
open Go Go.Proofs.YtmigjhdgiopngaaDoor.Vs
def ti1 : TI := ⟨1, 8, .other, [.nilFunc]⟩
theorem tiok1 : TIok Tryd.prog 1 ti1 := TIok.of Tryd.type1 Tryd.underlying1 rfl rfl rfl rfl rfl rfl trivial
def ti2 : TI := ⟨1, 8, .int .i64, [(.int .i64 0)]⟩
theorem tiok2 : TIok Tryd.prog 2 ti2 := TIok.of Tryd.type2 Tryd.underlying2 rfl rfl rfl rfl rfl rfl rfl
def ti3 : TI := ⟨1, 8, .int .i64, [(.int .i64 0)]⟩
theorem tiok3 : TIok Tryd.prog 3 ti3 := TIok.of Tryd.type3 Tryd.underlying3 rfl rfl rfl rfl rfl rfl rfl
def ti4 : TI := ⟨1, 1, .bool, [(.bool false)]⟩
theorem tiok4 : TIok Tryd.prog 4 ti4 := TIok.of Tryd.type4 Tryd.underlying4 rfl rfl rfl rfl rfl rfl rfl
def ti5 : TI := ⟨1, 1, .int .u8, [(.int .u8 0)]⟩
theorem tiok5 : TIok Tryd.prog 5 ti5 := TIok.of Tryd.type5 Tryd.underlying5 rfl rfl rfl rfl rfl rfl rfl
def ti6 : TI := ⟨1, 1, .int .u8, [(.int .u8 0)]⟩
theorem tiok6 : TIok Tryd.prog 6 ti6 := TIok.of Tryd.type6 Tryd.underlying6 rfl rfl rfl rfl rfl rfl rfl
def ti7 : TI := ⟨4, 24, .struct [(0, 2), (1, 3), (2, 4), (3, 6)], [(.int .i64 0), (.int .i64 0), (.bool false), (.int .u8 0)]⟩
theorem tiok7 : TIok Tryd.prog 7 ti7 := TIok.of Tryd.type7 Tryd.underlying7 rfl rfl rfl rfl rfl rfl ⟨_, rfl, rfl⟩
def ti8 : TI := ⟨4, 24, .struct [(0, 2), (1, 3), (2, 4), (3, 6)], [(.int .i64 0), (.int .i64 0), (.bool false), (.int .u8 0)]⟩
theorem tiok8 : TIok Tryd.prog 8 ti8 := TIok.of Tryd.type8 Tryd.underlying8 rfl rfl rfl rfl rfl rfl ⟨_, rfl, rfl⟩
def ti9 : TI := ⟨1, 16, .string, [(.string ⟨⟨[]⟩⟩)]⟩
theorem tiok9 : TIok Tryd.prog 9 ti9 := TIok.of Tryd.type9 Tryd.underlying9 rfl rfl rfl rfl rfl rfl rfl
def ti11 : TI := ⟨1, 16, .string, [(.string ⟨⟨[]⟩⟩)]⟩
theorem tiok11 : TIok Tryd.prog 11 ti11 := TIok.of Tryd.type11 Tryd.underlying11 rfl rfl rfl rfl rfl rfl rfl
def ti12 : TI := ⟨1, 8, .int .u64, [(.int .u64 0)]⟩
theorem tiok12 : TIok Tryd.prog 12 ti12 := TIok.of Tryd.type12 Tryd.underlying12 rfl rfl rfl rfl rfl rfl rfl
def ti13 : TI := ⟨2, 24, .struct [(0, 9), (1, 12)], [(.string ⟨⟨[]⟩⟩), (.int .u64 0)]⟩
theorem tiok13 : TIok Tryd.prog 13 ti13 := TIok.of Tryd.type13 Tryd.underlying13 rfl rfl rfl rfl rfl rfl ⟨_, rfl, rfl⟩
def ti15 : TI := ⟨1, 8, .ptr 84, [(.pointer none)]⟩
theorem tiok15 : TIok Tryd.prog 15 ti15 := TIok.of Tryd.type15 Tryd.underlying15 rfl rfl rfl rfl rfl rfl rfl
def ti16 : TI := ⟨1, 8, .ptr 87, [(.pointer none)]⟩
theorem tiok16 : TIok Tryd.prog 16 ti16 := TIok.of Tryd.type16 Tryd.underlying16 rfl rfl rfl rfl rfl rfl rfl
def ti17 : TI := ⟨1, 8, .ptr 96, [(.pointer none)]⟩
theorem tiok17 : TIok Tryd.prog 17 ti17 := TIok.of Tryd.type17 Tryd.underlying17 rfl rfl rfl rfl rfl rfl rfl
def ti18 : TI := ⟨1, 8, .struct [(0, 17)], [(.pointer none)]⟩
theorem tiok18 : TIok Tryd.prog 18 ti18 := TIok.of Tryd.type18 Tryd.underlying18 rfl rfl rfl rfl rfl rfl ⟨_, rfl, rfl⟩
def ti19 : TI := ⟨1, 8, .struct [(0, 17)], [(.pointer none)]⟩
theorem tiok19 : TIok Tryd.prog 19 ti19 := TIok.of Tryd.type19 Tryd.underlying19 rfl rfl rfl rfl rfl rfl ⟨_, rfl, rfl⟩
def ti20 : TI := ⟨1, 16, .other, [.nilIface]⟩
theorem tiok20 : TIok Tryd.prog 20 ti20 := TIok.of Tryd.type20 Tryd.underlying20 rfl rfl rfl rfl rfl rfl trivial
def ti21 : TI := ⟨1, 4, .int .i32, [(.int .i32 0)]⟩
theorem tiok21 : TIok Tryd.prog 21 ti21 := TIok.of Tryd.type21 Tryd.underlying21 rfl rfl rfl rfl rfl rfl rfl
def ti22 : TI := ⟨1, 24, .slice 32, [(.slice none 0 0)]⟩
theorem tiok22 : TIok Tryd.prog 22 ti22 := TIok.of Tryd.type22 Tryd.underlying22 rfl rfl rfl rfl rfl rfl rfl
def ti23 : TI := ⟨1, 8, .other, [.nilFunc]⟩
theorem tiok23 : TIok Tryd.prog 23 ti23 := TIok.of Tryd.type23 Tryd.underlying23 rfl rfl rfl rfl rfl rfl trivial
def ti25 : TI := ⟨1, 8, .other, [.nilFunc]⟩
theorem tiok25 : TIok Tryd.prog 25 ti25 := TIok.of Tryd.type25 Tryd.underlying25 rfl rfl rfl rfl rfl rfl trivial
def ti26 : TI := ⟨1, 24, .slice 34, [(.slice none 0 0)]⟩
theorem tiok26 : TIok Tryd.prog 26 ti26 := TIok.of Tryd.type26 Tryd.underlying26 rfl rfl rfl rfl rfl rfl rfl
def ti27 : TI := ⟨1, 8, .other, [.nilFunc]⟩
theorem tiok27 : TIok Tryd.prog 27 ti27 := TIok.of Tryd.type27 Tryd.underlying27 rfl rfl rfl rfl rfl rfl trivial
def ti28 : TI := ⟨1, 8, .other, [.nilFunc]⟩
theorem tiok28 : TIok Tryd.prog 28 ti28 := TIok.of Tryd.type28 Tryd.underlying28 rfl rfl rfl rfl rfl rfl trivial
def ti29 : TI := ⟨1, 8, .other, [.nilFunc]⟩
theorem tiok29 : TIok Tryd.prog 29 ti29 := TIok.of Tryd.type29 Tryd.underlying29 rfl rfl rfl rfl rfl rfl trivial
def ti30 : TI := ⟨1, 8, .other, [.nilFunc]⟩
theorem tiok30 : TIok Tryd.prog 30 ti30 := TIok.of Tryd.type30 Tryd.underlying30 rfl rfl rfl rfl rfl rfl trivial
def ti31 : TI := ⟨2, 32, .struct [(0, 9), (1, 9)], [(.string ⟨⟨[]⟩⟩), (.string ⟨⟨[]⟩⟩)]⟩
theorem tiok31 : TIok Tryd.prog 31 ti31 := TIok.of Tryd.type31 Tryd.underlying31 rfl rfl rfl rfl rfl rfl ⟨_, rfl, rfl⟩
def ti32 : TI := ⟨2, 32, .struct [(0, 9), (1, 9)], [(.string ⟨⟨[]⟩⟩), (.string ⟨⟨[]⟩⟩)]⟩
theorem tiok32 : TIok Tryd.prog 32 ti32 := TIok.of Tryd.type32 Tryd.underlying32 rfl rfl rfl rfl rfl rfl ⟨_, rfl, rfl⟩
def ti33 : TI := ⟨1, 8, .other, [.nilFunc]⟩
theorem tiok33 : TIok Tryd.prog 33 ti33 := TIok.of Tryd.type33 Tryd.underlying33 rfl rfl rfl rfl rfl rfl trivial
def ti34 : TI := ⟨2, 32, .struct [(0, 9), (1, 9)], [(.string ⟨⟨[]⟩⟩), (.string ⟨⟨[]⟩⟩)]⟩
theorem tiok34 : TIok Tryd.prog 34 ti34 := TIok.of Tryd.type34 Tryd.underlying34 rfl rfl rfl rfl rfl rfl ⟨_, rfl, rfl⟩
def ti35 : TI := ⟨1, 8, .other, [.nilFunc]⟩
theorem tiok35 : TIok Tryd.prog 35 ti35 := TIok.of Tryd.type35 Tryd.underlying35 rfl rfl rfl rfl rfl rfl trivial
def ti36 : TI := ⟨1, 8, .other, [.nilFunc]⟩
theorem tiok36 : TIok Tryd.prog 36 ti36 := TIok.of Tryd.type36 Tryd.underlying36 rfl rfl rfl rfl rfl rfl trivial
def ti37 : TI := ⟨1, 8, .other, [.nilFunc]⟩
theorem tiok37 : TIok Tryd.prog 37 ti37 := TIok.of Tryd.type37 Tryd.underlying37 rfl rfl rfl rfl rfl rfl trivial
def ti38 : TI := ⟨1, 8, .other, [.nilFunc]⟩
theorem tiok38 : TIok Tryd.prog 38 ti38 := TIok.of Tryd.type38 Tryd.underlying38 rfl rfl rfl rfl rfl rfl trivial
def ti39 : TI := ⟨1, 8, .other, [.nilFunc]⟩
theorem tiok39 : TIok Tryd.prog 39 ti39 := TIok.of Tryd.type39 Tryd.underlying39 rfl rfl rfl rfl rfl rfl trivial
def ti40 : TI := ⟨1, 24, .slice 9, [(.slice none 0 0)]⟩
theorem tiok40 : TIok Tryd.prog 40 ti40 := TIok.of Tryd.type40 Tryd.underlying40 rfl rfl rfl rfl rfl rfl rfl
def ti41 : TI := ⟨1, 8, .other, [.nilFunc]⟩
theorem tiok41 : TIok Tryd.prog 41 ti41 := TIok.of Tryd.type41 Tryd.underlying41 rfl rfl rfl rfl rfl rfl trivial
def ti42 : TI := ⟨1, 8, .other, [.nilFunc]⟩
theorem tiok42 : TIok Tryd.prog 42 ti42 := TIok.of Tryd.type42 Tryd.underlying42 rfl rfl rfl rfl rfl rfl trivial
def ti43 : TI := ⟨1, 24, .slice 5, [(.slice none 0 0)]⟩
theorem tiok43 : TIok Tryd.prog 43 ti43 := TIok.of Tryd.type43 Tryd.underlying43 rfl rfl rfl rfl rfl rfl rfl
def ti44 : TI := ⟨1, 8, .other, [.nilFunc]⟩
theorem tiok44 : TIok Tryd.prog 44 ti44 := TIok.of Tryd.type44 Tryd.underlying44 rfl rfl rfl rfl rfl rfl trivial
def ti45 : TI := ⟨1, 8, .ptr 47, [(.pointer none)]⟩
theorem tiok45 : TIok Tryd.prog 45 ti45 := TIok.of Tryd.type45 Tryd.underlying45 rfl rfl rfl rfl rfl rfl rfl
def ti46 : TI := ⟨2, 32, .struct [(0, 45), (1, 43)], [(.pointer none), (.slice none 0 0)]⟩
theorem tiok46 : TIok Tryd.prog 46 ti46 := TIok.of Tryd.type46 Tryd.underlying46 rfl rfl rfl rfl rfl rfl ⟨_, rfl, rfl⟩
def ti47 : TI := ⟨2, 32, .struct [(0, 45), (1, 43)], [(.pointer none), (.slice none 0 0)]⟩
theorem tiok47 : TIok Tryd.prog 47 ti47 := TIok.of Tryd.type47 Tryd.underlying47 rfl rfl rfl rfl rfl rfl ⟨_, rfl, rfl⟩
def ti48 : TI := ⟨1, 8, .other, [.nilFunc]⟩
theorem tiok48 : TIok Tryd.prog 48 ti48 := TIok.of Tryd.type48 Tryd.underlying48 rfl rfl rfl rfl rfl rfl trivial
def ti49 : TI := ⟨1, 16, .other, [.nilIface]⟩
theorem tiok49 : TIok Tryd.prog 49 ti49 := TIok.of Tryd.type49 Tryd.underlying49 rfl rfl rfl rfl rfl rfl trivial
def ti53 : TI := ⟨1, 8, .other, [.nilFunc]⟩
theorem tiok53 : TIok Tryd.prog 53 ti53 := TIok.of Tryd.type53 Tryd.underlying53 rfl rfl rfl rfl rfl rfl trivial
def ti54 : TI := ⟨1, 8, .other, [.nilFunc]⟩
theorem tiok54 : TIok Tryd.prog 54 ti54 := TIok.of Tryd.type54 Tryd.underlying54 rfl rfl rfl rfl rfl rfl trivial
def ti55 : TI := ⟨1, 8, .other, [.nilFunc]⟩
theorem tiok55 : TIok Tryd.prog 55 ti55 := TIok.of Tryd.type55 Tryd.underlying55 rfl rfl rfl rfl rfl rfl trivial
def ti56 : TI := ⟨1, 8, .other, [.nilFunc]⟩
theorem tiok56 : TIok Tryd.prog 56 ti56 := TIok.of Tryd.type56 Tryd.underlying56 rfl rfl rfl rfl rfl rfl trivial
def ti57 : TI := ⟨1, 8, .other, [.nilFunc]⟩
theorem tiok57 : TIok Tryd.prog 57 ti57 := TIok.of Tryd.type57 Tryd.underlying57 rfl rfl rfl rfl rfl rfl trivial
def ti58 : TI := ⟨1, 8, .ptr 5, [(.pointer none)]⟩
theorem tiok58 : TIok Tryd.prog 58 ti58 := TIok.of Tryd.type58 Tryd.underlying58 rfl rfl rfl rfl rfl rfl rfl
def ti59 : TI := ⟨1, 8, .other, [.nilFunc]⟩
theorem tiok59 : TIok Tryd.prog 59 ti59 := TIok.of Tryd.type59 Tryd.underlying59 rfl rfl rfl rfl rfl rfl trivial
def ti60 : TI := ⟨1, 8, .other, [.nilFunc]⟩
theorem tiok60 : TIok Tryd.prog 60 ti60 := TIok.of Tryd.type60 Tryd.underlying60 rfl rfl rfl rfl rfl rfl trivial
def ti64 : TI := ⟨1, 8, .other, [.nilFunc]⟩
theorem tiok64 : TIok Tryd.prog 64 ti64 := TIok.of Tryd.type64 Tryd.underlying64 rfl rfl rfl rfl rfl rfl trivial
def ti65 : TI := ⟨1, 8, .other, [.nilFunc]⟩
theorem tiok65 : TIok Tryd.prog 65 ti65 := TIok.of Tryd.type65 Tryd.underlying65 rfl rfl rfl rfl rfl rfl trivial
def ti66 : TI := ⟨1, 8, .ptr 62, [(.pointer none)]⟩
theorem tiok66 : TIok Tryd.prog 66 ti66 := TIok.of Tryd.type66 Tryd.underlying66 rfl rfl rfl rfl rfl rfl rfl
def ti68 : TI := ⟨1, 8, .other, [.nilFunc]⟩
theorem tiok68 : TIok Tryd.prog 68 ti68 := TIok.of Tryd.type68 Tryd.underlying68 rfl rfl rfl rfl rfl rfl trivial
def ti69 : TI := ⟨1, 8, .other, [.nilFunc]⟩
theorem tiok69 : TIok Tryd.prog 69 ti69 := TIok.of Tryd.type69 Tryd.underlying69 rfl rfl rfl rfl rfl rfl trivial
def ti70 : TI := ⟨1, 8, .other, [.nilFunc]⟩
theorem tiok70 : TIok Tryd.prog 70 ti70 := TIok.of Tryd.type70 Tryd.underlying70 rfl rfl rfl rfl rfl rfl trivial
def ti72 : TI := ⟨1, 8, .other, [.nilFunc]⟩
theorem tiok72 : TIok Tryd.prog 72 ti72 := TIok.of Tryd.type72 Tryd.underlying72 rfl rfl rfl rfl rfl rfl trivial
def ti73 : TI := ⟨1, 8, .other, [.nilFunc]⟩
theorem tiok73 : TIok Tryd.prog 73 ti73 := TIok.of Tryd.type73 Tryd.underlying73 rfl rfl rfl rfl rfl rfl trivial
def ti74 : TI := ⟨1, 8, .other, [.nilFunc]⟩
theorem tiok74 : TIok Tryd.prog 74 ti74 := TIok.of Tryd.type74 Tryd.underlying74 rfl rfl rfl rfl rfl rfl trivial
def ti76 : TI := ⟨1, 8, .int .u64, [(.int .u64 0)]⟩
theorem tiok76 : TIok Tryd.prog 76 ti76 := TIok.of Tryd.type76 Tryd.underlying76 rfl rfl rfl rfl rfl rfl rfl
def ti77 : TI := ⟨2, 2, .struct [(0, 5), (1, 5)], [(.int .u8 0), (.int .u8 0)]⟩
theorem tiok77 : TIok Tryd.prog 77 ti77 := TIok.of Tryd.type77 Tryd.underlying77 rfl rfl rfl rfl rfl rfl ⟨_, rfl, rfl⟩
def ti78 : TI := ⟨2, 2, .struct [(0, 5), (1, 5)], [(.int .u8 0), (.int .u8 0)]⟩
theorem tiok78 : TIok Tryd.prog 78 ti78 := TIok.of Tryd.type78 Tryd.underlying78 rfl rfl rfl rfl rfl rfl ⟨_, rfl, rfl⟩
def ti80 : TI := ⟨1, 8, .other, [.nilFunc]⟩
theorem tiok80 : TIok Tryd.prog 80 ti80 := TIok.of Tryd.type80 Tryd.underlying80 rfl rfl rfl rfl rfl rfl trivial
def ti81 : TI := ⟨1, 8, .other, [.nilFunc]⟩
theorem tiok81 : TIok Tryd.prog 81 ti81 := TIok.of Tryd.type81 Tryd.underlying81 rfl rfl rfl rfl rfl rfl trivial
def ti82 : TI := ⟨1, 8, .other, [.nilFunc]⟩
theorem tiok82 : TIok Tryd.prog 82 ti82 := TIok.of Tryd.type82 Tryd.underlying82 rfl rfl rfl rfl rfl rfl trivial
def ti83 : TI := ⟨4, 40, .struct [(0, 17), (1, 17), (2, 17), (3, 9)], [(.pointer none), (.pointer none), (.pointer none), (.string ⟨⟨[]⟩⟩)]⟩
theorem tiok83 : TIok Tryd.prog 83 ti83 := TIok.of Tryd.type83 Tryd.underlying83 rfl rfl rfl rfl rfl rfl ⟨_, rfl, rfl⟩
def ti84 : TI := ⟨4, 40, .struct [(0, 17), (1, 17), (2, 17), (3, 9)], [(.pointer none), (.pointer none), (.pointer none), (.string ⟨⟨[]⟩⟩)]⟩
theorem tiok84 : TIok Tryd.prog 84 ti84 := TIok.of Tryd.type84 Tryd.underlying84 rfl rfl rfl rfl rfl rfl ⟨_, rfl, rfl⟩
def ti86 : TI := ⟨0, 0, .struct [(0, 85)], []⟩
theorem tiok86 : TIok Tryd.prog 86 ti86 := TIok.of Tryd.type86 Tryd.underlying86 rfl rfl rfl rfl rfl rfl ⟨_, rfl, rfl⟩
def ti87 : TI := ⟨0, 0, .struct [(0, 85)], []⟩
theorem tiok87 : TIok Tryd.prog 87 ti87 := TIok.of Tryd.type87 Tryd.underlying87 rfl rfl rfl rfl rfl rfl ⟨_, rfl, rfl⟩
def ti88 : TI := ⟨1, 8, .other, [.nilFunc]⟩
theorem tiok88 : TIok Tryd.prog 88 ti88 := TIok.of Tryd.type88 Tryd.underlying88 rfl rfl rfl rfl rfl rfl trivial
def ti89 : TI := ⟨1, 4, .int .u32, [(.int .u32 0)]⟩
theorem tiok89 : TIok Tryd.prog 89 ti89 := TIok.of Tryd.type89 Tryd.underlying89 rfl rfl rfl rfl rfl rfl rfl
def ti90 : TI := ⟨1, 1, .int .u8, [(.int .u8 0)]⟩
theorem tiok90 : TIok Tryd.prog 90 ti90 := TIok.of Tryd.type90 Tryd.underlying90 rfl rfl rfl rfl rfl rfl rfl
def ti91 : TI := ⟨1, 1, .int .u8, [(.int .u8 0)]⟩
theorem tiok91 : TIok Tryd.prog 91 ti91 := TIok.of Tryd.type91 Tryd.underlying91 rfl rfl rfl rfl rfl rfl rfl
def ti92 : TI := ⟨1, 8, .other, [.nilFunc]⟩
theorem tiok92 : TIok Tryd.prog 92 ti92 := TIok.of Tryd.type92 Tryd.underlying92 rfl rfl rfl rfl rfl rfl trivial
def ti93 : TI := ⟨1, 4, .int .i32, [(.int .i32 0)]⟩
theorem tiok93 : TIok Tryd.prog 93 ti93 := TIok.of Tryd.type93 Tryd.underlying93 rfl rfl rfl rfl rfl rfl rfl
def ti94 : TI := ⟨1, 4, .int .i32, [(.int .i32 0)]⟩
theorem tiok94 : TIok Tryd.prog 94 ti94 := TIok.of Tryd.type94 Tryd.underlying94 rfl rfl rfl rfl rfl rfl rfl
def ti95 : TI := ⟨11, 48, .struct [(0, 12), (1, 12), (2, 89), (3, 90), (4, 5), (5, 5), (6, 91), (7, 92), (8, 58), (9, 93), (10, 94)], [(.int .u64 0), (.int .u64 0), (.int .u32 0), (.int .u8 0), (.int .u8 0), (.int .u8 0), (.int .u8 0), .nilFunc, (.pointer none), (.int .i32 0), (.int .i32 0)]⟩
theorem tiok95 : TIok Tryd.prog 95 ti95 := TIok.of Tryd.type95 Tryd.underlying95 rfl rfl rfl rfl rfl rfl ⟨_, rfl, rfl⟩
def ti96 : TI := ⟨11, 48, .struct [(0, 12), (1, 12), (2, 89), (3, 90), (4, 5), (5, 5), (6, 91), (7, 92), (8, 58), (9, 93), (10, 94)], [(.int .u64 0), (.int .u64 0), (.int .u32 0), (.int .u8 0), (.int .u8 0), (.int .u8 0), (.int .u8 0), .nilFunc, (.pointer none), (.int .i32 0), (.int .i32 0)]⟩
theorem tiok96 : TIok Tryd.prog 96 ti96 := TIok.of Tryd.type96 Tryd.underlying96 rfl rfl rfl rfl rfl rfl ⟨_, rfl, rfl⟩
def tys : Tr := (.node 45 ti45 (.node 23 ti23 (.node 12 ti12 (.node 6 ti6 (.node 3 ti3 (.node 2 ti2 (.node 1 ti1 .nil .nil) .nil) (.node 5 ti5 (.node 4 ti4 .nil .nil) .nil)) (.node 9 ti9 (.node 8 ti8 (.node 7 ti7 .nil .nil) .nil) (.node 11 ti11 .nil .nil))) (.node 18 ti18 (.node 16 ti16 (.node 15 ti15 (.node 13 ti13 .nil .nil) .nil) (.node 17 ti17 .nil .nil)) (.node 21 ti21 (.node 20 ti20 (.node 19 ti19 .nil .nil) .nil) (.node 22 ti22 .nil .nil)))) (.node 35 ti35 (.node 30 ti30 (.node 27 ti27 (.node 26 ti26 (.node 25 ti25 .nil .nil) .nil) (.node 29 ti29 (.node 28 ti28 .nil .nil) .nil)) (.node 33 ti33 (.node 32 ti32 (.node 31 ti31 .nil .nil) .nil) (.node 34 ti34 .nil .nil))) (.node 40 ti40 (.node 38 ti38 (.node 37 ti37 (.node 36 ti36 .nil .nil) .nil) (.node 39 ti39 .nil .nil)) (.node 43 ti43 (.node 42 ti42 (.node 41 ti41 .nil .nil) .nil) (.node 44 ti44 .nil .nil))))) (.node 74 ti74 (.node 59 ti59 (.node 54 ti54 (.node 48 ti48 (.node 47 ti47 (.node 46 ti46 .nil .nil) .nil) (.node 53 ti53 (.node 49 ti49 .nil .nil) .nil)) (.node 57 ti57 (.node 56 ti56 (.node 55 ti55 .nil .nil) .nil) (.node 58 ti58 .nil .nil))) (.node 68 ti68 (.node 65 ti65 (.node 64 ti64 (.node 60 ti60 .nil .nil) .nil) (.node 66 ti66 .nil .nil)) (.node 72 ti72 (.node 70 ti70 (.node 69 ti69 .nil .nil) .nil) (.node 73 ti73 .nil .nil)))) (.node 87 ti87 (.node 81 ti81 (.node 78 ti78 (.node 77 ti77 (.node 76 ti76 .nil .nil) .nil) (.node 80 ti80 .nil .nil)) (.node 84 ti84 (.node 83 ti83 (.node 82 ti82 .nil .nil) .nil) (.node 86 ti86 .nil .nil))) (.node 92 ti92 (.node 90 ti90 (.node 89 ti89 (.node 88 ti88 .nil .nil) .nil) (.node 91 ti91 .nil .nil)) (.node 95 ti95 (.node 94 ti94 (.node 93 ti93 .nil .nil) .nil) (.node 96 ti96 .nil .nil))))))
def Θ : Nat → Option TI := tys.get
theorem hΘ : ThOk Tryd.prog Θ := Tr.ok (t := tys) ⟨tiok45, ⟨tiok23, ⟨tiok12, ⟨tiok6, ⟨tiok3, ⟨tiok2, ⟨tiok1, trivial, trivial⟩, trivial⟩, ⟨tiok5, ⟨tiok4, trivial, trivial⟩, trivial⟩⟩, ⟨tiok9, ⟨tiok8, ⟨tiok7, trivial, trivial⟩, trivial⟩, ⟨tiok11, trivial, trivial⟩⟩⟩, ⟨tiok18, ⟨tiok16, ⟨tiok15, ⟨tiok13, trivial, trivial⟩, trivial⟩, ⟨tiok17, trivial, trivial⟩⟩, ⟨tiok21, ⟨tiok20, ⟨tiok19, trivial, trivial⟩, trivial⟩, ⟨tiok22, trivial, trivial⟩⟩⟩⟩, ⟨tiok35, ⟨tiok30, ⟨tiok27, ⟨tiok26, ⟨tiok25, trivial, trivial⟩, trivial⟩, ⟨tiok29, ⟨tiok28, trivial, trivial⟩, trivial⟩⟩, ⟨tiok33, ⟨tiok32, ⟨tiok31, trivial, trivial⟩, trivial⟩, ⟨tiok34, trivial, trivial⟩⟩⟩, ⟨tiok40, ⟨tiok38, ⟨tiok37, ⟨tiok36, trivial, trivial⟩, trivial⟩, ⟨tiok39, trivial, trivial⟩⟩, ⟨tiok43, ⟨tiok42, ⟨tiok41, trivial, trivial⟩, trivial⟩, ⟨tiok44, trivial, trivial⟩⟩⟩⟩⟩, ⟨tiok74, ⟨tiok59, ⟨tiok54, ⟨tiok48, ⟨tiok47, ⟨tiok46, trivial, trivial⟩, trivial⟩, ⟨tiok53, ⟨tiok49, trivial, trivial⟩, trivial⟩⟩, ⟨tiok57, ⟨tiok56, ⟨tiok55, trivial, trivial⟩, trivial⟩, ⟨tiok58, trivial, trivial⟩⟩⟩, ⟨tiok68, ⟨tiok65, ⟨tiok64, ⟨tiok60, trivial, trivial⟩, trivial⟩, ⟨tiok66, trivial, trivial⟩⟩, ⟨tiok72, ⟨tiok70, ⟨tiok69, trivial, trivial⟩, trivial⟩, ⟨tiok73, trivial, trivial⟩⟩⟩⟩, ⟨tiok87, ⟨tiok81, ⟨tiok78, ⟨tiok77, ⟨tiok76, trivial, trivial⟩, trivial⟩, ⟨tiok80, trivial, trivial⟩⟩, ⟨tiok84, ⟨tiok83, ⟨tiok82, trivial, trivial⟩, trivial⟩, ⟨tiok86, trivial, trivial⟩⟩⟩, ⟨tiok92, ⟨tiok90, ⟨tiok89, ⟨tiok88, trivial, trivial⟩, trivial⟩, ⟨tiok91, trivial, trivial⟩⟩, ⟨tiok95, ⟨tiok94, ⟨tiok93, trivial, trivial⟩, trivial⟩, ⟨tiok96, trivial, trivial⟩⟩⟩⟩⟩⟩

end Go.Proofs.YtmigjhdgiopngaaDoor
namespace Go.Proofs.YtmigjhdgiopngaaDoor
open Go Go.Proofs.YtmigjhdgiopngaaDoor.Vs

/-! #### bytes -/
def isBlank (x : Int) : Bool := x == 32 || x == 9
def isLetter (x : Int) : Bool := (decide (97 ≤ x) && decide (x ≤ 122)) || (decide (65 ≤ x) && decide (x ≤ 90))
def isDigit (x : Int) : Bool := decide (48 ≤ x) && decide (x ≤ 57)
def isVisible (x : Int) : Bool := (decide (32 ≤ x) && decide (x ≤ 126)) || x == 9
def tokenMarks : List UInt8 := [33, 35, 36, 37, 38, 39, 42, 43, 45, 46, 94, 95, 124, 126, 96]
def isMark (x : Int) : Bool := tokenMarks.any fun b => x == (b.toNat : Int)
def isToken (x : Int) : Bool := isLetter x || isDigit x || isMark x

theorem l1Blank_c (x : Int) : VC Tryd.prog 34 [.val (.int .u8 x)] (.val (.bool (isBlank x))) := by
  refine VC.intro hΘ Tryd.func34 rfl rfl Tryd.ntmps34 rfl rfl rfl fun B hB => ?_
  (conv => whnf)
  repeat' first
    | (refine brm_intro (fun _ => ?_) (fun _ => ?_) <;> (conv => whnf))
    | refine vfin_bool (Bool.eq_iff_iff.2 ?_)
  all_goals (simp [isBlank] at *; try omega)
theorem isDigit_c (x : Int) : VC Tryd.prog 38 [.val (.int .u8 x)] (.val (.bool (isDigit x))) := by
  refine VC.intro hΘ Tryd.func38 rfl rfl Tryd.ntmps38 rfl rfl rfl fun B hB => ?_
  (conv => whnf)
  repeat' first
    | (refine brm_intro (fun _ => ?_) (fun _ => ?_) <;> (conv => whnf))
    | refine vfin_bool (Bool.eq_iff_iff.2 ?_)
  all_goals (simp [isDigit] at *; try omega)
theorem isVisible_c (x : Int) : VC Tryd.prog 40 [.val (.int .u8 x)] (.val (.bool (isVisible x))) := by
  refine VC.intro hΘ Tryd.func40 rfl rfl Tryd.ntmps40 rfl rfl rfl fun B hB => ?_
  (conv => whnf)
  repeat' first
    | (refine brm_intro (fun _ => ?_) (fun _ => ?_) <;> (conv => whnf))
    | refine vfin_bool (Bool.eq_iff_iff.2 ?_)
  all_goals (simp [isVisible] at *; try omega)
theorem isLetter_c (x : Int) : VC Tryd.prog 37 [.val (.int .u8 x)] (.val (.bool (isLetter x))) := by
  refine VC.intro hΘ Tryd.func37 rfl rfl Tryd.ntmps37 rfl rfl rfl fun B hB => ?_
  (conv => whnf)
  repeat' first
    | (refine brm_intro (fun _ => ?_) (fun _ => ?_) <;> (conv => whnf))
    | refine vfin_bool (Bool.eq_iff_iff.2 ?_)
  all_goals (simp [isLetter] at *; try omega)
theorem l1Token_c (x : Int) : VC Tryd.prog 33 [.val (.int .u8 x)] (.val (.bool (isToken x))) := by
  refine VC.intro' hΘ Tryd.func33 rfl rfl Tryd.ntmps33 rfl rfl rfl fun B hB => ?_
  refine vsem_seq (vsem_code hΘ hB ?_)
  (conv => whnf)
  refine vsem_seq (vsem_block ?_)
  refine vsem_seq (vsem_cut (ι := Unit) (fun _ => ⟨[(0, .val (.int .u8 x)), (5, .val (.bool (isLetter x || isDigit x)))], []⟩) (fun _ => True) (vsem_code hΘ hB ?_) ?_)
  · (conv => whnf)
    repeat' refine brm_intro (fun _ => ?_) (fun _ => ?_) <;> (conv => whnf)
    all_goals refine ⟨(), ⟨⟨.inr rfl, .inr (vbool_eq (Bool.eq_iff_iff.2 ?_)), trivial⟩, trivial⟩, trivial⟩
    all_goals (simp [isLetter, isDigit] at *; try omega)
  intro _ _
  refine vsem_code hΘ hB ?_
  (conv => whnf)
  refine brm_intro (fun h => ?_) (fun h => ?_) <;> (conv => whnf)
  · refine vfin_bool ?_
    rw [isToken, h]; rfl
  refine vsem_code hΘ hB ?_
  (conv => whnf)
  have hmk : [[C.v (.int .u8 33)], [C.v (.int .u8 35)], [C.v (.int .u8 36)], [C.v (.int .u8 37)], [C.v (.int .u8 38)], [C.v (.int .u8 39)], [C.v (.int .u8 42)], [C.v (.int .u8 43)], [C.v (.int .u8 45)], [C.v (.int .u8 46)], [C.v (.int .u8 94)], [C.v (.int .u8 95)], [C.v (.int .u8 124)], [C.v (.int .u8 126)], [C.v (.int .u8 96)]] = bytesC tokenMarks := by simp [bytesC, tokenMarks]
  have hlen : (bytesC tokenMarks).length = 15 := rfl
  refine vloop_intro hΘ hB (ι := Nat) (fun i => ⟨[(0, .val (.int .u8 x)), (28, .own 1 (bytesC tokenMarks)), (29, .hd (.sl 28 0 0)), (30, .val (.int .i64 15)), (31, .val (.int .i64 i))], []⟩)
    (fun i => i ≤ 15 ∧ (tokenMarks.drop i).any (fun b => x == (b.toNat : Int)) = isMark x) (fun i => 15 - i) 0 ⟨⟨.inr rfl, .inr (vown_eq hmk), .inr rfl, .inr rfl, .inr rfl, trivial⟩, trivial⟩ ⟨by omega, rfl⟩ ?_
  rintro i ⟨k1, k2⟩
  (conv => whnf)
  refine brm_intro (fun h' => ?_) (fun h' => ?_) <;> simp only [decide_eq_true_eq, decide_eq_false_iff_not] at h' <;> (conv => whnf)
  · have hi : i < tokenMarks.length := by show i < 15; omega
    refine vix_intro i rfl (by rw [hlen]; exact hi) ?_
    (conv => whnf)
    rw [List.drop_eq_getElem_cons hi] at k2
    have hg : tokenMarks[i]? = some tokenMarks[i] := List.getElem?_eq_getElem hi
    generalize tokenMarks[i] = b at k2 hg
    refine vat_intro i [C.v (.int .u8 b.toNat)] rfl (by rw [bytesC, List.getElem?_map, hg]; rfl) ?_
    (conv => whnf)
    refine brm_intro (fun h2 => ?_) (fun h2 => ?_) <;> (conv => whnf)
    · refine vfin_bool ?_
      simp only [List.any_cons] at k2
      have : (x == (b.toNat : Int)) = true := by simp at h2 ⊢; omega
      rw [this, Bool.true_or] at k2
      rw [isToken, ← k2, Bool.or_true]
    · simp only [List.any_cons] at k2
      have : (x == (b.toNat : Int)) = false := by simp at h2 ⊢; omega
      rw [this, Bool.false_or] at k2
      exact ⟨i + 1, ⟨⟨.inr rfl, .inr rfl, .inr rfl, .inr rfl, .inr (vint_eq (by simp (disch := omega) only [wrap_i64]; rfl)), trivial⟩, trivial⟩, ⟨by omega, k2⟩, by omega⟩
  · refine vfin_bool ?_
    have : tokenMarks.drop i = [] := List.drop_eq_nil_of_le (by show 15 ≤ i; omega)
    rw [this] at k2
    rw [isToken, h, ← k2]; rfl
end Go.Proofs.YtmigjhdgiopngaaDoor
namespace Go.Proofs.YtmigjhdgiopngaaDoor
open Go Go.Proofs.YtmigjhdgiopngaaDoor.Vs

/-! #### texts -/
theorem byteAt_get {l : List UInt8} {i : Nat} {b : UInt8} (h : l[i]? = some b) : byteAt l i = (b.toNat : Int) := by
  simp [byteAt, List.getD_eq_getElem?_getD, h]
def tokenOk (l : List UInt8) : Bool := (decide (1 ≤ l.length) && decide (l.length ≤ 64)) && l.all fun b => isToken b.toNat
def visibleOk (l : List UInt8) : Bool := decide (l.length ≤ 400) && l.all fun b => isVisible b.toNat
def lowerB (b : UInt8) : UInt8 := if 65 ≤ b.toNat ∧ b.toNat ≤ 90 then b + 32 else b
def lower (l : List UInt8) : List UInt8 := l.map lowerB
def blankB (b : UInt8) : Bool := isBlank b.toNat
def trimL (l : List UInt8) : List UInt8 := l.dropWhile blankB
def trimR (l : List UInt8) : List UInt8 := (l.reverse.dropWhile blankB).reverse
def trimmed (l : List UInt8) : List UInt8 := trimR (trimL l)

theorem tokenOkS_c (s : ByteArray) (hs : (sb s).length ≤ 140737488355328) : VC Tryd.prog 23 [.val (.string s)] (.val (.bool (tokenOk (sb s)))) := by
  refine VC.intro hΘ Tryd.func23 rfl rfl Tryd.ntmps23 rfl rfl rfl fun B hB => ?_
  generalize hl : sb s = l at *
  (conv => whnf)
  refine brm_intro (fun h => ?_) (fun h => ?_) <;> (conv => whnf) <;> rw [hl] at h <;> simp only [decide_eq_true_eq, decide_eq_false_iff_not] at h
  · refine vfin_bool ?_
    have : ¬ 1 ≤ l.length := by omega
    simp [tokenOk, this]
  refine brm_intro (fun h' => ?_) (fun h' => ?_) <;> (conv => whnf) <;> rw [hl] at h' <;> simp only [decide_eq_true_eq, decide_eq_false_iff_not] at h'
  · refine vfin_bool ?_
    have : ¬ l.length ≤ 64 := by omega
    simp [tokenOk, this]
  have hT : tokenOk l = l.all fun b => isToken b.toNat := by
    have h1 : 1 ≤ l.length := by omega
    have h2 : l.length ≤ 64 := by omega
    simp [tokenOk, h1, h2]
  rw [hT]
  refine vloop_intro hΘ hB (ι := Nat) (fun i => ⟨[(0, .val (.string s)), (3, .val (.int .i64 i))], []⟩) (fun i => i ≤ l.length ∧ (l.drop i).all (fun b => isToken b.toNat) = l.all fun b => isToken b.toNat) (fun i => l.length - i) 0
    ⟨⟨.inr rfl, .inr rfl, trivial⟩, trivial⟩ ⟨by omega, rfl⟩ ?_
  rintro i ⟨k1, k2⟩
  (conv => whnf)
  refine brm_intro (fun h => ?_) (fun h => ?_) <;> (conv => whnf) <;> rw [hl] at h <;> simp only [decide_eq_true_eq, decide_eq_false_iff_not] at h
  · have hi : i < l.length := by omega
    refine vix_intro i rfl (by rw [hl]; exact hi) ?_
    rw [List.drop_eq_getElem_cons hi, List.all_cons] at k2
    have hg := byteAt_get (List.getElem?_eq_getElem hi)
    generalize l[i] = b at k2 hg
    (conv => whnf)
    refine vcallS_intro0 rfl (l1Token_c (byteAt (sb s) i)) (f1 (av rfl) f0) ?_
    (conv => whnf)
    rw [hl, hg]
    refine brm_intro (fun h2 => ?_) (fun h2 => ?_) <;> (conv => whnf)
    · refine vfin_bool ?_
      simp only [Bool.not_eq_true'] at h2
      rw [h2, Bool.false_and] at k2
      exact k2
    · simp only [Bool.not_eq_false'] at h2
      rw [h2, Bool.true_and] at k2
      exact ⟨i + 1, ⟨⟨.inr rfl, .inr (vint_eq (by simp (disch := omega) only [wrap_i64]; rfl)), trivial⟩, trivial⟩, ⟨by omega, k2⟩, by omega⟩
  · refine vfin_bool ?_
    have : l.drop i = [] := List.drop_eq_nil_of_le (by omega)
    rw [this] at k2
    exact k2
end Go.Proofs.YtmigjhdgiopngaaDoor
namespace Go.Proofs.YtmigjhdgiopngaaDoor
open Go Go.Proofs.YtmigjhdgiopngaaDoor.Vs

theorem visibleOkS_c (s : ByteArray) (hs : (sb s).length ≤ 140737488355328) : VC Tryd.prog 24 [.val (.string s)] (.val (.bool (visibleOk (sb s)))) := by
  refine VC.intro hΘ Tryd.func24 rfl rfl Tryd.ntmps24 rfl rfl rfl fun B hB => ?_
  generalize hl : sb s = l at *
  (conv => whnf)
  refine brm_intro (fun h => ?_) (fun h => ?_) <;> (conv => whnf) <;> rw [hl] at h <;> simp only [decide_eq_true_eq, decide_eq_false_iff_not] at h
  · refine vfin_bool ?_
    have : ¬ l.length ≤ 400 := by omega
    simp [visibleOk, this]
  have hT : visibleOk l = l.all fun b => isVisible b.toNat := by
    have h2 : l.length ≤ 400 := by omega
    simp [visibleOk, h2]
  rw [hT]
  refine vloop_intro hΘ hB (ι := Nat) (fun i => ⟨[(0, .val (.string s)), (3, .val (.int .i64 i))], []⟩) (fun i => i ≤ l.length ∧ (l.drop i).all (fun b => isVisible b.toNat) = l.all fun b => isVisible b.toNat) (fun i => l.length - i) 0
    ⟨⟨.inr rfl, .inr rfl, trivial⟩, trivial⟩ ⟨by omega, rfl⟩ ?_
  rintro i ⟨k1, k2⟩
  (conv => whnf)
  refine brm_intro (fun h => ?_) (fun h => ?_) <;> (conv => whnf) <;> rw [hl] at h <;> simp only [decide_eq_true_eq, decide_eq_false_iff_not] at h
  · have hi : i < l.length := by omega
    have hi' : i < (sb s).length := by rw [hl]; exact hi
    rw [List.drop_eq_getElem_cons hi, List.all_cons] at k2
    have hg := byteAt_get (List.getElem?_eq_getElem hi)
    generalize l[i] = b at k2 hg
    rw [← hl] at hg
    repeat' first
      | (refine vix_intro i rfl hi' ?_; (conv => whnf))
      | (refine brm_intro (fun _ => ?_) (fun _ => ?_) <;> (conv => whnf))
    all_goals (simp only [hg, decide_eq_true_eq, decide_eq_false_iff_not, bne_iff_ne, ne_eq, bne_eq_false_iff_eq] at *)
    all_goals first
      | (have hv : isVisible b.toNat = false := by (simp [isVisible]; omega)
         refine vfin_bool ?_
         rw [hv, Bool.false_and] at k2; exact k2)
      | (have hv : isVisible b.toNat = true := by (simp [isVisible]; omega)
         rw [hv, Bool.true_and] at k2
         exact ⟨i + 1, ⟨⟨.inr rfl, .inr (vint_eq (by simp (disch := omega) only [wrap_i64]; rfl)), trivial⟩, trivial⟩, ⟨by omega, k2⟩, by omega⟩)
  · refine vfin_bool ?_
    have : l.drop i = [] := List.drop_eq_nil_of_le (by omega)
    rw [this] at k2
    exact k2
theorem trimmedS_c (s : ByteArray) (hs : (sb s).length ≤ 140737488355328) : VC Tryd.prog 25 [.val (.string s)] (.val (.string (bs (trimmed (sb s))))) := by
  refine VC.intro' hΘ Tryd.func25 rfl rfl Tryd.ntmps25 rfl rfl rfl fun B hB => ?_
  refine vsem_seq (vsem_code hΘ hB ?_)
  (conv => whnf)
  refine vsem_seq (vsem_cut (ι := Unit) (fun _ => ⟨[(0, .val (.string (bs (trimL (sb s)))))], []⟩) (fun _ => True) (vsem_code hΘ hB ?_) ?_)
  · (conv => whnf)
    refine vloop_intro hΘ hB (ι := List UInt8) (fun l => ⟨[(0, .val (.string (bs l)))], []⟩) (fun l => l.length ≤ 140737488355328 ∧ trimL l = trimL (sb s)) (fun l => l.length) (sb s)
      ⟨⟨.inr rfl, trivial⟩, trivial⟩ ⟨hs, rfl⟩ ?_
    rintro (_ | ⟨b, r⟩) ⟨k1, k2⟩ <;> (conv => whnf)
    · exact ⟨(), ⟨⟨.inr (vstr_eq (congrArg bs k2)), trivial⟩, trivial⟩, trivial⟩
    · refine vix_intro 0 rfl (Nat.succ_pos _) ?_
      (conv => whnf)
      refine vcallS_intro0 rfl (l1Blank_c b.toNat) (f1 (av rfl) f0) ?_
      (conv => whnf)
      refine brm_intro (fun h => ?_) (fun h => ?_) <;> (conv => whnf)
      · refine vrange_intro 1 (r.length + 1) rfl rfl (by omega) (Nat.le_refl _) ?_
        (conv => whnf)
        refine ⟨r, ⟨⟨.inr (vstr_eq (congrArg bs ?_)), trivial⟩, trivial⟩, ⟨by simp at k1; omega, ?_⟩, by simp⟩
        · show (r.take (r.length + 1 - 1)) = r
          simp
        · rw [← k2]
          have hb : blankB b = true := h
          simp [trimL, hb]
      · refine ⟨(), ⟨⟨.inr (vstr_eq (congrArg bs ?_)), trivial⟩, trivial⟩, trivial⟩
        rw [← k2]
        have hb : blankB b = false := h
        show b :: r = _
        simp [trimL, hb]
  intro _ _
  refine vsem_code hΘ hB ?_
  (conv => whnf)
  have htl : (trimL (sb s)).length ≤ 140737488355328 := Nat.le_trans (List.dropWhile_sublist _).length_le hs
  refine vloop_intro hΘ hB (ι := List UInt8) (fun m => ⟨[(0, .val (.string (bs m.reverse)))], []⟩) (fun m => m.length ≤ 140737488355328 ∧ m.dropWhile blankB = (trimL (sb s)).reverse.dropWhile blankB) (fun m => m.length) (trimL (sb s)).reverse
    ⟨⟨.inr (vstr_eq (congrArg bs (List.reverse_reverse _).symm)), trivial⟩, trivial⟩ ⟨by simpa using htl, rfl⟩ ?_
  rintro m ⟨k1, k2⟩
  (conv => whnf)
  refine brm_intro (fun h => ?_) (fun h => ?_) <;> (conv => whnf) <;> simp only [sb_bs] at h
  · match m, h, k1, k2 with
    | [], h, _, _ => exact absurd h (by decide)
    | b :: r, _, k1, k2 =>
      have hlen : (sb (bs (b :: r).reverse)).length = r.length + 1 := by rw [sb_bs]; simp
      have hw : IntKind.i64.wrap (((sb (bs (b :: r).reverse)).length : Int) - 1) = (r.length : Int) := by
        rw [hlen]; simp at k1; rw [wrap_i64 (by omega) (by omega)]; omega
      refine vix_intro r.length hw (by rw [hlen]; omega) ?_
      have hb : byteAt (sb (bs (b :: r).reverse)) r.length = (b.toNat : Int) := byteAt_get (by rw [sb_bs]; simp)
      (conv => whnf)
      refine vcallS_intro0 rfl (l1Blank_c (byteAt (sb (bs (b :: r).reverse)) r.length)) (f1 (av rfl) f0) ?_
      (conv => whnf)
      rw [hb]
      refine brm_intro (fun h => ?_) (fun h => ?_) <;> (conv => whnf)
      · refine vrange_intro 0 r.length rfl hw (by omega) (by rw [hlen]; omega) ?_
        (conv => whnf)
        refine ⟨r, ⟨⟨.inr (vstr_eq (congrArg bs ?_)), trivial⟩, trivial⟩, ⟨by simp at k1; omega, ?_⟩, by simp⟩
        · rw [sb_bs]; simp
        · rw [← k2]
          have hb : blankB b = true := h
          simp [hb]
      · refine vfin_str (congrArg bs ?_)
        have hb : blankB b = false := h
        rw [trimmed, trimR, ← k2]
        simp [hb]
  · refine vfin_str (congrArg bs ?_)
    match m, h, k2 with
    | b :: r, h, _ => exfalso; simp at h; have := congrArg List.length h; simp [sb] at this
    | [], _, k2 => rw [trimmed, trimR, ← k2]; rfl
end Go.Proofs.YtmigjhdgiopngaaDoor
namespace Go.Proofs.YtmigjhdgiopngaaDoor
open Go Go.Proofs.YtmigjhdgiopngaaDoor.Vs

theorem lower_step {l : List UInt8} {i : Nat} {b : UInt8} (h : l[i]? = some b) : (lower (l.take i) ++ l.drop i).set i (lowerB b) = lower (l.take (i + 1)) ++ l.drop (i + 1) := by
  have hi := (List.getElem?_eq_some_iff.1 h).1
  have hb := (List.getElem?_eq_some_iff.1 h).2
  rw [List.drop_eq_getElem_cons hi, List.take_succ_eq_append_getElem hi]
  have hlen : (lower (l.take i)).length = i := by simp [lower]; omega
  rw [List.set_append_right _ _ (by omega), hlen, Nat.sub_self, List.set_cons_zero]
  simp [lower, hb]
theorem lower_id {l : List UInt8} {i : Nat} {b : UInt8} (h : l[i]? = some b) (hb : lowerB b = b) : lower (l.take i) ++ l.drop i = lower (l.take (i + 1)) ++ l.drop (i + 1) := by
  rw [← lower_step h, hb]
  have hi := (List.getElem?_eq_some_iff.1 h).1
  have hlen : (lower (l.take i)).length = i := by simp [lower]; omega
  apply List.ext_getElem?
  intro k
  rw [List.getElem?_set]
  split
  · rename_i e
    subst e
    rw [if_pos (by simp [hlen]; omega), List.getElem?_append_right (by omega), hlen, Nat.sub_self, List.getElem?_drop, Nat.add_zero]
    exact h
  · rfl
theorem lower_at {l : List UInt8} {i : Nat} {b : UInt8} (h : l[i]? = some b) : (lower (l.take i) ++ l.drop i)[i]? = some b := by
  have hi := (List.getElem?_eq_some_iff.1 h).1
  have hlen : (lower (l.take i)).length = i := by simp [lower]; omega
  rw [List.getElem?_append_right (by omega), hlen, Nat.sub_self, List.getElem?_drop, Nat.add_zero]; exact h
theorem bytesC_at {l : List UInt8} {i : Nat} {b : UInt8} (h : l[i]? = some b) : (bytesC l)[i]? = some [C.v (.int .u8 b.toNat)] := by
  rw [bytesC, List.getElem?_map, h]; rfl
theorem bytesC_set {l : List UInt8} {i : Nat} {b : UInt8} : (bytesC l).set i [C.v (.int .u8 b.toNat)] = bytesC (l.set i b) := by
  rw [bytesC, bytesC, List.map_set]
theorem bytesC_len {l : List UInt8} : (bytesC l).length = l.length := by simp [bytesC]

theorem lowerB_id {b : UInt8} (h : ¬ (65 ≤ b.toNat ∧ b.toNat ≤ 90)) : lowerB b = b := by rw [lowerB, if_neg h]
theorem lowerB_up {b : UInt8} (h : 65 ≤ b.toNat) (h' : b.toNat ≤ 90) : ((lowerB b).toNat : Int) = (b.toNat : Int) + 32 := by
  rw [lowerB, if_pos ⟨h, h'⟩, UInt8.toNat_add]
  have : (32 : UInt8).toNat = 32 := rfl
  rw [this]
  omega
theorem lowerS_c (s : ByteArray) (hs : (sb s).length ≤ 140737488355328) : VC Tryd.prog 17 [.val (.string s)] (.val (.string (bs (lower (sb s))))) := by
  refine VC.intro hΘ Tryd.func17 rfl rfl Tryd.ntmps17 rfl rfl rfl fun B hB => ?_
  (conv => whnf)
  refine vreq_intro hs ?_
  (conv => whnf)
  generalize hl : sb s = l at *
  refine vloop_intro hΘ hB (ι := Nat) (fun i => ⟨[(3, .own 1 (bytesC (lower (l.take i) ++ l.drop i))), (4, .val (.int .i64 i))], []⟩) (fun i => i ≤ l.length) (fun i => l.length - i) 0
    ⟨⟨.inr rfl, .inr rfl, trivial⟩, trivial⟩ (Nat.zero_le _) ?_
  rintro i k1
  have hlen : (bytesC (lower (l.take i) ++ l.drop i)).length = l.length := by rw [bytesC_len]; simp [lower]; omega
  (conv => whnf)
  refine brm_intro (fun h => ?_) (fun h => ?_) <;> (conv => whnf) <;> rw [hlen] at h <;> simp only [decide_eq_true_eq, decide_eq_false_iff_not] at h
  · have hi : i < l.length := by omega
    have hg : l[i]? = some l[i] := List.getElem?_eq_getElem hi
    generalize l[i] = b at hg
    have hat := bytesC_at (lower_at hg)
    have hlt : i < (bytesC (lower (l.take i) ++ l.drop i)).length := by omega
    repeat' first
      | (refine vix_intro i rfl hlt ?_; (conv => whnf))
      | (refine vat_intro i _ rfl hat ?_; (conv => whnf))
      | (refine brm_intro (fun _ => ?_) (fun _ => ?_) <;> (conv => whnf))
    all_goals (simp only [decide_eq_true_eq, decide_eq_false_iff_not] at *)
    all_goals first
      | (have hb : lowerB b = b := lowerB_id (by omega)
         exact ⟨i + 1, ⟨⟨.inr (vown_eq (congrArg bytesC (lower_id hg hb))), .inr (vint_eq (by simp (disch := omega) only [wrap_i64]; rfl)), trivial⟩, trivial⟩, hi, by omega⟩)
      | (have hb := lowerB_up (b := b) (by omega) (by omega)
         refine ⟨i + 1, ⟨⟨.inr (vown_eq ?_), .inr (vint_eq (by simp (disch := omega) only [wrap_i64]; rfl)), trivial⟩, trivial⟩, hi, by omega⟩
         show (bytesC _).set i [C.v (.int .u8 (IntKind.u8.wrap ((b.toNat : Int) + 32)))] = _
         rw [wrap_u8 (by omega) (by omega), ← hb, bytesC_set, lower_step hg])
  · refine vbytes_intro _ rfl ?_
    (conv => whnf)
    refine vfin_str (congrArg bs ?_)
    have : i = l.length := by omega
    subst this
    simp
end Go.Proofs.YtmigjhdgiopngaaDoor
namespace Go.Proofs.YtmigjhdgiopngaaDoor
open Go Go.Proofs.YtmigjhdgiopngaaDoor.Vs

/-! #### fields -/
abbrev Fd := ByteArray × ByteArray
def encF (p : Fd) : List C := [.v (.string p.1), .v (.string p.2)]
def valF (p : Fd) : V := .agg [.val (.string p.1), .val (.string p.2)]
def fieldOk (p : Fd) : Bool := (tokenOk (sb p.1) && visibleOk (sb p.2)) && trimmed (sb p.2) == sb p.2
def szOk (p : Fd) : Prop := (sb p.1).length ≤ 140737488355328 ∧ (sb p.2).length ≤ 140737488355328
def fieldsOk (l : List Fd) : Bool := decide (l.length ≤ 30) && l.all fieldOk
theorem mixed : Tryd.prog.follows .mixedOrders = true := by kernel_rfl

theorem l4Field_c (p : Fd) (hp : szOk p) : VC Tryd.prog 16 [valF p] (.val (.bool (fieldOk p))) := by
  refine VC.intro hΘ Tryd.func16 rfl rfl Tryd.ntmps16 rfl rfl rfl fun B hB => ?_
  (conv => whnf)
  refine vdraw_intro hΘ hB mixed (by kernel_rfl) ?_
  (conv => whnf)
  refine vcallQ_intro0 rfl (tokenOkS_c p.1 hp.1) (f1 (av rfl) f0) rfl ?_
  (conv => whnf)
  refine brm_intro (fun h => ?_) (fun h => ?_) <;> (conv => whnf)
  · refine vcallQ_intro0 rfl (visibleOkS_c p.2 hp.2) (f1 (av rfl) f0) rfl ?_
    (conv => whnf)
    refine brm_intro (fun h' => ?_) (fun h' => ?_) <;> (conv => whnf)
    · refine vcallQ_intro0 rfl (trimmedS_c p.2 hp.2) (f1 (av rfl) f0) rfl ?_
      (conv => whnf)
      refine vfin_bool ?_
      rw [fieldOk, h, h']
      rfl
    · refine vfin_bool ?_
      rw [fieldOk, h, h']
      rfl
  · refine vfin_bool ?_
    rw [fieldOk, h]
    rfl
theorem fieldsOkS_c (xs : List Fd) (hx : ∀ x ∈ xs, szOk x) (hl : xs.length ≤ 140737488355328) : VC Tryd.prog 10 [.rd none (.sl true 2 (xs.map encF))] (.val (.bool (fieldsOk xs))) := by
  refine VC.intro hΘ Tryd.func10 rfl rfl Tryd.ntmps10 rfl rfl rfl fun B hB => ?_
  (conv => whnf)
  refine brm_intro (fun h => ?_) (fun h => ?_) <;> (conv => whnf) <;> rw [List.length_map] at h <;> simp only [decide_eq_true_eq, decide_eq_false_iff_not] at h
  · refine vfin_bool ?_
    have : ¬ xs.length ≤ 30 := by omega
    simp [fieldsOk, this]
  have hT : fieldsOk xs = xs.all fieldOk := by
    have h2 : xs.length ≤ 30 := by omega
    simp [fieldsOk, h2]
  rw [hT]
  refine vloop_intro hΘ hB (ι := Nat) (fun i => ⟨[(0, .rd none (.sl true 2 (xs.map encF))), (3, .val (.int .i64 i))], []⟩) (fun i => i ≤ xs.length ∧ (xs.drop i).all fieldOk = xs.all fieldOk) (fun i => xs.length - i) 0
    ⟨⟨.inr rfl, .inr rfl, trivial⟩, trivial⟩ ⟨by omega, rfl⟩ ?_
  rintro i ⟨k1, k2⟩
  (conv => whnf)
  refine brm_intro (fun h => ?_) (fun h => ?_) <;> (conv => whnf) <;> rw [List.length_map] at h <;> simp only [decide_eq_true_eq, decide_eq_false_iff_not] at h
  · have hi : i < xs.length := by omega
    rw [List.drop_eq_getElem_cons hi, List.all_cons] at k2
    have hm : xs[i] ∈ xs := List.getElem_mem hi
    have hg : xs[i]? = some xs[i] := List.getElem?_eq_getElem hi
    generalize xs[i] = x at k2 hm hg
    refine vat_intro i (encF x) rfl (by rw [List.getElem?_map, hg]; rfl) ?_
    (conv => whnf)
    refine vcallS_intro0 rfl (l4Field_c x (hx x hm)) (f1 (fa (l1 (fv rfl) (l1 (fv rfl) l0))) f0) ?_
    (conv => whnf)
    refine brm_intro (fun h2 => ?_) (fun h2 => ?_) <;> (conv => whnf)
    · refine vfin_bool ?_
      simp only [Bool.not_eq_true'] at h2
      rw [h2, Bool.false_and] at k2
      exact k2
    · simp only [Bool.not_eq_false'] at h2
      rw [h2, Bool.true_and] at k2
      exact ⟨i + 1, ⟨⟨.inr rfl, .inr (vint_eq (by simp (disch := omega) only [wrap_i64]; rfl)), trivial⟩, trivial⟩, ⟨by omega, k2⟩, by omega⟩
  · refine vfin_bool ?_
    have : xs.drop i = [] := List.drop_eq_nil_of_le (by omega)
    rw [this] at k2
    exact k2
end Go.Proofs.YtmigjhdgiopngaaDoor
namespace Go.Proofs.YtmigjhdgiopngaaDoor
open Go Go.Proofs.YtmigjhdgiopngaaDoor.Vs

def comma : List UInt8 := [44, 32]
def hitsOf (n : ByteArray) (xs : List Fd) : List (List UInt8) := (xs.filter fun p => lower (sb p.1) == lower (sb n)).map fun p => sb p.2
theorem hitsOf_cons {n : ByteArray} {p : Fd} {xs : List Fd} : hitsOf n (p :: xs) = (if lower (sb p.1) = lower (sb n) then [sb p.2] else []) ++ hitsOf n xs := by
  unfold hitsOf
  rw [List.filter_cons]
  by_cases h : lower (sb p.1) = lower (sb n) <;> simp [h]
theorem join_snoc {xs : List (List UInt8)} {v sep : List UInt8} (h : xs ≠ []) : Lib.join (xs ++ [v]) sep = Lib.join xs sep ++ sep ++ v := by
  match xs, h with
  | x :: r, _ => rw [List.cons_append, Lib.join_cons, Lib.join_cons]; simp [Lib.joinTail]
theorem join_len {xs : List (List UInt8)} {m : Nat} (h : ∀ x ∈ xs, x.length ≤ m) : (Lib.join xs comma).length ≤ xs.length * (m + 2) := by
  match xs with
  | [] => simp [Lib.join_nil]
  | x :: r =>
    rw [Lib.join_cons, List.length_append]
    have h1 := h x (by simp)
    have h2 : ∀ r : List (List UInt8), (∀ y ∈ r, y.length ≤ m) → (Lib.joinTail comma r).length ≤ r.length * (m + 2) := by
      intro r
      induction r with
      | nil => intro _; simp [Lib.joinTail]
      | cons y r ih =>
        intro hr
        have := ih (fun z hz => hr z (by simp [hz]))
        have hy := hr y (by simp)
        have hc : comma.length = 2 := rfl
        simp only [Lib.joinTail, List.map_cons, List.flatten_cons, List.length_append, List.length_cons, Nat.succ_mul, hc] at this ⊢
        omega
    have := h2 r (fun y hy => h y (by simp [hy]))
    simp only [List.length_cons, Nat.succ_mul]
    omega
/-- what Get answers -/
def getV (xs : List Fd) (n : ByteArray) : V := .tup [.val (.string (bs (Lib.join (hitsOf n xs) comma))), .val (.bool (decide (hitsOf n xs ≠ [])))]

theorem l4Get_c (xs : List Fd) (n : ByteArray) (hx : ∀ x ∈ xs, szOk x) (hn : (sb n).length ≤ 140737488355328) (hl : xs.length ≤ 30) : VC Tryd.prog 11 [.rd none (.sl true 2 (xs.map encF)), .val (.string n)] (getV xs n) := by
  refine VC.intro hΘ Tryd.func11 rfl rfl Tryd.ntmps11 rfl rfl rfl fun B hB => ?_
  (conv => whnf)
  refine vloop_intro hΘ hB (ι := Nat × List (List UInt8)) (fun i => ⟨[(0, .rd none (.sl true 2 (xs.map encF))), (1, .val (.string n)), (6, .val (.string (bs (Lib.join i.2 comma)))), (7, .val (.bool (decide (i.2 ≠ [])))), (8, .val (.int .i64 i.1))], []⟩)
    (fun i => i.1 ≤ xs.length ∧ i.2 ++ hitsOf n (xs.drop i.1) = hitsOf n xs ∧ i.2.length ≤ i.1 ∧ ∀ x ∈ i.2, x.length ≤ 140737488355328) (fun i => xs.length - i.1) (0, [])
    ⟨⟨.inr rfl, .inr rfl, .inr rfl, .inr rfl, .inr rfl, trivial⟩, trivial⟩ ⟨by simp, rfl, by simp, by simp⟩ ?_
  rintro ⟨i, hs⟩ ⟨k1, k2, k3, k4⟩
  simp only at k1 k2 k3 k4
  (conv => whnf)
  refine brm_intro (fun h => ?_) (fun h => ?_) <;> (conv => whnf) <;> rw [List.length_map] at h <;> simp only [decide_eq_true_eq, decide_eq_false_iff_not] at h
  · have hi : i < xs.length := by omega
    rw [List.drop_eq_getElem_cons hi, hitsOf_cons] at k2
    have hm : xs[i] ∈ xs := List.getElem_mem hi
    have hg : xs[i]? = some xs[i] := List.getElem?_eq_getElem hi
    generalize xs[i] = x at k2 hm hg
    have hat : (xs.map encF)[i]? = some (encF x) := by rw [List.getElem?_map, hg]; rfl
    refine vat_intro i (encF x) rfl hat ?_
    (conv => whnf)
    refine vcallS_intro0 rfl (lowerS_c x.1 (hx x hm).1) (f1 (av rfl) f0) ?_
    (conv => whnf)
    refine vcallS_intro0 rfl (lowerS_c n hn) (f1 (av rfl) f0) ?_
    (conv => whnf)
    have hstep : IntKind.i64.wrap ((i : Int) + 1) = ((i + 1 : Nat) : Int) := by rw [wrap_i64 (by omega) (by omega)]; rfl
    have hjl := join_len k4
    have hjl' : (Lib.join hs comma).length ≤ 30 * 140737488355330 := Nat.le_trans hjl (Nat.mul_le_mul_right _ (by omega))
    refine brm_intro (fun h2 => ?_) (fun h2 => ?_) <;> (conv => whnf) <;> simp only [sb_bs] at h2
    · have : ¬ lower (sb x.1) = lower (sb n) := by simpa using h2
      rw [if_neg this] at k2
      exact ⟨(i + 1, hs), ⟨⟨.inr rfl, .inr rfl, .inr rfl, .inr rfl, .inr (vint_eq hstep), trivial⟩, trivial⟩, ⟨hi, k2, by simp; omega, k4⟩, by simp; omega⟩
    · have : lower (sb x.1) = lower (sb n) := by simpa using h2
      rw [if_pos this, ← List.append_assoc] at k2
      have k4' : ∀ y ∈ hs ++ [sb x.2], y.length ≤ 140737488355328 := by
        intro y hy
        rcases List.mem_append.1 hy with hy | hy
        · exact k4 y hy
        · simp at hy; rw [hy]; exact (hx x hm).2
      refine brm_intro (fun h3 => ?_) (fun h3 => ?_) <;> (conv => whnf) <;> simp only [decide_eq_true_eq, decide_eq_false_iff_not] at h3
      · refine vreq_intro (by rw [sb_bs]; simp [sb, cap63]; omega) ?_
        (conv => whnf)
        refine vat_intro i (encF x) rfl hat ?_
        (conv => whnf)
        have := (hx x hm).2
        refine vreq_intro (by rw [sb_bs, sb_bs]; simp [sb, cap63] at *; omega) ?_
        (conv => whnf)
        refine ⟨(i + 1, hs ++ [sb x.2]), ⟨⟨.inr rfl, .inr rfl, .inr (vstr_eq (congrArg bs ?_)), .inr (vbool_eq ?_), .inr (vint_eq hstep), trivial⟩, trivial⟩, ⟨hi, k2, by simp; omega, k4'⟩, by simp; omega⟩
        · rw [join_snoc h3]; rfl
        · simp
      · have h3 : hs = [] := by simpa using h3
        subst h3
        refine vat_intro i (encF x) rfl hat ?_
        (conv => whnf)
        have := (hx x hm).2
        refine vreq_intro (by rw [sb_bs]; simp [cap63, Lib.join_nil] at *; omega) ?_
        (conv => whnf)
        refine ⟨(i + 1, [sb x.2]), ⟨⟨.inr rfl, .inr rfl, .inr (vstr_eq (congrArg bs ?_)), .inr (vbool_eq ?_), .inr (vint_eq hstep), trivial⟩, trivial⟩, ⟨hi, k2, by simp, k4'⟩, by simp; omega⟩
        · rw [Lib.join_one]; rfl
        · simp
  · have : xs.drop i = [] := List.drop_eq_nil_of_le (by omega)
    rw [this] at k2
    have : hs = hitsOf n xs := by simpa [hitsOf] using k2
    subst this
    exact vfin_tup2 rfl rfl

def getAll (xs : List Fd) (n : ByteArray) : V := if fieldsOk xs then getV xs n else .tup [.val (.string (bs [])), .val (.bool false)]
theorem getS_c (xs : List Fd) (n : ByteArray) (hx : ∀ x ∈ xs, szOk x) (hn : (sb n).length ≤ 140737488355328) (hl : xs.length ≤ 140737488355328) : VC Tryd.prog 5 [.rd none (.sl true 2 (xs.map encF)), .val (.string n)] (getAll xs n) := by
  refine VC.intro hΘ Tryd.func5 rfl rfl Tryd.ntmps5 rfl rfl (by unfold getAll; split <;> rfl) fun B hB => ?_
  (conv => whnf)
  refine vcallS_intro0 rfl (fieldsOkS_c xs hx hl) (f1 (ar rfl rfl) f0) ?_
  (conv => whnf)
  refine brm_intro (fun h => ?_) (fun h => ?_) <;> (conv => whnf) <;> simp only [Bool.not_eq_true', Bool.not_eq_false'] at h
  · have : getAll xs n = .tup [.val (.string (bs [])), .val (.bool false)] := by unfold getAll; rw [h]; rfl
    rw [this]
    exact vfin_tup2 rfl rfl
  · have : getAll xs n = getV xs n := by unfold getAll; rw [h]; rfl
    rw [this]
    have h30 : xs.length ≤ 30 := by
      simp only [fieldsOk, Bool.and_eq_true, decide_eq_true_eq] at h
      exact h.1
    refine vcallS_intro0 rfl (l4Get_c xs n hx hn h30) (f1 (ar rfl rfl) (f1 (av rfl) f0)) ?_
    (conv => whnf)
    exact vfin_tup2 rfl rfl
theorem toField_c (p : Fd) : VC Tryd.prog 12 [valF p] (valF p) := by
  refine VC.intro hΘ Tryd.func12 rfl rfl Tryd.ntmps12 rfl rfl rfl fun B hB => ?_
  (conv => whnf)
  exact vfin_agg rfl
end Go.Proofs.YtmigjhdgiopngaaDoor
namespace Go.Proofs.YtmigjhdgiopngaaDoor
open Go Go.Proofs.YtmigjhdgiopngaaDoor.Vs

def zF : Fd := (⟨⟨[]⟩⟩, ⟨⟨[]⟩⟩)
theorem set_app {xs : List Fd} {i : Nat} {x : Fd} (h : xs[i]? = some x) : (xs.take i ++ List.replicate (xs.length - i) zF).set i x = xs.take (i + 1) ++ List.replicate (xs.length - (i + 1)) zF := by
  have hi := (List.getElem?_eq_some_iff.1 h).1
  have hb := (List.getElem?_eq_some_iff.1 h).2
  have e : xs.length - i = (xs.length - (i + 1)) + 1 := by omega
  rw [e, List.replicate_succ, List.take_succ_eq_append_getElem hi]
  have hlen : (xs.take i).length = i := by simp; omega
  rw [List.set_append_right _ _ (by omega), hlen, Nat.sub_self, List.set_cons_zero, hb]
  simp
theorem toFieldS_c (xs : List Fd) (hl : xs.length ≤ 2097152) : VC Tryd.prog 6 [.rd none (.sl true 2 (xs.map encF))] (.own 2 (xs.map encF)) := by
  refine VC.intro hΘ Tryd.func6 rfl rfl Tryd.ntmps6 rfl rfl rfl fun B hB => ?_
  (conv => whnf)
  refine vlenN_intro xs.length (by rw [List.length_map]) (by rw [List.length_map]) (Nat.le_trans (Nat.mul_le_mul_right _ hl) (by decide)) ?_
  (conv => whnf)
  refine vloop_intro hΘ hB (ι := Nat) (fun i => ⟨[(0, .rd none (.sl true 2 (xs.map encF))), (3, .own 2 ((xs.take i ++ List.replicate (xs.length - i) zF).map encF)), (4, .val (.int .i64 i))], []⟩)
    (fun i => i ≤ xs.length) (fun i => xs.length - i) 0 ⟨⟨.inr rfl, .inr (vown_eq ?_), .inr rfl, trivial⟩, trivial⟩ (Nat.zero_le _) ?_
  · rw [List.take_zero, List.nil_append, List.map_replicate]; rfl
  rintro i k1
  have hlen : ((xs.take i ++ List.replicate (xs.length - i) zF).map encF).length = xs.length := by simp; omega
  (conv => whnf)
  refine brm_intro (fun h => ?_) (fun h => ?_) <;> (conv => whnf) <;> rw [List.length_map] at h <;> simp only [decide_eq_true_eq, decide_eq_false_iff_not] at h
  · have hi : i < xs.length := by omega
    have hg : xs[i]? = some xs[i] := List.getElem?_eq_getElem hi
    generalize xs[i] = x at hg
    refine vat_intro i (encF x) rfl (by rw [List.getElem?_map, hg]; rfl) ?_
    (conv => whnf)
    refine vcallS_intro0 rfl (toField_c x) (f1 (fa (l1 (fv rfl) (l1 (fv rfl) l0))) f0) ?_
    (conv => whnf)
    refine vix_intro i rfl (by rw [hlen]; exact hi) ?_
    (conv => whnf)
    refine ⟨i + 1, ⟨⟨.inr rfl, .inr (vown_eq ?_), .inr (vint_eq (by simp (disch := omega) only [wrap_i64]; rfl)), trivial⟩, trivial⟩, hi, by omega⟩
    rw [← set_app hg, List.map_set]; rfl
  · have : i = xs.length := by omega
    subst this
    refine vfin_own ?_
    simp
end Go.Proofs.YtmigjhdgiopngaaDoor
namespace Go.Proofs.YtmigjhdgiopngaaDoor
open Go Go.Proofs.YtmigjhdgiopngaaDoor.Vs

theorem eqField_c (p q : Fd) : VC Tryd.prog 15 [valF p, valF q] (.val (.bool (sb p.1 == sb q.1 && sb p.2 == sb q.2))) := by
  refine VC.intro hΘ Tryd.func15 rfl rfl Tryd.ntmps15 rfl rfl rfl fun B hB => ?_
  (conv => whnf)
  refine brm_intro (fun h => ?_) (fun h => ?_) <;> (conv => whnf) <;> simp only [Bool.not_eq_true', Bool.not_eq_false'] at h
  · refine vfin_bool ?_
    rw [h]; rfl
  refine brm_intro (fun h' => ?_) (fun h' => ?_) <;> (conv => whnf) <;> simp only [Bool.not_eq_true', Bool.not_eq_false'] at h'
  · refine vfin_bool ?_
    rw [h, h']; rfl
  · refine vfin_bool ?_
    rw [h, h']; rfl
theorem eqFieldS_c (xs : List Fd) (hl : xs.length ≤ 2097152) : VC Tryd.prog 8 [.rd none (.sl true 2 (xs.map encF)), .rd none (.sl true 2 (xs.map encF))] (.val (.bool true)) := by
  refine VC.intro hΘ Tryd.func8 rfl rfl Tryd.ntmps8 rfl rfl rfl fun B hB => ?_
  (conv => whnf)
  refine brm_intro (fun h => ?_) (fun h => ?_) <;> (conv => whnf)
  · exact absurd h (by simp)
  refine vloop_intro hΘ hB (ι := Nat) (fun i => ⟨[(0, .rd none (.sl true 2 (xs.map encF))), (1, .rd none (.sl true 2 (xs.map encF))), (5, .val (.int .i64 i))], []⟩)
    (fun i => i ≤ xs.length) (fun i => xs.length - i) 0 ⟨⟨.inr rfl, .inr rfl, .inr rfl, trivial⟩, trivial⟩ (Nat.zero_le _) ?_
  rintro i k1
  (conv => whnf)
  refine brm_intro (fun h => ?_) (fun h => ?_) <;> (conv => whnf) <;> rw [List.length_map] at h <;> simp only [decide_eq_true_eq, decide_eq_false_iff_not] at h
  · have hi : i < xs.length := by omega
    have hg : xs[i]? = some xs[i] := List.getElem?_eq_getElem hi
    generalize xs[i] = x at hg
    have hat : (xs.map encF)[i]? = some (encF x) := by rw [List.getElem?_map, hg]; rfl
    refine vdraw_intro hΘ hB mixed (by kernel_rfl) ?_
    (conv => whnf)
    refine vat_intro i (encF x) rfl hat ?_
    (conv => whnf)
    refine vat_intro i (encF x) rfl hat ?_
    (conv => whnf)
    refine vcallQ_intro0 rfl (eqField_c x x) (f1 (fa (l1 (fv rfl) (l1 (fv rfl) l0))) (f1 (fa (l1 (fv rfl) (l1 (fv rfl) l0))) f0)) rfl ?_
    (conv => whnf)
    refine brm_intro (fun h2 => ?_) (fun h2 => ?_) <;> (conv => whnf)
    · exact absurd h2 (by simp)
    · exact ⟨i + 1, ⟨⟨.inr rfl, .inr rfl, .inr (vint_eq (by simp (disch := omega) only [wrap_i64]; rfl)), trivial⟩, trivial⟩, hi, by omega⟩
  · exact vfin_bool rfl

/-! #### the program's own side -/
theorem indexByte_c (s : ByteArray) (c : Int) : VC Tryd.prog 39 [.val (.string s), .val (.int .u8 c)] (.val (.int .i64 (Lib.indexByte (sb s) c.toNat.toUInt8))) :=
  VC.of_vals (xs := [.string s, .int .u8 c]) Tryd.func39 rfl rfl rfl fun w => (Tryd.strings_IndexByte s c w).mono fun _ _ ⟨h1, h2⟩ => ⟨h1, h2 ▸ Go.RowKit.Below.refl _ _⟩
theorem indexByte_nonneg (l : List UInt8) (c : UInt8) : decide (Lib.indexByte l c ≥ 0) = l.contains c := by
  induction l with
  | nil => rfl
  | cons b r ih =>
    have hge := Lib.indexByte_ge r c
    rw [Lib.indexByte, List.contains_cons]
    by_cases h : b = c
    · subst h; simp
    · have h1 : (b == c) = false := by simpa using h
      have h2 : (c == b) = false := by simpa using fun e => h e.symm
      rw [h1, h2, Bool.false_or, ← ih]
      simp only [Bool.false_eq_true, if_false]
      by_cases h3 : Lib.indexByte r c = -1
      · simp [h3]
      · have : (Lib.indexByte r c == -1) = false := by simpa using h3
        rw [this]
        simp only [Bool.false_eq_true, if_false, decide_eq_decide]
        omega
theorem isMark_contains (b : UInt8) : isMark b.toNat = tokenMarks.contains b := by
  unfold isMark
  rw [List.contains_eq_any_beq]
  congr 1
  funext c
  rw [Bool.eq_iff_iff]
  simp only [beq_iff_eq]
  constructor
  · intro h; exact UInt8.toNat_inj.1 (by omega)
  · intro h; rw [h]
theorem tokenFn_c (b : UInt8) : VC Tryd.prog 36 [.val (.int .u8 b.toNat)] (.val (.bool (isToken b.toNat))) := by
  refine VC.intro hΘ Tryd.func36 rfl rfl Tryd.ntmps36 rfl rfl rfl fun B hB => ?_
  (conv => whnf)
  refine vcallS_intro0 rfl (isLetter_c b.toNat) (f1 (av rfl) f0) ?_
  (conv => whnf)
  refine brm_intro (fun h => ?_) (fun h => ?_) <;> (conv => whnf)
  · refine vfin_bool ?_
    rw [isToken, h]; rfl
  · refine vcallS_intro0 rfl (isDigit_c b.toNat) (f1 (av rfl) f0) ?_
    (conv => whnf)
    refine brm_intro (fun h' => ?_) (fun h' => ?_) <;> (conv => whnf)
    · refine vfin_bool ?_
      rw [isToken, h, h']; rfl
    · refine vcallS_intro0 rfl (indexByte_c _ b.toNat) (f1 (av rfl) (f1 (av rfl) f0)) ?_
      (conv => whnf)
      refine vfin_bool ?_
      rw [indexByte_nonneg, isToken, h, h', isMark_contains]
      simp only [Bool.false_or, Int.toNat_natCast]
      have : b.toNat.toUInt8 = b := by simp
      rw [this]
      rfl
end Go.Proofs.YtmigjhdgiopngaaDoor
namespace Go.Proofs.YtmigjhdgiopngaaDoor
open Go Go.Proofs.YtmigjhdgiopngaaDoor.Vs

def idxFn {α : Type} (p : α → Bool) : List α → Nat → Int
  | [], _ => -1
  | x :: r, i => if p x then (i : Int) else idxFn p r (i + 1)
theorem idxFn_nonneg {α : Type} (p : α → Bool) : ∀ (l : List α) (i : Nat), decide (idxFn p l i ≥ 0) = l.any p
  | [], _ => rfl
  | x :: r, i => by
    rw [idxFn, List.any_cons]
    cases h : p x with
    | true => simp
    | false => simp only [Bool.false_eq_true, if_false, Bool.false_or]; exact idxFn_nonneg p r (i + 1)
def fnV (f : Nat) : Value := .func (.func f) #[] #[]

theorem allFn_c (F : Nat) (p : UInt8 → Bool) (hp : ∀ b : UInt8, VC Tryd.prog F [.val (.int .u8 b.toNat)] (.val (.bool (p b)))) (b : UInt8) :
    VC Tryd.prog 45 [.val (.int .u8 b.toNat), .rp none [.v (fnV F)]] (.val (.bool (!p b))) := by
  refine VC.intro hΘ Tryd.func45 rfl rfl Tryd.ntmps45 rfl rfl rfl fun B hB => ?_
  (conv => whnf)
  refine vcallS_intro0 rfl (hp b) (f1 (av rfl) f0) ?_
  (conv => whnf)
  exact vfin_bool rfl
theorem indexFnB_c (f : Nat) (cs : List C) (p : UInt8 → Bool) (hp : ∀ b : UInt8, VC Tryd.prog f ([.val (.int .u8 b.toNat)] ++ [.rp none cs]) (.val (.bool (p b)))) (l : List UInt8) (hl : l.length ≤ 140737488355328) :
    VC Tryd.prog 56 [.rd none (.sl true 1 (bytesC l)), .cl f [.rp none cs]] (.val (.int .i64 (idxFn p l 0))) := by
  refine VC.intro hΘ Tryd.func56 rfl rfl Tryd.ntmps56 rfl rfl rfl fun B hB => ?_
  (conv => whnf)
  refine vloop_intro hΘ hB (ι := Nat) (fun i => ⟨[(0, .rd none (.sl true 1 (bytesC l))), (1, .cl f [.rp none cs]), (7, .val (.int .i64 (bytesC l).length)), (8, .val (.int .i64 i))], []⟩)
    (fun i => i ≤ l.length ∧ idxFn p (l.drop i) i = idxFn p l 0) (fun i => l.length - i) 0 ⟨⟨.inr rfl, .inr rfl, .inr rfl, .inr rfl, trivial⟩, trivial⟩ ⟨Nat.zero_le _, rfl⟩ ?_
  rintro i ⟨k1, k2⟩
  (conv => whnf)
  refine brm_intro (fun h => ?_) (fun h => ?_) <;> (conv => whnf) <;> rw [bytesC_len] at h <;> simp only [decide_eq_true_eq, decide_eq_false_iff_not] at h
  · have hi : i < l.length := by omega
    have hg : l[i]? = some l[i] := List.getElem?_eq_getElem hi
    rw [List.drop_eq_getElem_cons hi, idxFn] at k2
    generalize l[i] = b at hg k2
    refine vat_intro i _ rfl (bytesC_at hg) ?_
    (conv => whnf)
    refine vcallS_intro rfl (hp b) (kp rfl k0) (f1 (av rfl) f0) ?_
    (conv => whnf)
    refine brm_intro (fun h2 => ?_) (fun h2 => ?_) <;> (conv => whnf)
    · refine vfin_int ?_
      rw [h2, if_pos rfl] at k2
      exact k2
    · rw [h2] at k2
      simp only [Bool.false_eq_true, if_false] at k2
      exact ⟨i + 1, ⟨⟨.inr rfl, .inr rfl, .inr rfl, .inr (vint_eq (by simp (disch := omega) only [wrap_i64]; rfl)), trivial⟩, trivial⟩, ⟨hi, k2⟩, by omega⟩
  · refine vfin_int ?_
    have : l.drop i = [] := List.drop_eq_nil_of_le (by omega)
    rw [this] at k2
    exact k2
theorem containsFnB_c (f : Nat) (cs : List C) (p : UInt8 → Bool) (hp : ∀ b : UInt8, VC Tryd.prog f ([.val (.int .u8 b.toNat)] ++ [.rp none cs]) (.val (.bool (p b)))) (l : List UInt8) (hl : l.length ≤ 140737488355328) :
    VC Tryd.prog 44 [.rd none (.sl true 1 (bytesC l)), .cl f [.rp none cs]] (.val (.bool (l.any p))) := by
  refine VC.intro hΘ Tryd.func44 rfl rfl Tryd.ntmps44 rfl rfl rfl fun B hB => ?_
  (conv => whnf)
  refine vcallS_intro0 rfl (indexFnB_c f cs p hp l hl) (f1 (ar rfl rfl) (f1 (acl (kp rfl k0)) f0)) ?_
  (conv => whnf)
  exact vfin_bool (idxFn_nonneg p l 0)
theorem all_c (F : Nat) (p : UInt8 → Bool) (hp : ∀ b : UInt8, VC Tryd.prog F [.val (.int .u8 b.toNat)] (.val (.bool (p b)))) (s : ByteArray) (hs : (sb s).length ≤ 140737488355328) :
    VC Tryd.prog 35 [.val (.string s), .val (fnV F)] (.val (.bool ((sb s).all p))) := by
  refine VC.intro hΘ Tryd.func35 rfl rfl Tryd.ntmps35 rfl rfl rfl fun B hB => ?_
  (conv => whnf)
  refine vreq_intro hs ?_
  (conv => whnf)
  refine vcallS_intro0 rfl (containsFnB_c 45 [.v (fnV F)] (fun b => !p b) (allFn_c F p hp) (sb s) hs) (f1 (ah rfl rfl rfl) (f1 (acl (kp (pb rfl rfl) k0)) f0)) ?_
  (conv => whnf)
  refine vfin_bool ?_
  rw [← List.not_all_eq_any_not, Bool.not_not]
theorem tokenOkI_c (s : ByteArray) (hs : (sb s).length ≤ 140737488355328) : VC Tryd.prog 27 [.val (.string s)] (.val (.bool (tokenOk (sb s)))) := by
  refine VC.intro hΘ Tryd.func27 rfl rfl Tryd.ntmps27 rfl rfl rfl fun B hB => ?_
  (conv => whnf)
  refine brm_intro (fun h => ?_) (fun h => ?_) <;> (conv => whnf) <;> simp only [decide_eq_true_eq, decide_eq_false_iff_not] at h
  · refine brm_intro (fun h' => ?_) (fun h' => ?_) <;> (conv => whnf) <;> simp only [decide_eq_true_eq, decide_eq_false_iff_not] at h'
    · refine vcallS_intro0 rfl (all_c 36 (fun b => isToken b.toNat) tokenFn_c s hs) (f1 (av rfl) (f1 (av rfl) f0)) ?_
      (conv => whnf)
      refine vfin_bool ?_
      have h1 : 1 ≤ (sb s).length := by omega
      have h2 : (sb s).length ≤ 64 := by omega
      simp [tokenOk, h1, h2]
    · refine vfin_bool ?_
      have h2 : ¬ (sb s).length ≤ 64 := by omega
      simp [tokenOk, h2]
  · refine vfin_bool ?_
    have h2 : ¬ 1 ≤ (sb s).length := by omega
    simp [tokenOk, h2]
theorem visibleOkI_c (s : ByteArray) (hs : (sb s).length ≤ 140737488355328) : VC Tryd.prog 28 [.val (.string s)] (.val (.bool (visibleOk (sb s)))) := by
  refine VC.intro hΘ Tryd.func28 rfl rfl Tryd.ntmps28 rfl rfl rfl fun B hB => ?_
  (conv => whnf)
  refine brm_intro (fun h => ?_) (fun h => ?_) <;> (conv => whnf) <;> simp only [decide_eq_true_eq, decide_eq_false_iff_not] at h
  · refine vcallS_intro0 rfl (all_c 40 (fun b => isVisible b.toNat) (fun b => isVisible_c b.toNat) s hs) (f1 (av rfl) (f1 (av rfl) f0)) ?_
    (conv => whnf)
    refine vfin_bool ?_
    have h2 : (sb s).length ≤ 400 := by omega
    simp [visibleOk, h2]
  · refine vfin_bool ?_
    have h2 : ¬ (sb s).length ≤ 400 := by omega
    simp [visibleOk, h2]
end Go.Proofs.YtmigjhdgiopngaaDoor
