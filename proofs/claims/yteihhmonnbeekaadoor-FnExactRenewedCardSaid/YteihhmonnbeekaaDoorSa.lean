import Derived.Test.YteihhmonnbeekaaDoorVe
import Derived.Test.YteihhmonnbeekaaDoorProg
import Derived.Lib.Join
import Derived.Test.YteihhmonnbeekaaDoorSh
import Derived.Lib.IndexLaws
import Derived.Shelf.Strings.SlTrimAscii
namespace Go.Proofs.YteihhmonnbeekaaDoor
open Go Go.Proofs.YteihhmonnbeekaaDoor.Vs
def ti1 : TI := ⟨1, 8, .other, [.nilFunc]⟩
theorem tiok1 : TIok Tryd.prog 1 ti1 := TIok.of Tryd.type1 Tryd.underlying1 rfl rfl rfl rfl rfl rfl trivial
def ti2 : TI := ⟨1, 8, .int .i64, [(.int .i64 0)]⟩
theorem tiok2 : TIok Tryd.prog 2 ti2 := TIok.of Tryd.type2 Tryd.underlying2 rfl rfl rfl rfl rfl rfl rfl
def ti3 : TI := ⟨1, 8, .int .i64, [(.int .i64 0)]⟩
theorem tiok3 : TIok Tryd.prog 3 ti3 := TIok.of Tryd.type3 Tryd.underlying3 rfl rfl rfl rfl rfl rfl rfl
def ti4 : TI := ⟨1, 1, .bool, [(.bool false)]⟩
theorem tiok4 : TIok Tryd.prog 4 ti4 := TIok.of Tryd.type4 Tryd.underlying4 rfl rfl rfl rfl rfl rfl rfl
def ti5 : TI := ⟨1, 1, .int .u8, [(.int .u8 0)]⟩
theorem tiok5 : TIok Tryd.prog 5 ti5 := TIok.of Tryd.type5 Tryd.underlying5 rfl rfl rfl rfl rfl rfl rfl
def ti6 : TI := ⟨1, 1, .int .u8, [(.int .u8 0)]⟩
theorem tiok6 : TIok Tryd.prog 6 ti6 := TIok.of Tryd.type6 Tryd.underlying6 rfl rfl rfl rfl rfl rfl rfl
def ti7 : TI := ⟨4, 24, .struct [(0, 2), (1, 3), (2, 4), (3, 6)], [(.int .i64 0), (.int .i64 0), (.bool false), (.int .u8 0)]⟩
theorem tiok7 : TIok Tryd.prog 7 ti7 := TIok.of Tryd.type7 Tryd.underlying7 rfl rfl rfl rfl rfl rfl ⟨_, rfl, rfl⟩
def ti8 : TI := ⟨4, 24, .struct [(0, 2), (1, 3), (2, 4), (3, 6)], [(.int .i64 0), (.int .i64 0), (.bool false), (.int .u8 0)]⟩
theorem tiok8 : TIok Tryd.prog 8 ti8 := TIok.of Tryd.type8 Tryd.underlying8 rfl rfl rfl rfl rfl rfl ⟨_, rfl, rfl⟩
def ti9 : TI := ⟨1, 16, .string, [(.string ⟨⟨[]⟩⟩)]⟩
theorem tiok9 : TIok Tryd.prog 9 ti9 := TIok.of Tryd.type9 Tryd.underlying9 rfl rfl rfl rfl rfl rfl rfl
def ti11 : TI := ⟨1, 16, .string, [(.string ⟨⟨[]⟩⟩)]⟩
theorem tiok11 : TIok Tryd.prog 11 ti11 := TIok.of Tryd.type11 Tryd.underlying11 rfl rfl rfl rfl rfl rfl rfl
def ti12 : TI := ⟨1, 8, .int .u64, [(.int .u64 0)]⟩
theorem tiok12 : TIok Tryd.prog 12 ti12 := TIok.of Tryd.type12 Tryd.underlying12 rfl rfl rfl rfl rfl rfl rfl
def ti13 : TI := ⟨2, 24, .struct [(0, 9), (1, 12)], [(.string ⟨⟨[]⟩⟩), (.int .u64 0)]⟩
theorem tiok13 : TIok Tryd.prog 13 ti13 := TIok.of Tryd.type13 Tryd.underlying13 rfl rfl rfl rfl rfl rfl ⟨_, rfl, rfl⟩
def ti15 : TI := ⟨1, 8, .ptr 169, [(.pointer none)]⟩
theorem tiok15 : TIok Tryd.prog 15 ti15 := TIok.of Tryd.type15 Tryd.underlying15 rfl rfl rfl rfl rfl rfl rfl
def ti16 : TI := ⟨1, 8, .ptr 172, [(.pointer none)]⟩
theorem tiok16 : TIok Tryd.prog 16 ti16 := TIok.of Tryd.type16 Tryd.underlying16 rfl rfl rfl rfl rfl rfl rfl
def ti17 : TI := ⟨1, 8, .ptr 180, [(.pointer none)]⟩
theorem tiok17 : TIok Tryd.prog 17 ti17 := TIok.of Tryd.type17 Tryd.underlying17 rfl rfl rfl rfl rfl rfl rfl
def ti18 : TI := ⟨1, 8, .struct [(0, 17)], [(.pointer none)]⟩
theorem tiok18 : TIok Tryd.prog 18 ti18 := TIok.of Tryd.type18 Tryd.underlying18 rfl rfl rfl rfl rfl rfl ⟨_, rfl, rfl⟩
def ti19 : TI := ⟨1, 8, .struct [(0, 17)], [(.pointer none)]⟩
theorem tiok19 : TIok Tryd.prog 19 ti19 := TIok.of Tryd.type19 Tryd.underlying19 rfl rfl rfl rfl rfl rfl ⟨_, rfl, rfl⟩
def ti20 : TI := ⟨1, 16, .other, [.nilIface]⟩
theorem tiok20 : TIok Tryd.prog 20 ti20 := TIok.of Tryd.type20 Tryd.underlying20 rfl rfl rfl rfl rfl rfl trivial
def ti21 : TI := ⟨1, 4, .int .i32, [(.int .i32 0)]⟩
theorem tiok21 : TIok Tryd.prog 21 ti21 := TIok.of Tryd.type21 Tryd.underlying21 rfl rfl rfl rfl rfl rfl rfl
def ti22 : TI := ⟨1, 24, .slice 66, [(.slice none 0 0)]⟩
theorem tiok22 : TIok Tryd.prog 22 ti22 := TIok.of Tryd.type22 Tryd.underlying22 rfl rfl rfl rfl rfl rfl rfl
def ti23 : TI := ⟨1, 8, .other, [.nilFunc]⟩
theorem tiok23 : TIok Tryd.prog 23 ti23 := TIok.of Tryd.type23 Tryd.underlying23 rfl rfl rfl rfl rfl rfl trivial
def ti24 : TI := ⟨1, 24, .slice 69, [(.slice none 0 0)]⟩
theorem tiok24 : TIok Tryd.prog 24 ti24 := TIok.of Tryd.type24 Tryd.underlying24 rfl rfl rfl rfl rfl rfl rfl
def ti25 : TI := ⟨1, 8, .other, [.nilFunc]⟩
theorem tiok25 : TIok Tryd.prog 25 ti25 := TIok.of Tryd.type25 Tryd.underlying25 rfl rfl rfl rfl rfl rfl trivial
def ti26 : TI := ⟨1, 8, .other, [.nilFunc]⟩
theorem tiok26 : TIok Tryd.prog 26 ti26 := TIok.of Tryd.type26 Tryd.underlying26 rfl rfl rfl rfl rfl rfl trivial
def ti27 : TI := ⟨1, 8, .other, [.nilFunc]⟩
theorem tiok27 : TIok Tryd.prog 27 ti27 := TIok.of Tryd.type27 Tryd.underlying27 rfl rfl rfl rfl rfl rfl trivial
def ti28 : TI := ⟨1, 8, .other, [.nilFunc]⟩
theorem tiok28 : TIok Tryd.prog 28 ti28 := TIok.of Tryd.type28 Tryd.underlying28 rfl rfl rfl rfl rfl rfl trivial
def ti29 : TI := ⟨1, 8, .other, [.nilFunc]⟩
theorem tiok29 : TIok Tryd.prog 29 ti29 := TIok.of Tryd.type29 Tryd.underlying29 rfl rfl rfl rfl rfl rfl trivial
def ti30 : TI := ⟨3, 48, .struct [(0, 2), (1, 22), (2, 9)], [(.int .i64 0), (.slice none 0 0), (.string ⟨⟨[]⟩⟩)]⟩
theorem tiok30 : TIok Tryd.prog 30 ti30 := TIok.of Tryd.type30 Tryd.underlying30 rfl rfl rfl rfl rfl rfl ⟨_, rfl, rfl⟩
def ti31 : TI := ⟨3, 48, .struct [(0, 2), (1, 22), (2, 9)], [(.int .i64 0), (.slice none 0 0), (.string ⟨⟨[]⟩⟩)]⟩
theorem tiok31 : TIok Tryd.prog 31 ti31 := TIok.of Tryd.type31 Tryd.underlying31 rfl rfl rfl rfl rfl rfl ⟨_, rfl, rfl⟩
def ti32 : TI := ⟨8, 112, .struct [(0, 9), (1, 22), (2, 31), (5, 2), (6, 2), (7, 2)], [(.string ⟨⟨[]⟩⟩), (.slice none 0 0), (.int .i64 0), (.slice none 0 0), (.string ⟨⟨[]⟩⟩), (.int .i64 0), (.int .i64 0), (.int .i64 0)]⟩
theorem tiok32 : TIok Tryd.prog 32 ti32 := TIok.of Tryd.type32 Tryd.underlying32 rfl rfl rfl rfl rfl rfl ⟨_, rfl, rfl⟩
def ti33 : TI := ⟨8, 112, .struct [(0, 9), (1, 22), (2, 31), (5, 2), (6, 2), (7, 2)], [(.string ⟨⟨[]⟩⟩), (.slice none 0 0), (.int .i64 0), (.slice none 0 0), (.string ⟨⟨[]⟩⟩), (.int .i64 0), (.int .i64 0), (.int .i64 0)]⟩
theorem tiok33 : TIok Tryd.prog 33 ti33 := TIok.of Tryd.type33 Tryd.underlying33 rfl rfl rfl rfl rfl rfl ⟨_, rfl, rfl⟩
def ti34 : TI := ⟨1, 8, .other, [.nilFunc]⟩
theorem tiok34 : TIok Tryd.prog 34 ti34 := TIok.of Tryd.type34 Tryd.underlying34 rfl rfl rfl rfl rfl rfl trivial
def ti35 : TI := ⟨1, 8, .other, [.nilFunc]⟩
theorem tiok35 : TIok Tryd.prog 35 ti35 := TIok.of Tryd.type35 Tryd.underlying35 rfl rfl rfl rfl rfl rfl trivial
def ti36 : TI := ⟨3, 48, .struct [(0, 2), (1, 24), (2, 9)], [(.int .i64 0), (.slice none 0 0), (.string ⟨⟨[]⟩⟩)]⟩
theorem tiok36 : TIok Tryd.prog 36 ti36 := TIok.of Tryd.type36 Tryd.underlying36 rfl rfl rfl rfl rfl rfl ⟨_, rfl, rfl⟩
def ti37 : TI := ⟨3, 48, .struct [(0, 2), (1, 24), (2, 9)], [(.int .i64 0), (.slice none 0 0), (.string ⟨⟨[]⟩⟩)]⟩
theorem tiok37 : TIok Tryd.prog 37 ti37 := TIok.of Tryd.type37 Tryd.underlying37 rfl rfl rfl rfl rfl rfl ⟨_, rfl, rfl⟩
def ti38 : TI := ⟨8, 112, .struct [(0, 9), (1, 24), (2, 37), (5, 2), (6, 2), (7, 2)], [(.string ⟨⟨[]⟩⟩), (.slice none 0 0), (.int .i64 0), (.slice none 0 0), (.string ⟨⟨[]⟩⟩), (.int .i64 0), (.int .i64 0), (.int .i64 0)]⟩
theorem tiok38 : TIok Tryd.prog 38 ti38 := TIok.of Tryd.type38 Tryd.underlying38 rfl rfl rfl rfl rfl rfl ⟨_, rfl, rfl⟩
def ti39 : TI := ⟨8, 112, .struct [(0, 9), (1, 24), (2, 37), (5, 2), (6, 2), (7, 2)], [(.string ⟨⟨[]⟩⟩), (.slice none 0 0), (.int .i64 0), (.slice none 0 0), (.string ⟨⟨[]⟩⟩), (.int .i64 0), (.int .i64 0), (.int .i64 0)]⟩
theorem tiok39 : TIok Tryd.prog 39 ti39 := TIok.of Tryd.type39 Tryd.underlying39 rfl rfl rfl rfl rfl rfl ⟨_, rfl, rfl⟩
def ti41 : TI := ⟨1, 8, .other, [.nilFunc]⟩
theorem tiok41 : TIok Tryd.prog 41 ti41 := TIok.of Tryd.type41 Tryd.underlying41 rfl rfl rfl rfl rfl rfl trivial
def ti42 : TI := ⟨1, 8, .other, [.nilFunc]⟩
theorem tiok42 : TIok Tryd.prog 42 ti42 := TIok.of Tryd.type42 Tryd.underlying42 rfl rfl rfl rfl rfl rfl trivial
def ti43 : TI := ⟨1, 8, .other, [.nilFunc]⟩
theorem tiok43 : TIok Tryd.prog 43 ti43 := TIok.of Tryd.type43 Tryd.underlying43 rfl rfl rfl rfl rfl rfl trivial
def ti44 : TI := ⟨1, 8, .other, [.nilFunc]⟩
theorem tiok44 : TIok Tryd.prog 44 ti44 := TIok.of Tryd.type44 Tryd.underlying44 rfl rfl rfl rfl rfl rfl trivial
def ti45 : TI := ⟨1, 8, .other, [.nilFunc]⟩
theorem tiok45 : TIok Tryd.prog 45 ti45 := TIok.of Tryd.type45 Tryd.underlying45 rfl rfl rfl rfl rfl rfl trivial
def ti46 : TI := ⟨1, 8, .other, [.nilFunc]⟩
theorem tiok46 : TIok Tryd.prog 46 ti46 := TIok.of Tryd.type46 Tryd.underlying46 rfl rfl rfl rfl rfl rfl trivial
def ti47 : TI := ⟨1, 8, .other, [.nilFunc]⟩
theorem tiok47 : TIok Tryd.prog 47 ti47 := TIok.of Tryd.type47 Tryd.underlying47 rfl rfl rfl rfl rfl rfl trivial
def ti48 : TI := ⟨1, 8, .other, [.nilFunc]⟩
theorem tiok48 : TIok Tryd.prog 48 ti48 := TIok.of Tryd.type48 Tryd.underlying48 rfl rfl rfl rfl rfl rfl trivial
def ti49 : TI := ⟨1, 24, .slice 5, [(.slice none 0 0)]⟩
theorem tiok49 : TIok Tryd.prog 49 ti49 := TIok.of Tryd.type49 Tryd.underlying49 rfl rfl rfl rfl rfl rfl rfl
def ti50 : TI := ⟨1, 8, .other, [.nilFunc]⟩
theorem tiok50 : TIok Tryd.prog 50 ti50 := TIok.of Tryd.type50 Tryd.underlying50 rfl rfl rfl rfl rfl rfl trivial
def ti52 : TI := ⟨1, 8, .other, [.nilFunc]⟩
theorem tiok52 : TIok Tryd.prog 52 ti52 := TIok.of Tryd.type52 Tryd.underlying52 rfl rfl rfl rfl rfl rfl trivial
def ti53 : TI := ⟨1, 8, .other, [.nilFunc]⟩
theorem tiok53 : TIok Tryd.prog 53 ti53 := TIok.of Tryd.type53 Tryd.underlying53 rfl rfl rfl rfl rfl rfl trivial
def ti55 : TI := ⟨1, 8, .other, [.nilFunc]⟩
theorem tiok55 : TIok Tryd.prog 55 ti55 := TIok.of Tryd.type55 Tryd.underlying55 rfl rfl rfl rfl rfl rfl trivial
def ti57 : TI := ⟨1, 8, .other, [.nilFunc]⟩
theorem tiok57 : TIok Tryd.prog 57 ti57 := TIok.of Tryd.type57 Tryd.underlying57 rfl rfl rfl rfl rfl rfl trivial
def ti58 : TI := ⟨1, 8, .other, [.nilFunc]⟩
theorem tiok58 : TIok Tryd.prog 58 ti58 := TIok.of Tryd.type58 Tryd.underlying58 rfl rfl rfl rfl rfl rfl trivial
def ti59 : TI := ⟨1, 8, .other, [.nilFunc]⟩
theorem tiok59 : TIok Tryd.prog 59 ti59 := TIok.of Tryd.type59 Tryd.underlying59 rfl rfl rfl rfl rfl rfl trivial
def ti60 : TI := ⟨1, 24, .slice 9, [(.slice none 0 0)]⟩
theorem tiok60 : TIok Tryd.prog 60 ti60 := TIok.of Tryd.type60 Tryd.underlying60 rfl rfl rfl rfl rfl rfl rfl
def ti61 : TI := ⟨1, 8, .other, [.nilFunc]⟩
theorem tiok61 : TIok Tryd.prog 61 ti61 := TIok.of Tryd.type61 Tryd.underlying61 rfl rfl rfl rfl rfl rfl trivial
def ti63 : TI := ⟨1, 8, .other, [.nilFunc]⟩
theorem tiok63 : TIok Tryd.prog 63 ti63 := TIok.of Tryd.type63 Tryd.underlying63 rfl rfl rfl rfl rfl rfl trivial
def ti64 : TI := ⟨1, 8, .other, [.nilFunc]⟩
theorem tiok64 : TIok Tryd.prog 64 ti64 := TIok.of Tryd.type64 Tryd.underlying64 rfl rfl rfl rfl rfl rfl trivial
def ti65 : TI := ⟨2, 32, .struct [(0, 9), (1, 9)], [(.string ⟨⟨[]⟩⟩), (.string ⟨⟨[]⟩⟩)]⟩
theorem tiok65 : TIok Tryd.prog 65 ti65 := TIok.of Tryd.type65 Tryd.underlying65 rfl rfl rfl rfl rfl rfl ⟨_, rfl, rfl⟩
def ti66 : TI := ⟨2, 32, .struct [(0, 9), (1, 9)], [(.string ⟨⟨[]⟩⟩), (.string ⟨⟨[]⟩⟩)]⟩
theorem tiok66 : TIok Tryd.prog 66 ti66 := TIok.of Tryd.type66 Tryd.underlying66 rfl rfl rfl rfl rfl rfl ⟨_, rfl, rfl⟩
def ti67 : TI := ⟨1, 8, .other, [.nilFunc]⟩
theorem tiok67 : TIok Tryd.prog 67 ti67 := TIok.of Tryd.type67 Tryd.underlying67 rfl rfl rfl rfl rfl rfl trivial
def ti68 : TI := ⟨1, 8, .other, [.nilFunc]⟩
theorem tiok68 : TIok Tryd.prog 68 ti68 := TIok.of Tryd.type68 Tryd.underlying68 rfl rfl rfl rfl rfl rfl trivial
def ti69 : TI := ⟨2, 32, .struct [(0, 9), (1, 9)], [(.string ⟨⟨[]⟩⟩), (.string ⟨⟨[]⟩⟩)]⟩
theorem tiok69 : TIok Tryd.prog 69 ti69 := TIok.of Tryd.type69 Tryd.underlying69 rfl rfl rfl rfl rfl rfl ⟨_, rfl, rfl⟩
def ti70 : TI := ⟨1, 8, .other, [.nilFunc]⟩
theorem tiok70 : TIok Tryd.prog 70 ti70 := TIok.of Tryd.type70 Tryd.underlying70 rfl rfl rfl rfl rfl rfl trivial
def ti71 : TI := ⟨1, 8, .other, [.nilFunc]⟩
theorem tiok71 : TIok Tryd.prog 71 ti71 := TIok.of Tryd.type71 Tryd.underlying71 rfl rfl rfl rfl rfl rfl trivial
def ti72 : TI := ⟨1, 8, .other, [.nilFunc]⟩
theorem tiok72 : TIok Tryd.prog 72 ti72 := TIok.of Tryd.type72 Tryd.underlying72 rfl rfl rfl rfl rfl rfl trivial
def ti73 : TI := ⟨1, 8, .other, [.nilFunc]⟩
theorem tiok73 : TIok Tryd.prog 73 ti73 := TIok.of Tryd.type73 Tryd.underlying73 rfl rfl rfl rfl rfl rfl trivial
def ti74 : TI := ⟨1, 8, .other, [.nilFunc]⟩
theorem tiok74 : TIok Tryd.prog 74 ti74 := TIok.of Tryd.type74 Tryd.underlying74 rfl rfl rfl rfl rfl rfl trivial
def ti75 : TI := ⟨1, 8, .other, [.nilFunc]⟩
theorem tiok75 : TIok Tryd.prog 75 ti75 := TIok.of Tryd.type75 Tryd.underlying75 rfl rfl rfl rfl rfl rfl trivial
def ti76 : TI := ⟨1, 8, .other, [.nilFunc]⟩
theorem tiok76 : TIok Tryd.prog 76 ti76 := TIok.of Tryd.type76 Tryd.underlying76 rfl rfl rfl rfl rfl rfl trivial
def ti77 : TI := ⟨1, 8, .ptr 93, [(.pointer none)]⟩
theorem tiok77 : TIok Tryd.prog 77 ti77 := TIok.of Tryd.type77 Tryd.underlying77 rfl rfl rfl rfl rfl rfl rfl
def ti78 : TI := ⟨1, 8, .other, [.nilFunc]⟩
theorem tiok78 : TIok Tryd.prog 78 ti78 := TIok.of Tryd.type78 Tryd.underlying78 rfl rfl rfl rfl rfl rfl trivial
def ti79 : TI := ⟨1, 8, .other, [.nilFunc]⟩
theorem tiok79 : TIok Tryd.prog 79 ti79 := TIok.of Tryd.type79 Tryd.underlying79 rfl rfl rfl rfl rfl rfl trivial
def ti80 : TI := ⟨1, 8, .other, [.nilFunc]⟩
theorem tiok80 : TIok Tryd.prog 80 ti80 := TIok.of Tryd.type80 Tryd.underlying80 rfl rfl rfl rfl rfl rfl trivial
def ti81 : TI := ⟨1, 8, .other, [.nilFunc]⟩
theorem tiok81 : TIok Tryd.prog 81 ti81 := TIok.of Tryd.type81 Tryd.underlying81 rfl rfl rfl rfl rfl rfl trivial
def ti82 : TI := ⟨1, 8, .other, [.nilFunc]⟩
theorem tiok82 : TIok Tryd.prog 82 ti82 := TIok.of Tryd.type82 Tryd.underlying82 rfl rfl rfl rfl rfl rfl trivial
def ti83 : TI := ⟨1, 8, .other, [.nilFunc]⟩
theorem tiok83 : TIok Tryd.prog 83 ti83 := TIok.of Tryd.type83 Tryd.underlying83 rfl rfl rfl rfl rfl rfl trivial
def ti85 : TI := ⟨1, 8, .other, [.nilFunc]⟩
theorem tiok85 : TIok Tryd.prog 85 ti85 := TIok.of Tryd.type85 Tryd.underlying85 rfl rfl rfl rfl rfl rfl trivial
def ti86 : TI := ⟨1, 8, .other, [.nilFunc]⟩
theorem tiok86 : TIok Tryd.prog 86 ti86 := TIok.of Tryd.type86 Tryd.underlying86 rfl rfl rfl rfl rfl rfl trivial
def ti87 : TI := ⟨1, 8, .other, [.nilFunc]⟩
theorem tiok87 : TIok Tryd.prog 87 ti87 := TIok.of Tryd.type87 Tryd.underlying87 rfl rfl rfl rfl rfl rfl trivial
def ti88 : TI := ⟨1, 8, .other, [.nilFunc]⟩
theorem tiok88 : TIok Tryd.prog 88 ti88 := TIok.of Tryd.type88 Tryd.underlying88 rfl rfl rfl rfl rfl rfl trivial
def ti89 : TI := ⟨1, 8, .other, [.nilFunc]⟩
theorem tiok89 : TIok Tryd.prog 89 ti89 := TIok.of Tryd.type89 Tryd.underlying89 rfl rfl rfl rfl rfl rfl trivial
def ti90 : TI := ⟨1, 8, .other, [.nilFunc]⟩
theorem tiok90 : TIok Tryd.prog 90 ti90 := TIok.of Tryd.type90 Tryd.underlying90 rfl rfl rfl rfl rfl rfl trivial
def ti91 : TI := ⟨1, 8, .other, [.nilFunc]⟩
theorem tiok91 : TIok Tryd.prog 91 ti91 := TIok.of Tryd.type91 Tryd.underlying91 rfl rfl rfl rfl rfl rfl trivial
def ti92 : TI := ⟨3, 40, .struct [(0, 49), (1, 3), (2, 2)], [(.slice none 0 0), (.int .i64 0), (.int .i64 0)]⟩
theorem tiok92 : TIok Tryd.prog 92 ti92 := TIok.of Tryd.type92 Tryd.underlying92 rfl rfl rfl rfl rfl rfl ⟨_, rfl, rfl⟩
def ti93 : TI := ⟨3, 40, .struct [(0, 49), (1, 3), (2, 2)], [(.slice none 0 0), (.int .i64 0), (.int .i64 0)]⟩
theorem tiok93 : TIok Tryd.prog 93 ti93 := TIok.of Tryd.type93 Tryd.underlying93 rfl rfl rfl rfl rfl rfl ⟨_, rfl, rfl⟩
def ti94 : TI := ⟨1, 8, .other, [.nilFunc]⟩
theorem tiok94 : TIok Tryd.prog 94 ti94 := TIok.of Tryd.type94 Tryd.underlying94 rfl rfl rfl rfl rfl rfl trivial
def ti95 : TI := ⟨1, 8, .other, [.nilFunc]⟩
theorem tiok95 : TIok Tryd.prog 95 ti95 := TIok.of Tryd.type95 Tryd.underlying95 rfl rfl rfl rfl rfl rfl trivial
def ti96 : TI := ⟨1, 8, .other, [.nilFunc]⟩
theorem tiok96 : TIok Tryd.prog 96 ti96 := TIok.of Tryd.type96 Tryd.underlying96 rfl rfl rfl rfl rfl rfl trivial
def ti97 : TI := ⟨1, 8, .other, [.nilFunc]⟩
theorem tiok97 : TIok Tryd.prog 97 ti97 := TIok.of Tryd.type97 Tryd.underlying97 rfl rfl rfl rfl rfl rfl trivial
def ti98 : TI := ⟨1, 8, .other, [.nilFunc]⟩
theorem tiok98 : TIok Tryd.prog 98 ti98 := TIok.of Tryd.type98 Tryd.underlying98 rfl rfl rfl rfl rfl rfl trivial
def ti99 : TI := ⟨1, 16, .other, [.nilIface]⟩
theorem tiok99 : TIok Tryd.prog 99 ti99 := TIok.of Tryd.type99 Tryd.underlying99 rfl rfl rfl rfl rfl rfl trivial
def ti103 : TI := ⟨1, 8, .other, [.nilFunc]⟩
theorem tiok103 : TIok Tryd.prog 103 ti103 := TIok.of Tryd.type103 Tryd.underlying103 rfl rfl rfl rfl rfl rfl trivial
def ti104 : TI := ⟨1, 8, .ptr 106, [(.pointer none)]⟩
theorem tiok104 : TIok Tryd.prog 104 ti104 := TIok.of Tryd.type104 Tryd.underlying104 rfl rfl rfl rfl rfl rfl rfl
def ti105 : TI := ⟨2, 32, .struct [(0, 104), (1, 49)], [(.pointer none), (.slice none 0 0)]⟩
theorem tiok105 : TIok Tryd.prog 105 ti105 := TIok.of Tryd.type105 Tryd.underlying105 rfl rfl rfl rfl rfl rfl ⟨_, rfl, rfl⟩
def ti106 : TI := ⟨2, 32, .struct [(0, 104), (1, 49)], [(.pointer none), (.slice none 0 0)]⟩
theorem tiok106 : TIok Tryd.prog 106 ti106 := TIok.of Tryd.type106 Tryd.underlying106 rfl rfl rfl rfl rfl rfl ⟨_, rfl, rfl⟩
def ti107 : TI := ⟨1, 8, .other, [.nilFunc]⟩
theorem tiok107 : TIok Tryd.prog 107 ti107 := TIok.of Tryd.type107 Tryd.underlying107 rfl rfl rfl rfl rfl rfl trivial
def ti110 : TI := ⟨1, 8, .other, [.nilFunc]⟩
theorem tiok110 : TIok Tryd.prog 110 ti110 := TIok.of Tryd.type110 Tryd.underlying110 rfl rfl rfl rfl rfl rfl trivial
def ti111 : TI := ⟨1, 8, .other, [.nilFunc]⟩
theorem tiok111 : TIok Tryd.prog 111 ti111 := TIok.of Tryd.type111 Tryd.underlying111 rfl rfl rfl rfl rfl rfl trivial
def ti112 : TI := ⟨1, 8, .other, [.nilFunc]⟩
theorem tiok112 : TIok Tryd.prog 112 ti112 := TIok.of Tryd.type112 Tryd.underlying112 rfl rfl rfl rfl rfl rfl trivial
def ti113 : TI := ⟨1, 8, .int .u64, [(.int .u64 0)]⟩
theorem tiok113 : TIok Tryd.prog 113 ti113 := TIok.of Tryd.type113 Tryd.underlying113 rfl rfl rfl rfl rfl rfl rfl
def ti114 : TI := ⟨1, 8, .other, [.nilFunc]⟩
theorem tiok114 : TIok Tryd.prog 114 ti114 := TIok.of Tryd.type114 Tryd.underlying114 rfl rfl rfl rfl rfl rfl trivial
def ti116 : TI := ⟨1, 8, .ptr 5, [(.pointer none)]⟩
theorem tiok116 : TIok Tryd.prog 116 ti116 := TIok.of Tryd.type116 Tryd.underlying116 rfl rfl rfl rfl rfl rfl rfl
def ti117 : TI := ⟨1, 8, .other, [.nilFunc]⟩
theorem tiok117 : TIok Tryd.prog 117 ti117 := TIok.of Tryd.type117 Tryd.underlying117 rfl rfl rfl rfl rfl rfl trivial
def ti121 : TI := ⟨1, 8, .other, [.nilFunc]⟩
theorem tiok121 : TIok Tryd.prog 121 ti121 := TIok.of Tryd.type121 Tryd.underlying121 rfl rfl rfl rfl rfl rfl trivial
def ti122 : TI := ⟨1, 8, .other, [.nilFunc]⟩
theorem tiok122 : TIok Tryd.prog 122 ti122 := TIok.of Tryd.type122 Tryd.underlying122 rfl rfl rfl rfl rfl rfl trivial
def ti123 : TI := ⟨1, 8, .ptr 119, [(.pointer none)]⟩
theorem tiok123 : TIok Tryd.prog 123 ti123 := TIok.of Tryd.type123 Tryd.underlying123 rfl rfl rfl rfl rfl rfl rfl
def ti124 : TI := ⟨1, 8, .other, [.nilFunc]⟩
theorem tiok124 : TIok Tryd.prog 124 ti124 := TIok.of Tryd.type124 Tryd.underlying124 rfl rfl rfl rfl rfl rfl trivial
def ti125 : TI := ⟨1, 8, .int .i64, [(.int .i64 0)]⟩
theorem tiok125 : TIok Tryd.prog 125 ti125 := TIok.of Tryd.type125 Tryd.underlying125 rfl rfl rfl rfl rfl rfl rfl
def ti126 : TI := ⟨1, 8, .int .u64, [(.int .u64 0)]⟩
theorem tiok126 : TIok Tryd.prog 126 ti126 := TIok.of Tryd.type126 Tryd.underlying126 rfl rfl rfl rfl rfl rfl rfl
def ti129 : TI := ⟨1, 8, .ptr 140, [(.pointer none)]⟩
theorem tiok129 : TIok Tryd.prog 129 ti129 := TIok.of Tryd.type129 Tryd.underlying129 rfl rfl rfl rfl rfl rfl rfl
def ti130 : TI := ⟨1, 8, .other, [.nilFunc]⟩
theorem tiok130 : TIok Tryd.prog 130 ti130 := TIok.of Tryd.type130 Tryd.underlying130 rfl rfl rfl rfl rfl rfl trivial
def ti131 : TI := ⟨1, 8, .other, [.nilFunc]⟩
theorem tiok131 : TIok Tryd.prog 131 ti131 := TIok.of Tryd.type131 Tryd.underlying131 rfl rfl rfl rfl rfl rfl trivial
def ti133 : TI := ⟨1, 8, .other, [.nilFunc]⟩
theorem tiok133 : TIok Tryd.prog 133 ti133 := TIok.of Tryd.type133 Tryd.underlying133 rfl rfl rfl rfl rfl rfl trivial
def ti134 : TI := ⟨1, 8, .other, [.nilFunc]⟩
theorem tiok134 : TIok Tryd.prog 134 ti134 := TIok.of Tryd.type134 Tryd.underlying134 rfl rfl rfl rfl rfl rfl trivial
def ti136 : TI := ⟨1, 8, .other, [.nilFunc]⟩
theorem tiok136 : TIok Tryd.prog 136 ti136 := TIok.of Tryd.type136 Tryd.underlying136 rfl rfl rfl rfl rfl rfl trivial
def ti137 : TI := ⟨1, 8, .other, [.nilFunc]⟩
theorem tiok137 : TIok Tryd.prog 137 ti137 := TIok.of Tryd.type137 Tryd.underlying137 rfl rfl rfl rfl rfl rfl trivial
def ti138 : TI := ⟨1, 8, .other, [.nilFunc]⟩
theorem tiok138 : TIok Tryd.prog 138 ti138 := TIok.of Tryd.type138 Tryd.underlying138 rfl rfl rfl rfl rfl rfl trivial
def ti140 : TI := ⟨3, 48, .struct [(0, 9), (1, 9), (2, 100)], [(.string ⟨⟨[]⟩⟩), (.string ⟨⟨[]⟩⟩), .nilIface]⟩
theorem tiok140 : TIok Tryd.prog 140 ti140 := TIok.of Tryd.type140 Tryd.underlying140 rfl rfl rfl rfl rfl rfl ⟨_, rfl, rfl⟩
def ti142 : TI := ⟨1, 8, .other, [.nilFunc]⟩
theorem tiok142 : TIok Tryd.prog 142 ti142 := TIok.of Tryd.type142 Tryd.underlying142 rfl rfl rfl rfl rfl rfl trivial
def ti147 : TI := ⟨2, 2, .struct [(0, 5), (1, 5)], [(.int .u8 0), (.int .u8 0)]⟩
theorem tiok147 : TIok Tryd.prog 147 ti147 := TIok.of Tryd.type147 Tryd.underlying147 rfl rfl rfl rfl rfl rfl ⟨_, rfl, rfl⟩
def ti148 : TI := ⟨2, 2, .struct [(0, 5), (1, 5)], [(.int .u8 0), (.int .u8 0)]⟩
theorem tiok148 : TIok Tryd.prog 148 ti148 := TIok.of Tryd.type148 Tryd.underlying148 rfl rfl rfl rfl rfl rfl ⟨_, rfl, rfl⟩
def ti150 : TI := ⟨1, 8, .other, [.nilFunc]⟩
theorem tiok150 : TIok Tryd.prog 150 ti150 := TIok.of Tryd.type150 Tryd.underlying150 rfl rfl rfl rfl rfl rfl trivial
def ti151 : TI := ⟨1, 8, .other, [.nilFunc]⟩
theorem tiok151 : TIok Tryd.prog 151 ti151 := TIok.of Tryd.type151 Tryd.underlying151 rfl rfl rfl rfl rfl rfl trivial
def ti152 : TI := ⟨1, 8, .other, [.nilFunc]⟩
theorem tiok152 : TIok Tryd.prog 152 ti152 := TIok.of Tryd.type152 Tryd.underlying152 rfl rfl rfl rfl rfl rfl trivial
def ti153 : TI := ⟨1, 8, .other, [.nilFunc]⟩
theorem tiok153 : TIok Tryd.prog 153 ti153 := TIok.of Tryd.type153 Tryd.underlying153 rfl rfl rfl rfl rfl rfl trivial
def ti155 : TI := ⟨1, 8, .other, [.nilFunc]⟩
theorem tiok155 : TIok Tryd.prog 155 ti155 := TIok.of Tryd.type155 Tryd.underlying155 rfl rfl rfl rfl rfl rfl trivial
def ti156 : TI := ⟨1, 8, .other, [.nilFunc]⟩
theorem tiok156 : TIok Tryd.prog 156 ti156 := TIok.of Tryd.type156 Tryd.underlying156 rfl rfl rfl rfl rfl rfl trivial
def ti158 : TI := ⟨1, 8, .other, [.nilFunc]⟩
theorem tiok158 : TIok Tryd.prog 158 ti158 := TIok.of Tryd.type158 Tryd.underlying158 rfl rfl rfl rfl rfl rfl trivial
def ti159 : TI := ⟨1, 8, .other, [.nilFunc]⟩
theorem tiok159 : TIok Tryd.prog 159 ti159 := TIok.of Tryd.type159 Tryd.underlying159 rfl rfl rfl rfl rfl rfl trivial
def ti161 : TI := ⟨1, 4, .int .u32, [(.int .u32 0)]⟩
theorem tiok161 : TIok Tryd.prog 161 ti161 := TIok.of Tryd.type161 Tryd.underlying161 rfl rfl rfl rfl rfl rfl rfl
def ti163 : TI := ⟨1, 8, .other, [.nilFunc]⟩
theorem tiok163 : TIok Tryd.prog 163 ti163 := TIok.of Tryd.type163 Tryd.underlying163 rfl rfl rfl rfl rfl rfl trivial
def ti164 : TI := ⟨1, 8, .other, [.nilFunc]⟩
theorem tiok164 : TIok Tryd.prog 164 ti164 := TIok.of Tryd.type164 Tryd.underlying164 rfl rfl rfl rfl rfl rfl trivial
def ti165 : TI := ⟨1, 8, .other, [.nilFunc]⟩
theorem tiok165 : TIok Tryd.prog 165 ti165 := TIok.of Tryd.type165 Tryd.underlying165 rfl rfl rfl rfl rfl rfl trivial
def ti168 : TI := ⟨4, 40, .struct [(0, 17), (1, 17), (2, 17), (3, 9)], [(.pointer none), (.pointer none), (.pointer none), (.string ⟨⟨[]⟩⟩)]⟩
theorem tiok168 : TIok Tryd.prog 168 ti168 := TIok.of Tryd.type168 Tryd.underlying168 rfl rfl rfl rfl rfl rfl ⟨_, rfl, rfl⟩
def ti169 : TI := ⟨4, 40, .struct [(0, 17), (1, 17), (2, 17), (3, 9)], [(.pointer none), (.pointer none), (.pointer none), (.string ⟨⟨[]⟩⟩)]⟩
theorem tiok169 : TIok Tryd.prog 169 ti169 := TIok.of Tryd.type169 Tryd.underlying169 rfl rfl rfl rfl rfl rfl ⟨_, rfl, rfl⟩
def ti171 : TI := ⟨0, 0, .struct [(0, 170)], []⟩
theorem tiok171 : TIok Tryd.prog 171 ti171 := TIok.of Tryd.type171 Tryd.underlying171 rfl rfl rfl rfl rfl rfl ⟨_, rfl, rfl⟩
def ti172 : TI := ⟨0, 0, .struct [(0, 170)], []⟩
theorem tiok172 : TIok Tryd.prog 172 ti172 := TIok.of Tryd.type172 Tryd.underlying172 rfl rfl rfl rfl rfl rfl ⟨_, rfl, rfl⟩
def ti173 : TI := ⟨1, 8, .other, [.nilFunc]⟩
theorem tiok173 : TIok Tryd.prog 173 ti173 := TIok.of Tryd.type173 Tryd.underlying173 rfl rfl rfl rfl rfl rfl trivial
def ti174 : TI := ⟨1, 1, .int .u8, [(.int .u8 0)]⟩
theorem tiok174 : TIok Tryd.prog 174 ti174 := TIok.of Tryd.type174 Tryd.underlying174 rfl rfl rfl rfl rfl rfl rfl
def ti175 : TI := ⟨1, 1, .int .u8, [(.int .u8 0)]⟩
theorem tiok175 : TIok Tryd.prog 175 ti175 := TIok.of Tryd.type175 Tryd.underlying175 rfl rfl rfl rfl rfl rfl rfl
def ti176 : TI := ⟨1, 8, .other, [.nilFunc]⟩
theorem tiok176 : TIok Tryd.prog 176 ti176 := TIok.of Tryd.type176 Tryd.underlying176 rfl rfl rfl rfl rfl rfl trivial
def ti177 : TI := ⟨1, 4, .int .i32, [(.int .i32 0)]⟩
theorem tiok177 : TIok Tryd.prog 177 ti177 := TIok.of Tryd.type177 Tryd.underlying177 rfl rfl rfl rfl rfl rfl rfl
def ti178 : TI := ⟨1, 4, .int .i32, [(.int .i32 0)]⟩
theorem tiok178 : TIok Tryd.prog 178 ti178 := TIok.of Tryd.type178 Tryd.underlying178 rfl rfl rfl rfl rfl rfl rfl
def ti179 : TI := ⟨11, 48, .struct [(0, 12), (1, 12), (2, 161), (3, 174), (4, 5), (5, 5), (6, 175), (7, 176), (8, 116), (9, 177), (10, 178)], [(.int .u64 0), (.int .u64 0), (.int .u32 0), (.int .u8 0), (.int .u8 0), (.int .u8 0), (.int .u8 0), .nilFunc, (.pointer none), (.int .i32 0), (.int .i32 0)]⟩
theorem tiok179 : TIok Tryd.prog 179 ti179 := TIok.of Tryd.type179 Tryd.underlying179 rfl rfl rfl rfl rfl rfl ⟨_, rfl, rfl⟩
def ti180 : TI := ⟨11, 48, .struct [(0, 12), (1, 12), (2, 161), (3, 174), (4, 5), (5, 5), (6, 175), (7, 176), (8, 116), (9, 177), (10, 178)], [(.int .u64 0), (.int .u64 0), (.int .u32 0), (.int .u8 0), (.int .u8 0), (.int .u8 0), (.int .u8 0), .nilFunc, (.pointer none), (.int .i32 0), (.int .i32 0)]⟩
theorem tiok180 : TIok Tryd.prog 180 ti180 := TIok.of Tryd.type180 Tryd.underlying180 rfl rfl rfl rfl rfl rfl ⟨_, rfl, rfl⟩
def tys : Tr := (.node 80 ti80 (.node 39 ti39 (.node 21 ti21 (.node 11 ti11 (.node 5 ti5 (.node 3 ti3 (.node 2 ti2 (.node 1 ti1 .nil .nil) .nil) (.node 4 ti4 .nil .nil)) (.node 8 ti8 (.node 7 ti7 (.node 6 ti6 .nil .nil) .nil) (.node 9 ti9 .nil .nil))) (.node 17 ti17 (.node 15 ti15 (.node 13 ti13 (.node 12 ti12 .nil .nil) .nil) (.node 16 ti16 .nil .nil)) (.node 19 ti19 (.node 18 ti18 .nil .nil) (.node 20 ti20 .nil .nil)))) (.node 30 ti30 (.node 26 ti26 (.node 24 ti24 (.node 23 ti23 (.node 22 ti22 .nil .nil) .nil) (.node 25 ti25 .nil .nil)) (.node 28 ti28 (.node 27 ti27 .nil .nil) (.node 29 ti29 .nil .nil))) (.node 35 ti35 (.node 33 ti33 (.node 32 ti32 (.node 31 ti31 .nil .nil) .nil) (.node 34 ti34 .nil .nil)) (.node 37 ti37 (.node 36 ti36 .nil .nil) (.node 38 ti38 .nil .nil))))) (.node 61 ti61 (.node 49 ti49 (.node 45 ti45 (.node 43 ti43 (.node 42 ti42 (.node 41 ti41 .nil .nil) .nil) (.node 44 ti44 .nil .nil)) (.node 47 ti47 (.node 46 ti46 .nil .nil) (.node 48 ti48 .nil .nil))) (.node 57 ti57 (.node 53 ti53 (.node 52 ti52 (.node 50 ti50 .nil .nil) .nil) (.node 55 ti55 .nil .nil)) (.node 59 ti59 (.node 58 ti58 .nil .nil) (.node 60 ti60 .nil .nil)))) (.node 71 ti71 (.node 67 ti67 (.node 65 ti65 (.node 64 ti64 (.node 63 ti63 .nil .nil) .nil) (.node 66 ti66 .nil .nil)) (.node 69 ti69 (.node 68 ti68 .nil .nil) (.node 70 ti70 .nil .nil))) (.node 76 ti76 (.node 74 ti74 (.node 73 ti73 (.node 72 ti72 .nil .nil) .nil) (.node 75 ti75 .nil .nil)) (.node 78 ti78 (.node 77 ti77 .nil .nil) (.node 79 ti79 .nil .nil)))))) (.node 129 ti129 (.node 103 ti103 (.node 91 ti91 (.node 86 ti86 (.node 83 ti83 (.node 82 ti82 (.node 81 ti81 .nil .nil) .nil) (.node 85 ti85 .nil .nil)) (.node 89 ti89 (.node 88 ti88 (.node 87 ti87 .nil .nil) .nil) (.node 90 ti90 .nil .nil))) (.node 96 ti96 (.node 94 ti94 (.node 93 ti93 (.node 92 ti92 .nil .nil) .nil) (.node 95 ti95 .nil .nil)) (.node 98 ti98 (.node 97 ti97 .nil .nil) (.node 99 ti99 .nil .nil)))) (.node 114 ti114 (.node 110 ti110 (.node 106 ti106 (.node 105 ti105 (.node 104 ti104 .nil .nil) .nil) (.node 107 ti107 .nil .nil)) (.node 112 ti112 (.node 111 ti111 .nil .nil) (.node 113 ti113 .nil .nil))) (.node 123 ti123 (.node 121 ti121 (.node 117 ti117 (.node 116 ti116 .nil .nil) .nil) (.node 122 ti122 .nil .nil)) (.node 125 ti125 (.node 124 ti124 .nil .nil) (.node 126 ti126 .nil .nil))))) (.node 158 ti158 (.node 142 ti142 (.node 136 ti136 (.node 133 ti133 (.node 131 ti131 (.node 130 ti130 .nil .nil) .nil) (.node 134 ti134 .nil .nil)) (.node 138 ti138 (.node 137 ti137 .nil .nil) (.node 140 ti140 .nil .nil))) (.node 152 ti152 (.node 150 ti150 (.node 148 ti148 (.node 147 ti147 .nil .nil) .nil) (.node 151 ti151 .nil .nil)) (.node 155 ti155 (.node 153 ti153 .nil .nil) (.node 156 ti156 .nil .nil)))) (.node 172 ti172 (.node 165 ti165 (.node 163 ti163 (.node 161 ti161 (.node 159 ti159 .nil .nil) .nil) (.node 164 ti164 .nil .nil)) (.node 169 ti169 (.node 168 ti168 .nil .nil) (.node 171 ti171 .nil .nil))) (.node 177 ti177 (.node 175 ti175 (.node 174 ti174 (.node 173 ti173 .nil .nil) .nil) (.node 176 ti176 .nil .nil)) (.node 179 ti179 (.node 178 ti178 .nil .nil) (.node 180 ti180 .nil .nil)))))))
def Θ : Nat → Option TI := tys.get
theorem hΘ : ThOk Tryd.prog Θ := Tr.ok (t := tys) ⟨tiok80, ⟨tiok39, ⟨tiok21, ⟨tiok11, ⟨tiok5, ⟨tiok3, ⟨tiok2, ⟨tiok1, trivial, trivial⟩, trivial⟩, ⟨tiok4, trivial, trivial⟩⟩, ⟨tiok8, ⟨tiok7, ⟨tiok6, trivial, trivial⟩, trivial⟩, ⟨tiok9, trivial, trivial⟩⟩⟩, ⟨tiok17, ⟨tiok15, ⟨tiok13, ⟨tiok12, trivial, trivial⟩, trivial⟩, ⟨tiok16, trivial, trivial⟩⟩, ⟨tiok19, ⟨tiok18, trivial, trivial⟩, ⟨tiok20, trivial, trivial⟩⟩⟩⟩, ⟨tiok30, ⟨tiok26, ⟨tiok24, ⟨tiok23, ⟨tiok22, trivial, trivial⟩, trivial⟩, ⟨tiok25, trivial, trivial⟩⟩, ⟨tiok28, ⟨tiok27, trivial, trivial⟩, ⟨tiok29, trivial, trivial⟩⟩⟩, ⟨tiok35, ⟨tiok33, ⟨tiok32, ⟨tiok31, trivial, trivial⟩, trivial⟩, ⟨tiok34, trivial, trivial⟩⟩, ⟨tiok37, ⟨tiok36, trivial, trivial⟩, ⟨tiok38, trivial, trivial⟩⟩⟩⟩⟩, ⟨tiok61, ⟨tiok49, ⟨tiok45, ⟨tiok43, ⟨tiok42, ⟨tiok41, trivial, trivial⟩, trivial⟩, ⟨tiok44, trivial, trivial⟩⟩, ⟨tiok47, ⟨tiok46, trivial, trivial⟩, ⟨tiok48, trivial, trivial⟩⟩⟩, ⟨tiok57, ⟨tiok53, ⟨tiok52, ⟨tiok50, trivial, trivial⟩, trivial⟩, ⟨tiok55, trivial, trivial⟩⟩, ⟨tiok59, ⟨tiok58, trivial, trivial⟩, ⟨tiok60, trivial, trivial⟩⟩⟩⟩, ⟨tiok71, ⟨tiok67, ⟨tiok65, ⟨tiok64, ⟨tiok63, trivial, trivial⟩, trivial⟩, ⟨tiok66, trivial, trivial⟩⟩, ⟨tiok69, ⟨tiok68, trivial, trivial⟩, ⟨tiok70, trivial, trivial⟩⟩⟩, ⟨tiok76, ⟨tiok74, ⟨tiok73, ⟨tiok72, trivial, trivial⟩, trivial⟩, ⟨tiok75, trivial, trivial⟩⟩, ⟨tiok78, ⟨tiok77, trivial, trivial⟩, ⟨tiok79, trivial, trivial⟩⟩⟩⟩⟩⟩, ⟨tiok129, ⟨tiok103, ⟨tiok91, ⟨tiok86, ⟨tiok83, ⟨tiok82, ⟨tiok81, trivial, trivial⟩, trivial⟩, ⟨tiok85, trivial, trivial⟩⟩, ⟨tiok89, ⟨tiok88, ⟨tiok87, trivial, trivial⟩, trivial⟩, ⟨tiok90, trivial, trivial⟩⟩⟩, ⟨tiok96, ⟨tiok94, ⟨tiok93, ⟨tiok92, trivial, trivial⟩, trivial⟩, ⟨tiok95, trivial, trivial⟩⟩, ⟨tiok98, ⟨tiok97, trivial, trivial⟩, ⟨tiok99, trivial, trivial⟩⟩⟩⟩, ⟨tiok114, ⟨tiok110, ⟨tiok106, ⟨tiok105, ⟨tiok104, trivial, trivial⟩, trivial⟩, ⟨tiok107, trivial, trivial⟩⟩, ⟨tiok112, ⟨tiok111, trivial, trivial⟩, ⟨tiok113, trivial, trivial⟩⟩⟩, ⟨tiok123, ⟨tiok121, ⟨tiok117, ⟨tiok116, trivial, trivial⟩, trivial⟩, ⟨tiok122, trivial, trivial⟩⟩, ⟨tiok125, ⟨tiok124, trivial, trivial⟩, ⟨tiok126, trivial, trivial⟩⟩⟩⟩⟩, ⟨tiok158, ⟨tiok142, ⟨tiok136, ⟨tiok133, ⟨tiok131, ⟨tiok130, trivial, trivial⟩, trivial⟩, ⟨tiok134, trivial, trivial⟩⟩, ⟨tiok138, ⟨tiok137, trivial, trivial⟩, ⟨tiok140, trivial, trivial⟩⟩⟩, ⟨tiok152, ⟨tiok150, ⟨tiok148, ⟨tiok147, trivial, trivial⟩, trivial⟩, ⟨tiok151, trivial, trivial⟩⟩, ⟨tiok155, ⟨tiok153, trivial, trivial⟩, ⟨tiok156, trivial, trivial⟩⟩⟩⟩, ⟨tiok172, ⟨tiok165, ⟨tiok163, ⟨tiok161, ⟨tiok159, trivial, trivial⟩, trivial⟩, ⟨tiok164, trivial, trivial⟩⟩, ⟨tiok169, ⟨tiok168, trivial, trivial⟩, ⟨tiok171, trivial, trivial⟩⟩⟩, ⟨tiok177, ⟨tiok175, ⟨tiok174, ⟨tiok173, trivial, trivial⟩, trivial⟩, ⟨tiok176, trivial, trivial⟩⟩, ⟨tiok179, ⟨tiok178, trivial, trivial⟩, ⟨tiok180, trivial, trivial⟩⟩⟩⟩⟩⟩⟩
end Go.Proofs.YteihhmonnbeekaaDoor
namespace Go.Proofs.YteihhmonnbeekaaDoor
open Go Go.Proofs.YteihhmonnbeekaaDoor.Vs

/-! #### bytes -/
def isBlank (x : Int) : Bool := x == 32 || x == 9
def isLetter (x : Int) : Bool := (decide (97 ≤ x) && decide (x ≤ 122)) || (decide (65 ≤ x) && decide (x ≤ 90))
def isDigit (x : Int) : Bool := decide (48 ≤ x) && decide (x ≤ 57)
def isVisible (x : Int) : Bool := (decide (32 ≤ x) && decide (x ≤ 126)) || x == 9
def tokenMarks : List UInt8 := [33, 35, 36, 37, 38, 39, 42, 43, 45, 46, 94, 95, 124, 126, 96]
def isMark (x : Int) : Bool := tokenMarks.any fun b => x == (b.toNat : Int)
def isToken (x : Int) : Bool := isLetter x || isDigit x || isMark x

theorem l1Blank_c (x : Int) : VC Tryd.prog 102 [.val (.int .u8 x)] (.val (.bool (isBlank x))) := by
  refine VC.intro hΘ Tryd.func102 rfl rfl Tryd.ntmps102 rfl rfl rfl fun B hB => ?_
  (conv => whnf)
  repeat' first
    | (refine brm_intro (fun _ => ?_) (fun _ => ?_) <;> (conv => whnf))
    | refine vfin_bool (Bool.eq_iff_iff.2 ?_)
  all_goals (simp [isBlank] at *; try omega)
theorem isDigit_c (x : Int) : VC Tryd.prog 98 [.val (.int .u8 x)] (.val (.bool (isDigit x))) := by
  refine VC.intro hΘ Tryd.func98 rfl rfl Tryd.ntmps98 rfl rfl rfl fun B hB => ?_
  (conv => whnf)
  repeat' first
    | (refine brm_intro (fun _ => ?_) (fun _ => ?_) <;> (conv => whnf))
    | refine vfin_bool (Bool.eq_iff_iff.2 ?_)
  all_goals (simp [isDigit] at *; try omega)
theorem isVisible_c (x : Int) : VC Tryd.prog 107 [.val (.int .u8 x)] (.val (.bool (isVisible x))) := by
  refine VC.intro hΘ Tryd.func107 rfl rfl Tryd.ntmps107 rfl rfl rfl fun B hB => ?_
  (conv => whnf)
  repeat' first
    | (refine brm_intro (fun _ => ?_) (fun _ => ?_) <;> (conv => whnf))
    | refine vfin_bool (Bool.eq_iff_iff.2 ?_)
  all_goals (simp [isVisible] at *; try omega)
theorem isLetter_c (x : Int) : VC Tryd.prog 97 [.val (.int .u8 x)] (.val (.bool (isLetter x))) := by
  refine VC.intro hΘ Tryd.func97 rfl rfl Tryd.ntmps97 rfl rfl rfl fun B hB => ?_
  (conv => whnf)
  repeat' first
    | (refine brm_intro (fun _ => ?_) (fun _ => ?_) <;> (conv => whnf))
    | refine vfin_bool (Bool.eq_iff_iff.2 ?_)
  all_goals (simp [isLetter] at *; try omega)
theorem l1Token_c (x : Int) : VC Tryd.prog 100 [.val (.int .u8 x)] (.val (.bool (isToken x))) := by
  refine VC.intro' hΘ Tryd.func100 rfl rfl Tryd.ntmps100 rfl rfl rfl fun B hB => ?_
  refine vsem_seq (vsem_code hΘ hB ?_)
  (conv => whnf)
  refine vsem_seq (vsem_block ?_)
  refine vsem_seq (vsem_cut (ι := Unit) (fun _ => ⟨[(0, .val (.int .u8 x)), (5, .val (.bool (isLetter x || isDigit x)))], []⟩) (fun _ => True) (vsem_code hΘ hB ?_) ?_)
  · (conv => whnf)
    repeat' refine brm_intro (fun _ => ?_) (fun _ => ?_) <;> (conv => whnf)
    all_goals refine ⟨(), ⟨⟨.inr rfl, .inr (vbool_eq (Bool.eq_iff_iff.2 ?_)), trivial⟩, trivial⟩, trivial⟩
    all_goals (simp [isLetter, isDigit] at *; try omega)
  intro _ _
  refine vsem_code hΘ hB ?_
  (conv => whnf)
  refine brm_intro (fun h => ?_) (fun h => ?_) <;> (conv => whnf)
  · refine vfin_bool ?_
    rw [isToken, h]; rfl
  refine vsem_code hΘ hB ?_
  (conv => whnf)
  have hmk : [[C.v (.int .u8 33)], [C.v (.int .u8 35)], [C.v (.int .u8 36)], [C.v (.int .u8 37)], [C.v (.int .u8 38)], [C.v (.int .u8 39)], [C.v (.int .u8 42)], [C.v (.int .u8 43)], [C.v (.int .u8 45)], [C.v (.int .u8 46)], [C.v (.int .u8 94)], [C.v (.int .u8 95)], [C.v (.int .u8 124)], [C.v (.int .u8 126)], [C.v (.int .u8 96)]] = bytesC tokenMarks := by simp [bytesC, tokenMarks]
  have hlen : (bytesC tokenMarks).length = 15 := rfl
  refine vloop_intro hΘ hB (ι := Nat) (fun i => ⟨[(0, .val (.int .u8 x)), (28, .own 1 (bytesC tokenMarks)), (29, .hd (.sl 28 0 0)), (30, .val (.int .i64 15)), (31, .val (.int .i64 i))], []⟩)
    (fun i => i ≤ 15 ∧ (tokenMarks.drop i).any (fun b => x == (b.toNat : Int)) = isMark x) (fun i => 15 - i) 0 ⟨⟨.inr rfl, .inr (vown_eq hmk), .inr rfl, .inr rfl, .inr rfl, trivial⟩, trivial⟩ ⟨by omega, rfl⟩ ?_
  rintro i ⟨k1, k2⟩
  (conv => whnf)
  refine brm_intro (fun h' => ?_) (fun h' => ?_) <;> simp only [decide_eq_true_eq, decide_eq_false_iff_not] at h' <;> (conv => whnf)
  · have hi : i < tokenMarks.length := by show i < 15; omega
    refine vix_intro i rfl (by rw [hlen]; exact hi) ?_
    (conv => whnf)
    rw [List.drop_eq_getElem_cons hi] at k2
    have hg : tokenMarks[i]? = some tokenMarks[i] := List.getElem?_eq_getElem hi
    generalize tokenMarks[i] = b at k2 hg
    refine vat_intro i [C.v (.int .u8 b.toNat)] rfl (by rw [bytesC, List.getElem?_map, hg]; rfl) ?_
    (conv => whnf)
    refine brm_intro (fun h2 => ?_) (fun h2 => ?_) <;> (conv => whnf)
    · refine vfin_bool ?_
      simp only [List.any_cons] at k2
      have : (x == (b.toNat : Int)) = true := by simp at h2 ⊢; omega
      rw [this, Bool.true_or] at k2
      rw [isToken, ← k2, Bool.or_true]
    · simp only [List.any_cons] at k2
      have : (x == (b.toNat : Int)) = false := by simp at h2 ⊢; omega
      rw [this, Bool.false_or] at k2
      exact ⟨i + 1, ⟨⟨.inr rfl, .inr rfl, .inr rfl, .inr rfl, .inr (vint_eq (by simp (disch := omega) only [wrap_i64]; rfl)), trivial⟩, trivial⟩, ⟨by omega, k2⟩, by omega⟩
  · refine vfin_bool ?_
    have : tokenMarks.drop i = [] := List.drop_eq_nil_of_le (by show 15 ≤ i; omega)
    rw [this] at k2
    rw [isToken, h, ← k2]; rfl
end Go.Proofs.YteihhmonnbeekaaDoor
namespace Go.Proofs.YteihhmonnbeekaaDoor
open Go Go.Proofs.YteihhmonnbeekaaDoor.Vs

/-! #### texts -/
theorem byteAt_get {l : List UInt8} {i : Nat} {b : UInt8} (h : l[i]? = some b) : byteAt l i = (b.toNat : Int) := by
  simp [byteAt, List.getD_eq_getElem?_getD, h]
def tokenOk (l : List UInt8) : Bool := (decide (1 ≤ l.length) && decide (l.length ≤ 64)) && l.all fun b => isToken b.toNat
def visibleOk (l : List UInt8) : Bool := decide (l.length ≤ 400) && l.all fun b => isVisible b.toNat
def lowerB (b : UInt8) : UInt8 := if 65 ≤ b.toNat ∧ b.toNat ≤ 90 then b + 32 else b
def lower (l : List UInt8) : List UInt8 := l.map lowerB
def blankB (b : UInt8) : Bool := isBlank b.toNat
def trimL (l : List UInt8) : List UInt8 := l.dropWhile blankB
def trimR (l : List UInt8) : List UInt8 := (l.reverse.dropWhile blankB).reverse
def trimmed (l : List UInt8) : List UInt8 := trimR (trimL l)

theorem tokenOkS_c (s : ByteArray) (hs : (sb s).length ≤ 140737488355328) : VC Tryd.prog 66 [.val (.string s)] (.val (.bool (tokenOk (sb s)))) := by
  refine VC.intro hΘ Tryd.func66 rfl rfl Tryd.ntmps66 rfl rfl rfl fun B hB => ?_
  generalize hl : sb s = l at *
  (conv => whnf)
  refine brm_intro (fun h => ?_) (fun h => ?_) <;> (conv => whnf) <;> rw [hl] at h <;> simp only [decide_eq_true_eq, decide_eq_false_iff_not] at h
  · refine vfin_bool ?_
    have : ¬ 1 ≤ l.length := by omega
    simp [tokenOk, this]
  refine brm_intro (fun h' => ?_) (fun h' => ?_) <;> (conv => whnf) <;> rw [hl] at h' <;> simp only [decide_eq_true_eq, decide_eq_false_iff_not] at h'
  · refine vfin_bool ?_
    have : ¬ l.length ≤ 64 := by omega
    simp [tokenOk, this]
  have hT : tokenOk l = l.all fun b => isToken b.toNat := by
    have h1 : 1 ≤ l.length := by omega
    have h2 : l.length ≤ 64 := by omega
    simp [tokenOk, h1, h2]
  rw [hT]
  refine vloop_intro hΘ hB (ι := Nat) (fun i => ⟨[(0, .val (.string s)), (3, .val (.int .i64 i))], []⟩) (fun i => i ≤ l.length ∧ (l.drop i).all (fun b => isToken b.toNat) = l.all fun b => isToken b.toNat) (fun i => l.length - i) 0
    ⟨⟨.inr rfl, .inr rfl, trivial⟩, trivial⟩ ⟨by omega, rfl⟩ ?_
  rintro i ⟨k1, k2⟩
  (conv => whnf)
  refine brm_intro (fun h => ?_) (fun h => ?_) <;> (conv => whnf) <;> rw [hl] at h <;> simp only [decide_eq_true_eq, decide_eq_false_iff_not] at h
  · have hi : i < l.length := by omega
    refine vix_intro i rfl (by rw [hl]; exact hi) ?_
    rw [List.drop_eq_getElem_cons hi, List.all_cons] at k2
    have hg := byteAt_get (List.getElem?_eq_getElem hi)
    generalize l[i] = b at k2 hg
    (conv => whnf)
    refine vcallS_intro0 rfl (l1Token_c (byteAt (sb s) i)) (f1 (av rfl) f0) ?_
    (conv => whnf)
    rw [hl, hg]
    refine brm_intro (fun h2 => ?_) (fun h2 => ?_) <;> (conv => whnf)
    · refine vfin_bool ?_
      simp only [Bool.not_eq_true'] at h2
      rw [h2, Bool.false_and] at k2
      exact k2
    · simp only [Bool.not_eq_false'] at h2
      rw [h2, Bool.true_and] at k2
      exact ⟨i + 1, ⟨⟨.inr rfl, .inr (vint_eq (by simp (disch := omega) only [wrap_i64]; rfl)), trivial⟩, trivial⟩, ⟨by omega, k2⟩, by omega⟩
  · refine vfin_bool ?_
    have : l.drop i = [] := List.drop_eq_nil_of_le (by omega)
    rw [this] at k2
    exact k2
end Go.Proofs.YteihhmonnbeekaaDoor
namespace Go.Proofs.YteihhmonnbeekaaDoor
open Go Go.Proofs.YteihhmonnbeekaaDoor.Vs

theorem visibleOkS_c (s : ByteArray) (hs : (sb s).length ≤ 140737488355328) : VC Tryd.prog 70 [.val (.string s)] (.val (.bool (visibleOk (sb s)))) := by
  refine VC.intro hΘ Tryd.func70 rfl rfl Tryd.ntmps70 rfl rfl rfl fun B hB => ?_
  generalize hl : sb s = l at *
  (conv => whnf)
  refine brm_intro (fun h => ?_) (fun h => ?_) <;> (conv => whnf) <;> rw [hl] at h <;> simp only [decide_eq_true_eq, decide_eq_false_iff_not] at h
  · refine vfin_bool ?_
    have : ¬ l.length ≤ 400 := by omega
    simp [visibleOk, this]
  have hT : visibleOk l = l.all fun b => isVisible b.toNat := by
    have h2 : l.length ≤ 400 := by omega
    simp [visibleOk, h2]
  rw [hT]
  refine vloop_intro hΘ hB (ι := Nat) (fun i => ⟨[(0, .val (.string s)), (3, .val (.int .i64 i))], []⟩) (fun i => i ≤ l.length ∧ (l.drop i).all (fun b => isVisible b.toNat) = l.all fun b => isVisible b.toNat) (fun i => l.length - i) 0
    ⟨⟨.inr rfl, .inr rfl, trivial⟩, trivial⟩ ⟨by omega, rfl⟩ ?_
  rintro i ⟨k1, k2⟩
  (conv => whnf)
  refine brm_intro (fun h => ?_) (fun h => ?_) <;> (conv => whnf) <;> rw [hl] at h <;> simp only [decide_eq_true_eq, decide_eq_false_iff_not] at h
  · have hi : i < l.length := by omega
    have hi' : i < (sb s).length := by rw [hl]; exact hi
    rw [List.drop_eq_getElem_cons hi, List.all_cons] at k2
    have hg := byteAt_get (List.getElem?_eq_getElem hi)
    generalize l[i] = b at k2 hg
    rw [← hl] at hg
    repeat' first
      | (refine vix_intro i rfl hi' ?_; (conv => whnf))
      | (refine brm_intro (fun _ => ?_) (fun _ => ?_) <;> (conv => whnf))
    all_goals (simp only [hg, decide_eq_true_eq, decide_eq_false_iff_not, bne_iff_ne, ne_eq, bne_eq_false_iff_eq] at *)
    all_goals first
      | (have hv : isVisible b.toNat = false := by (simp [isVisible]; omega)
         refine vfin_bool ?_
         rw [hv, Bool.false_and] at k2; exact k2)
      | (have hv : isVisible b.toNat = true := by (simp [isVisible]; omega)
         rw [hv, Bool.true_and] at k2
         exact ⟨i + 1, ⟨⟨.inr rfl, .inr (vint_eq (by simp (disch := omega) only [wrap_i64]; rfl)), trivial⟩, trivial⟩, ⟨by omega, k2⟩, by omega⟩)
  · refine vfin_bool ?_
    have : l.drop i = [] := List.drop_eq_nil_of_le (by omega)
    rw [this] at k2
    exact k2
theorem trimmedS_c (s : ByteArray) (hs : (sb s).length ≤ 140737488355328) : VC Tryd.prog 71 [.val (.string s)] (.val (.string (bs (trimmed (sb s))))) := by
  refine VC.intro' hΘ Tryd.func71 rfl rfl Tryd.ntmps71 rfl rfl rfl fun B hB => ?_
  refine vsem_seq (vsem_code hΘ hB ?_)
  (conv => whnf)
  refine vsem_seq (vsem_cut (ι := Unit) (fun _ => ⟨[(0, .val (.string (bs (trimL (sb s)))))], []⟩) (fun _ => True) (vsem_code hΘ hB ?_) ?_)
  · (conv => whnf)
    refine vloop_intro hΘ hB (ι := List UInt8) (fun l => ⟨[(0, .val (.string (bs l)))], []⟩) (fun l => l.length ≤ 140737488355328 ∧ trimL l = trimL (sb s)) (fun l => l.length) (sb s)
      ⟨⟨.inr rfl, trivial⟩, trivial⟩ ⟨hs, rfl⟩ ?_
    rintro (_ | ⟨b, r⟩) ⟨k1, k2⟩ <;> (conv => whnf)
    · exact ⟨(), ⟨⟨.inr (vstr_eq (congrArg bs k2)), trivial⟩, trivial⟩, trivial⟩
    · refine vix_intro 0 rfl (Nat.succ_pos _) ?_
      (conv => whnf)
      refine vcallS_intro0 rfl (l1Blank_c b.toNat) (f1 (av rfl) f0) ?_
      (conv => whnf)
      refine brm_intro (fun h => ?_) (fun h => ?_) <;> (conv => whnf)
      · refine vrange_intro 1 (r.length + 1) rfl rfl (by omega) (Nat.le_refl _) ?_
        (conv => whnf)
        refine ⟨r, ⟨⟨.inr (vstr_eq (congrArg bs ?_)), trivial⟩, trivial⟩, ⟨by simp at k1; omega, ?_⟩, by simp⟩
        · show (r.take (r.length + 1 - 1)) = r
          simp
        · rw [← k2]
          have hb : blankB b = true := h
          simp [trimL, hb]
      · refine ⟨(), ⟨⟨.inr (vstr_eq (congrArg bs ?_)), trivial⟩, trivial⟩, trivial⟩
        rw [← k2]
        have hb : blankB b = false := h
        show b :: r = _
        simp [trimL, hb]
  intro _ _
  refine vsem_code hΘ hB ?_
  (conv => whnf)
  have htl : (trimL (sb s)).length ≤ 140737488355328 := Nat.le_trans (List.dropWhile_sublist _).length_le hs
  refine vloop_intro hΘ hB (ι := List UInt8) (fun m => ⟨[(0, .val (.string (bs m.reverse)))], []⟩) (fun m => m.length ≤ 140737488355328 ∧ m.dropWhile blankB = (trimL (sb s)).reverse.dropWhile blankB) (fun m => m.length) (trimL (sb s)).reverse
    ⟨⟨.inr (vstr_eq (congrArg bs (List.reverse_reverse _).symm)), trivial⟩, trivial⟩ ⟨by simpa using htl, rfl⟩ ?_
  rintro m ⟨k1, k2⟩
  (conv => whnf)
  refine brm_intro (fun h => ?_) (fun h => ?_) <;> (conv => whnf) <;> simp only [sb_bs] at h
  · match m, h, k1, k2 with
    | [], h, _, _ => exact absurd h (by decide)
    | b :: r, _, k1, k2 =>
      have hlen : (sb (bs (b :: r).reverse)).length = r.length + 1 := by rw [sb_bs]; simp
      have hw : IntKind.i64.wrap (((sb (bs (b :: r).reverse)).length : Int) - 1) = (r.length : Int) := by
        rw [hlen]; simp at k1; rw [wrap_i64 (by omega) (by omega)]; omega
      refine vix_intro r.length hw (by rw [hlen]; omega) ?_
      have hb : byteAt (sb (bs (b :: r).reverse)) r.length = (b.toNat : Int) := byteAt_get (by rw [sb_bs]; simp)
      (conv => whnf)
      refine vcallS_intro0 rfl (l1Blank_c (byteAt (sb (bs (b :: r).reverse)) r.length)) (f1 (av rfl) f0) ?_
      (conv => whnf)
      rw [hb]
      refine brm_intro (fun h => ?_) (fun h => ?_) <;> (conv => whnf)
      · refine vrange_intro 0 r.length rfl hw (by omega) (by rw [hlen]; omega) ?_
        (conv => whnf)
        refine ⟨r, ⟨⟨.inr (vstr_eq (congrArg bs ?_)), trivial⟩, trivial⟩, ⟨by simp at k1; omega, ?_⟩, by simp⟩
        · rw [sb_bs]; simp
        · rw [← k2]
          have hb : blankB b = true := h
          simp [hb]
      · refine vfin_str (congrArg bs ?_)
        have hb : blankB b = false := h
        rw [trimmed, trimR, ← k2]
        simp [hb]
  · refine vfin_str (congrArg bs ?_)
    match m, h, k2 with
    | b :: r, h, _ => exfalso; simp at h; have := congrArg List.length h; simp [sb] at this
    | [], _, k2 => rw [trimmed, trimR, ← k2]; rfl
end Go.Proofs.YteihhmonnbeekaaDoor
namespace Go.Proofs.YteihhmonnbeekaaDoor
open Go Go.Proofs.YteihhmonnbeekaaDoor.Vs

theorem lower_step {l : List UInt8} {i : Nat} {b : UInt8} (h : l[i]? = some b) : (lower (l.take i) ++ l.drop i).set i (lowerB b) = lower (l.take (i + 1)) ++ l.drop (i + 1) := by
  have hi := (List.getElem?_eq_some_iff.1 h).1
  have hb := (List.getElem?_eq_some_iff.1 h).2
  rw [List.drop_eq_getElem_cons hi, List.take_succ_eq_append_getElem hi]
  have hlen : (lower (l.take i)).length = i := by simp [lower]; omega
  rw [List.set_append_right _ _ (by omega), hlen, Nat.sub_self, List.set_cons_zero]
  simp [lower, hb]
theorem lower_id {l : List UInt8} {i : Nat} {b : UInt8} (h : l[i]? = some b) (hb : lowerB b = b) : lower (l.take i) ++ l.drop i = lower (l.take (i + 1)) ++ l.drop (i + 1) := by
  rw [← lower_step h, hb]
  have hi := (List.getElem?_eq_some_iff.1 h).1
  have hlen : (lower (l.take i)).length = i := by simp [lower]; omega
  apply List.ext_getElem?
  intro k
  rw [List.getElem?_set]
  split
  · rename_i e
    subst e
    rw [if_pos (by simp [hlen]; omega), List.getElem?_append_right (by omega), hlen, Nat.sub_self, List.getElem?_drop, Nat.add_zero]
    exact h
  · rfl
theorem lower_at {l : List UInt8} {i : Nat} {b : UInt8} (h : l[i]? = some b) : (lower (l.take i) ++ l.drop i)[i]? = some b := by
  have hi := (List.getElem?_eq_some_iff.1 h).1
  have hlen : (lower (l.take i)).length = i := by simp [lower]; omega
  rw [List.getElem?_append_right (by omega), hlen, Nat.sub_self, List.getElem?_drop, Nat.add_zero]; exact h
theorem bytesC_at {l : List UInt8} {i : Nat} {b : UInt8} (h : l[i]? = some b) : (bytesC l)[i]? = some [C.v (.int .u8 b.toNat)] := by
  rw [bytesC, List.getElem?_map, h]; rfl
theorem bytesC_set {l : List UInt8} {i : Nat} {b : UInt8} : (bytesC l).set i [C.v (.int .u8 b.toNat)] = bytesC (l.set i b) := by
  rw [bytesC, bytesC, List.map_set]
theorem bytesC_len {l : List UInt8} : (bytesC l).length = l.length := by simp [bytesC]

theorem lowerB_id {b : UInt8} (h : ¬ (65 ≤ b.toNat ∧ b.toNat ≤ 90)) : lowerB b = b := by rw [lowerB, if_neg h]
theorem lowerB_up {b : UInt8} (h : 65 ≤ b.toNat) (h' : b.toNat ≤ 90) : ((lowerB b).toNat : Int) = (b.toNat : Int) + 32 := by
  rw [lowerB, if_pos ⟨h, h'⟩, UInt8.toNat_add]
  have : (32 : UInt8).toNat = 32 := rfl
  rw [this]
  omega
theorem lowerS_c (s : ByteArray) (hs : (sb s).length ≤ 140737488355328) : VC Tryd.prog 37 [.val (.string s)] (.val (.string (bs (lower (sb s))))) := by
  refine VC.intro hΘ Tryd.func37 rfl rfl Tryd.ntmps37 rfl rfl rfl fun B hB => ?_
  (conv => whnf)
  refine vreq_intro hs ?_
  (conv => whnf)
  generalize hl : sb s = l at *
  refine vloop_intro hΘ hB (ι := Nat) (fun i => ⟨[(3, .own 1 (bytesC (lower (l.take i) ++ l.drop i))), (4, .val (.int .i64 i))], []⟩) (fun i => i ≤ l.length) (fun i => l.length - i) 0
    ⟨⟨.inr rfl, .inr rfl, trivial⟩, trivial⟩ (Nat.zero_le _) ?_
  rintro i k1
  have hlen : (bytesC (lower (l.take i) ++ l.drop i)).length = l.length := by rw [bytesC_len]; simp [lower]; omega
  (conv => whnf)
  refine brm_intro (fun h => ?_) (fun h => ?_) <;> (conv => whnf) <;> rw [hlen] at h <;> simp only [decide_eq_true_eq, decide_eq_false_iff_not] at h
  · have hi : i < l.length := by omega
    have hg : l[i]? = some l[i] := List.getElem?_eq_getElem hi
    generalize l[i] = b at hg
    have hat := bytesC_at (lower_at hg)
    have hlt : i < (bytesC (lower (l.take i) ++ l.drop i)).length := by omega
    repeat' first
      | (refine vix_intro i rfl hlt ?_; (conv => whnf))
      | (refine vat_intro i _ rfl hat ?_; (conv => whnf))
      | (refine brm_intro (fun _ => ?_) (fun _ => ?_) <;> (conv => whnf))
    all_goals (simp only [decide_eq_true_eq, decide_eq_false_iff_not] at *)
    all_goals first
      | (have hb : lowerB b = b := lowerB_id (by omega)
         exact ⟨i + 1, ⟨⟨.inr (vown_eq (congrArg bytesC (lower_id hg hb))), .inr (vint_eq (by simp (disch := omega) only [wrap_i64]; rfl)), trivial⟩, trivial⟩, hi, by omega⟩)
      | (have hb := lowerB_up (b := b) (by omega) (by omega)
         refine ⟨i + 1, ⟨⟨.inr (vown_eq ?_), .inr (vint_eq (by simp (disch := omega) only [wrap_i64]; rfl)), trivial⟩, trivial⟩, hi, by omega⟩
         show (bytesC _).set i [C.v (.int .u8 (IntKind.u8.wrap ((b.toNat : Int) + 32)))] = _
         rw [wrap_u8 (by omega) (by omega), ← hb, bytesC_set, lower_step hg])
  · refine vbytes_intro _ rfl ?_
    (conv => whnf)
    refine vfin_str (congrArg bs ?_)
    have : i = l.length := by omega
    subst this
    simp
end Go.Proofs.YteihhmonnbeekaaDoor
namespace Go.Proofs.YteihhmonnbeekaaDoor
open Go Go.Proofs.YteihhmonnbeekaaDoor.Vs

/-! #### fields -/
abbrev Fd := ByteArray × ByteArray
def encF (p : Fd) : List C := [.v (.string p.1), .v (.string p.2)]
def valF (p : Fd) : V := .agg [.val (.string p.1), .val (.string p.2)]
def fieldOk (p : Fd) : Bool := (tokenOk (sb p.1) && visibleOk (sb p.2)) && trimmed (sb p.2) == sb p.2
def szOk (p : Fd) : Prop := (sb p.1).length ≤ 140737488355328 ∧ (sb p.2).length ≤ 140737488355328
def fieldsOk (l : List Fd) : Bool := decide (l.length ≤ 30) && l.all fieldOk
theorem mixed : Tryd.prog.follows .mixedOrders = true := by kernel_rfl

theorem l4Field_c (p : Fd) (hp : szOk p) : VC Tryd.prog 64 [valF p] (.val (.bool (fieldOk p))) := by
  refine VC.intro hΘ Tryd.func64 rfl rfl Tryd.ntmps64 rfl rfl rfl fun B hB => ?_
  (conv => whnf)
  refine vdraw_intro hΘ hB mixed (by kernel_rfl) ?_
  (conv => whnf)
  refine vcallQ_intro0 rfl (tokenOkS_c p.1 hp.1) (f1 (av rfl) f0) rfl ?_
  (conv => whnf)
  refine brm_intro (fun h => ?_) (fun h => ?_) <;> (conv => whnf)
  · refine vcallQ_intro0 rfl (visibleOkS_c p.2 hp.2) (f1 (av rfl) f0) rfl ?_
    (conv => whnf)
    refine brm_intro (fun h' => ?_) (fun h' => ?_) <;> (conv => whnf)
    · refine vcallQ_intro0 rfl (trimmedS_c p.2 hp.2) (f1 (av rfl) f0) rfl ?_
      (conv => whnf)
      refine vfin_bool ?_
      rw [fieldOk, h, h']
      rfl
    · refine vfin_bool ?_
      rw [fieldOk, h, h']
      rfl
  · refine vfin_bool ?_
    rw [fieldOk, h]
    rfl
theorem fieldsOkS_c (xs : List Fd) (hx : ∀ x ∈ xs, szOk x) (hl : xs.length ≤ 140737488355328) : VC Tryd.prog 41 [.rd none (.sl true 2 (xs.map encF))] (.val (.bool (fieldsOk xs))) := by
  refine VC.intro hΘ Tryd.func41 rfl rfl Tryd.ntmps41 rfl rfl rfl fun B hB => ?_
  (conv => whnf)
  refine brm_intro (fun h => ?_) (fun h => ?_) <;> (conv => whnf) <;> rw [List.length_map] at h <;> simp only [decide_eq_true_eq, decide_eq_false_iff_not] at h
  · refine vfin_bool ?_
    have : ¬ xs.length ≤ 30 := by omega
    simp [fieldsOk, this]
  have hT : fieldsOk xs = xs.all fieldOk := by
    have h2 : xs.length ≤ 30 := by omega
    simp [fieldsOk, h2]
  rw [hT]
  refine vloop_intro hΘ hB (ι := Nat) (fun i => ⟨[(0, .rd none (.sl true 2 (xs.map encF))), (3, .val (.int .i64 i))], []⟩) (fun i => i ≤ xs.length ∧ (xs.drop i).all fieldOk = xs.all fieldOk) (fun i => xs.length - i) 0
    ⟨⟨.inr rfl, .inr rfl, trivial⟩, trivial⟩ ⟨by omega, rfl⟩ ?_
  rintro i ⟨k1, k2⟩
  (conv => whnf)
  refine brm_intro (fun h => ?_) (fun h => ?_) <;> (conv => whnf) <;> rw [List.length_map] at h <;> simp only [decide_eq_true_eq, decide_eq_false_iff_not] at h
  · have hi : i < xs.length := by omega
    rw [List.drop_eq_getElem_cons hi, List.all_cons] at k2
    have hm : xs[i] ∈ xs := List.getElem_mem hi
    have hg : xs[i]? = some xs[i] := List.getElem?_eq_getElem hi
    generalize xs[i] = x at k2 hm hg
    refine vat_intro i (encF x) rfl (by rw [List.getElem?_map, hg]; rfl) ?_
    (conv => whnf)
    refine vcallS_intro0 rfl (l4Field_c x (hx x hm)) (f1 (fa (l1 (fv rfl) (l1 (fv rfl) l0))) f0) ?_
    (conv => whnf)
    refine brm_intro (fun h2 => ?_) (fun h2 => ?_) <;> (conv => whnf)
    · refine vfin_bool ?_
      simp only [Bool.not_eq_true'] at h2
      rw [h2, Bool.false_and] at k2
      exact k2
    · simp only [Bool.not_eq_false'] at h2
      rw [h2, Bool.true_and] at k2
      exact ⟨i + 1, ⟨⟨.inr rfl, .inr (vint_eq (by simp (disch := omega) only [wrap_i64]; rfl)), trivial⟩, trivial⟩, ⟨by omega, k2⟩, by omega⟩
  · refine vfin_bool ?_
    have : xs.drop i = [] := List.drop_eq_nil_of_le (by omega)
    rw [this] at k2
    exact k2
end Go.Proofs.YteihhmonnbeekaaDoor
namespace Go.Proofs.YteihhmonnbeekaaDoor
open Go Go.Proofs.YteihhmonnbeekaaDoor.Vs

def comma : List UInt8 := [44, 32]
def hitsOf (n : ByteArray) (xs : List Fd) : List (List UInt8) := (xs.filter fun p => lower (sb p.1) == lower (sb n)).map fun p => sb p.2
theorem hitsOf_cons {n : ByteArray} {p : Fd} {xs : List Fd} : hitsOf n (p :: xs) = (if lower (sb p.1) = lower (sb n) then [sb p.2] else []) ++ hitsOf n xs := by
  unfold hitsOf
  rw [List.filter_cons]
  by_cases h : lower (sb p.1) = lower (sb n) <;> simp [h]
theorem join_snoc {xs : List (List UInt8)} {v sep : List UInt8} (h : xs ≠ []) : Lib.join (xs ++ [v]) sep = Lib.join xs sep ++ sep ++ v := by
  match xs, h with
  | x :: r, _ => rw [List.cons_append, Lib.join_cons, Lib.join_cons]; simp [Lib.joinTail]
theorem join_len {xs : List (List UInt8)} {m : Nat} (h : ∀ x ∈ xs, x.length ≤ m) : (Lib.join xs comma).length ≤ xs.length * (m + 2) := by
  match xs with
  | [] => simp [Lib.join_nil]
  | x :: r =>
    rw [Lib.join_cons, List.length_append]
    have h1 := h x (by simp)
    have h2 : ∀ r : List (List UInt8), (∀ y ∈ r, y.length ≤ m) → (Lib.joinTail comma r).length ≤ r.length * (m + 2) := by
      intro r
      induction r with
      | nil => intro _; simp [Lib.joinTail]
      | cons y r ih =>
        intro hr
        have := ih (fun z hz => hr z (by simp [hz]))
        have hy := hr y (by simp)
        have hc : comma.length = 2 := rfl
        simp only [Lib.joinTail, List.map_cons, List.flatten_cons, List.length_append, List.length_cons, Nat.succ_mul, hc] at this ⊢
        omega
    have := h2 r (fun y hy => h y (by simp [hy]))
    simp only [List.length_cons, Nat.succ_mul]
    omega
/-- what Get answers -/
def getV (xs : List Fd) (n : ByteArray) : V := .tup [.val (.string (bs (Lib.join (hitsOf n xs) comma))), .val (.bool (decide (hitsOf n xs ≠ [])))]

theorem l4GetM_c (m : Nat) (xs : List Fd) (n : ByteArray) (hx : ∀ x ∈ xs, szOk x) (hv : ∀ x ∈ xs, (sb x.2).length ≤ m) (hn : (sb n).length ≤ 140737488355328) (hl : xs.length * (m + 2) ≤ 4222124650659900) (hl9 : xs.length ≤ 140737488355328) : VC Tryd.prog 42 [.rd none (.sl true 2 (xs.map encF)), .val (.string n)] (getV xs n) := by
  refine VC.intro hΘ Tryd.func42 rfl rfl Tryd.ntmps42 rfl rfl rfl fun B hB => ?_
  (conv => whnf)
  refine vloop_intro hΘ hB (ι := Nat × List (List UInt8)) (fun i => ⟨[(0, .rd none (.sl true 2 (xs.map encF))), (1, .val (.string n)), (6, .val (.string (bs (Lib.join i.2 comma)))), (7, .val (.bool (decide (i.2 ≠ [])))), (8, .val (.int .i64 i.1))], []⟩)
    (fun i => i.1 ≤ xs.length ∧ i.2 ++ hitsOf n (xs.drop i.1) = hitsOf n xs ∧ i.2.length ≤ i.1 ∧ ∀ x ∈ i.2, x.length ≤ m) (fun i => xs.length - i.1) (0, [])
    ⟨⟨.inr rfl, .inr rfl, .inr rfl, .inr rfl, .inr rfl, trivial⟩, trivial⟩ ⟨by simp, rfl, by simp, by simp⟩ ?_
  rintro ⟨i, hs⟩ ⟨k1, k2, k3, k4⟩
  simp only at k1 k2 k3 k4
  (conv => whnf)
  refine brm_intro (fun h => ?_) (fun h => ?_) <;> (conv => whnf) <;> rw [List.length_map] at h <;> simp only [decide_eq_true_eq, decide_eq_false_iff_not] at h
  · have hi : i < xs.length := by omega
    rw [List.drop_eq_getElem_cons hi, hitsOf_cons] at k2
    have hm : xs[i] ∈ xs := List.getElem_mem hi
    have hg : xs[i]? = some xs[i] := List.getElem?_eq_getElem hi
    generalize xs[i] = x at k2 hm hg
    have hat : (xs.map encF)[i]? = some (encF x) := by rw [List.getElem?_map, hg]; rfl
    refine vat_intro i (encF x) rfl hat ?_
    (conv => whnf)
    refine vcallS_intro0 rfl (lowerS_c x.1 (hx x hm).1) (f1 (av rfl) f0) ?_
    (conv => whnf)
    refine vcallS_intro0 rfl (lowerS_c n hn) (f1 (av rfl) f0) ?_
    (conv => whnf)
    have hstep : IntKind.i64.wrap ((i : Int) + 1) = ((i + 1 : Nat) : Int) := by rw [wrap_i64 (by omega) (by omega)]; rfl
    have hjl := join_len k4
    have hjl' : (Lib.join hs comma).length ≤ 4222124650659900 := Nat.le_trans hjl (Nat.le_trans (Nat.mul_le_mul_right _ (by omega)) hl)
    refine brm_intro (fun h2 => ?_) (fun h2 => ?_) <;> (conv => whnf) <;> simp only [sb_bs] at h2
    · have : ¬ lower (sb x.1) = lower (sb n) := by simpa using h2
      rw [if_neg this] at k2
      exact ⟨(i + 1, hs), ⟨⟨.inr rfl, .inr rfl, .inr rfl, .inr rfl, .inr (vint_eq hstep), trivial⟩, trivial⟩, ⟨hi, k2, by simp; omega, k4⟩, by simp; omega⟩
    · have : lower (sb x.1) = lower (sb n) := by simpa using h2
      rw [if_pos this, ← List.append_assoc] at k2
      have k4' : ∀ y ∈ hs ++ [sb x.2], y.length ≤ m := by
        intro y hy
        rcases List.mem_append.1 hy with hy | hy
        · exact k4 y hy
        · simp at hy; rw [hy]; exact hv x hm
      refine brm_intro (fun h3 => ?_) (fun h3 => ?_) <;> (conv => whnf) <;> simp only [decide_eq_true_eq, decide_eq_false_iff_not] at h3
      · refine vreq_intro (by rw [sb_bs]; simp [sb, cap63]; omega) ?_
        (conv => whnf)
        refine vat_intro i (encF x) rfl hat ?_
        (conv => whnf)
        have := (hx x hm).2
        refine vreq_intro (by rw [sb_bs, sb_bs]; simp [sb, cap63] at *; omega) ?_
        (conv => whnf)
        refine ⟨(i + 1, hs ++ [sb x.2]), ⟨⟨.inr rfl, .inr rfl, .inr (vstr_eq (congrArg bs ?_)), .inr (vbool_eq ?_), .inr (vint_eq hstep), trivial⟩, trivial⟩, ⟨hi, k2, by simp; omega, k4'⟩, by simp; omega⟩
        · rw [join_snoc h3]; rfl
        · simp
      · have h3 : hs = [] := by simpa using h3
        subst h3
        refine vat_intro i (encF x) rfl hat ?_
        (conv => whnf)
        have := (hx x hm).2
        refine vreq_intro (by rw [sb_bs]; simp [cap63, Lib.join_nil] at *; omega) ?_
        (conv => whnf)
        refine ⟨(i + 1, [sb x.2]), ⟨⟨.inr rfl, .inr rfl, .inr (vstr_eq (congrArg bs ?_)), .inr (vbool_eq ?_), .inr (vint_eq hstep), trivial⟩, trivial⟩, ⟨hi, k2, by simp, k4'⟩, by simp; omega⟩
        · rw [Lib.join_one]; rfl
        · simp
  · have : xs.drop i = [] := List.drop_eq_nil_of_le (by omega)
    rw [this] at k2
    have : hs = hitsOf n xs := by simpa [hitsOf] using k2
    subst this
    exact vfin_tup2 rfl rfl

theorem l4Get_c (xs : List Fd) (n : ByteArray) (hx : ∀ x ∈ xs, szOk x) (hn : (sb n).length ≤ 140737488355328) (hl : xs.length ≤ 30) : VC Tryd.prog 42 [.rd none (.sl true 2 (xs.map encF)), .val (.string n)] (getV xs n) :=
  l4GetM_c 140737488355328 xs n hx (fun x h => (hx x h).2) hn (Nat.le_trans (Nat.mul_le_mul_right _ hl) (by decide)) (by omega)

def getAll (xs : List Fd) (n : ByteArray) : V := if fieldsOk xs then getV xs n else .tup [.val (.string (bs [])), .val (.bool false)]
theorem getS_c (xs : List Fd) (n : ByteArray) (hx : ∀ x ∈ xs, szOk x) (hn : (sb n).length ≤ 140737488355328) (hl : xs.length ≤ 140737488355328) : VC Tryd.prog 32 [.rd none (.sl true 2 (xs.map encF)), .val (.string n)] (getAll xs n) := by
  refine VC.intro hΘ Tryd.func32 rfl rfl Tryd.ntmps32 rfl rfl (by unfold getAll; split <;> rfl) fun B hB => ?_
  (conv => whnf)
  refine vcallS_intro0 rfl (fieldsOkS_c xs hx hl) (f1 (ar rfl rfl) f0) ?_
  (conv => whnf)
  refine brm_intro (fun h => ?_) (fun h => ?_) <;> (conv => whnf) <;> simp only [Bool.not_eq_true', Bool.not_eq_false'] at h
  · have : getAll xs n = .tup [.val (.string (bs [])), .val (.bool false)] := by unfold getAll; rw [h]; rfl
    rw [this]
    exact vfin_tup2 rfl rfl
  · have : getAll xs n = getV xs n := by unfold getAll; rw [h]; rfl
    rw [this]
    have h30 : xs.length ≤ 30 := by
      simp only [fieldsOk, Bool.and_eq_true, decide_eq_true_eq] at h
      exact h.1
    refine vcallS_intro0 rfl (l4Get_c xs n hx hn h30) (f1 (ar rfl rfl) (f1 (av rfl) f0)) ?_
    (conv => whnf)
    exact vfin_tup2 rfl rfl
theorem toField_c (p : Fd) : VC Tryd.prog 45 [valF p] (valF p) := by
  refine VC.intro hΘ Tryd.func45 rfl rfl Tryd.ntmps45 rfl rfl rfl fun B hB => ?_
  (conv => whnf)
  exact vfin_agg rfl
end Go.Proofs.YteihhmonnbeekaaDoor
namespace Go.Proofs.YteihhmonnbeekaaDoor
open Go Go.Proofs.YteihhmonnbeekaaDoor.Vs

def zF : Fd := (⟨⟨[]⟩⟩, ⟨⟨[]⟩⟩)
theorem set_app {xs : List Fd} {i : Nat} {x : Fd} (h : xs[i]? = some x) : (xs.take i ++ List.replicate (xs.length - i) zF).set i x = xs.take (i + 1) ++ List.replicate (xs.length - (i + 1)) zF := by
  have hi := (List.getElem?_eq_some_iff.1 h).1
  have hb := (List.getElem?_eq_some_iff.1 h).2
  have e : xs.length - i = (xs.length - (i + 1)) + 1 := by omega
  rw [e, List.replicate_succ, List.take_succ_eq_append_getElem hi]
  have hlen : (xs.take i).length = i := by simp; omega
  rw [List.set_append_right _ _ (by omega), hlen, Nat.sub_self, List.set_cons_zero, hb]
  simp
theorem toFieldS_c (xs : List Fd) (hl : xs.length ≤ 2097152) : VC Tryd.prog 9 [.rd none (.sl true 2 (xs.map encF))] (.own 2 (xs.map encF)) := by
  refine VC.intro hΘ Tryd.func9 rfl rfl Tryd.ntmps9 rfl rfl rfl fun B hB => ?_
  (conv => whnf)
  refine vlenN_intro xs.length (by rw [List.length_map]) (by rw [List.length_map]) (Nat.le_trans (Nat.mul_le_mul_right _ hl) (by decide)) ?_
  (conv => whnf)
  refine vloop_intro hΘ hB (ι := Nat) (fun i => ⟨[(0, .rd none (.sl true 2 (xs.map encF))), (3, .own 2 ((xs.take i ++ List.replicate (xs.length - i) zF).map encF)), (4, .val (.int .i64 i))], []⟩)
    (fun i => i ≤ xs.length) (fun i => xs.length - i) 0 ⟨⟨.inr rfl, .inr (vown_eq ?_), .inr rfl, trivial⟩, trivial⟩ (Nat.zero_le _) ?_
  · rw [List.take_zero, List.nil_append, List.map_replicate]; rfl
  rintro i k1
  have hlen : ((xs.take i ++ List.replicate (xs.length - i) zF).map encF).length = xs.length := by simp; omega
  (conv => whnf)
  refine brm_intro (fun h => ?_) (fun h => ?_) <;> (conv => whnf) <;> rw [List.length_map] at h <;> simp only [decide_eq_true_eq, decide_eq_false_iff_not] at h
  · have hi : i < xs.length := by omega
    have hg : xs[i]? = some xs[i] := List.getElem?_eq_getElem hi
    generalize xs[i] = x at hg
    refine vat_intro i (encF x) rfl (by rw [List.getElem?_map, hg]; rfl) ?_
    (conv => whnf)
    refine vcallS_intro0 rfl (toField_c x) (f1 (fa (l1 (fv rfl) (l1 (fv rfl) l0))) f0) ?_
    (conv => whnf)
    refine vix_intro i rfl (by rw [hlen]; exact hi) ?_
    (conv => whnf)
    refine ⟨i + 1, ⟨⟨.inr rfl, .inr (vown_eq ?_), .inr (vint_eq (by simp (disch := omega) only [wrap_i64]; rfl)), trivial⟩, trivial⟩, hi, by omega⟩
    rw [← set_app hg, List.map_set]; rfl
  · have : i = xs.length := by omega
    subst this
    refine vfin_own ?_
    simp
end Go.Proofs.YteihhmonnbeekaaDoor
namespace Go.Proofs.YteihhmonnbeekaaDoor
open Go Go.Proofs.YteihhmonnbeekaaDoor.Vs

theorem eqField_c (p q : Fd) : VC Tryd.prog 50 [valF p, valF q] (.val (.bool (sb p.1 == sb q.1 && sb p.2 == sb q.2))) := by
  refine VC.intro hΘ Tryd.func50 rfl rfl Tryd.ntmps50 rfl rfl rfl fun B hB => ?_
  (conv => whnf)
  refine brm_intro (fun h => ?_) (fun h => ?_) <;> (conv => whnf) <;> simp only [Bool.not_eq_true', Bool.not_eq_false'] at h
  · refine vfin_bool ?_
    rw [h]; rfl
  refine brm_intro (fun h' => ?_) (fun h' => ?_) <;> (conv => whnf) <;> simp only [Bool.not_eq_true', Bool.not_eq_false'] at h'
  · refine vfin_bool ?_
    rw [h, h']; rfl
  · refine vfin_bool ?_
    rw [h, h']; rfl
theorem eqFieldS_c (xs : List Fd) (hl : xs.length ≤ 2097152) : VC Tryd.prog 11 [.rd none (.sl true 2 (xs.map encF)), .rd none (.sl true 2 (xs.map encF))] (.val (.bool true)) := by
  refine VC.intro hΘ Tryd.func11 rfl rfl Tryd.ntmps11 rfl rfl rfl fun B hB => ?_
  (conv => whnf)
  refine brm_intro (fun h => ?_) (fun h => ?_) <;> (conv => whnf)
  · exact absurd h (by simp)
  refine vloop_intro hΘ hB (ι := Nat) (fun i => ⟨[(0, .rd none (.sl true 2 (xs.map encF))), (1, .rd none (.sl true 2 (xs.map encF))), (5, .val (.int .i64 i))], []⟩)
    (fun i => i ≤ xs.length) (fun i => xs.length - i) 0 ⟨⟨.inr rfl, .inr rfl, .inr rfl, trivial⟩, trivial⟩ (Nat.zero_le _) ?_
  rintro i k1
  (conv => whnf)
  refine brm_intro (fun h => ?_) (fun h => ?_) <;> (conv => whnf) <;> rw [List.length_map] at h <;> simp only [decide_eq_true_eq, decide_eq_false_iff_not] at h
  · have hi : i < xs.length := by omega
    have hg : xs[i]? = some xs[i] := List.getElem?_eq_getElem hi
    generalize xs[i] = x at hg
    have hat : (xs.map encF)[i]? = some (encF x) := by rw [List.getElem?_map, hg]; rfl
    refine vdraw_intro hΘ hB mixed (by kernel_rfl) ?_
    (conv => whnf)
    refine vat_intro i (encF x) rfl hat ?_
    (conv => whnf)
    refine vat_intro i (encF x) rfl hat ?_
    (conv => whnf)
    refine vcallQ_intro0 rfl (eqField_c x x) (f1 (fa (l1 (fv rfl) (l1 (fv rfl) l0))) (f1 (fa (l1 (fv rfl) (l1 (fv rfl) l0))) f0)) rfl ?_
    (conv => whnf)
    refine brm_intro (fun h2 => ?_) (fun h2 => ?_) <;> (conv => whnf)
    · exact absurd h2 (by simp)
    · exact ⟨i + 1, ⟨⟨.inr rfl, .inr rfl, .inr (vint_eq (by simp (disch := omega) only [wrap_i64]; rfl)), trivial⟩, trivial⟩, hi, by omega⟩
  · exact vfin_bool rfl

/-! #### the program's own side -/
theorem indexByte_c (s : ByteArray) (c : Int) : VC Tryd.prog 99 [.val (.string s), .val (.int .u8 c)] (.val (.int .i64 (Lib.indexByte (sb s) c.toNat.toUInt8))) :=
  VC.of_vals (xs := [.string s, .int .u8 c]) Tryd.func99 rfl rfl rfl fun w => (Tryd.strings_IndexByte s c w).mono fun _ _ ⟨h1, h2⟩ => ⟨h1, h2 ▸ Go.RowKit.Below.refl _ _⟩
theorem indexByte_nonneg (l : List UInt8) (c : UInt8) : decide (Lib.indexByte l c ≥ 0) = l.contains c := by
  induction l with
  | nil => rfl
  | cons b r ih =>
    have hge := Lib.indexByte_ge r c
    rw [Lib.indexByte, List.contains_cons]
    by_cases h : b = c
    · subst h; simp
    · have h1 : (b == c) = false := by simpa using h
      have h2 : (c == b) = false := by simpa using fun e => h e.symm
      rw [h1, h2, Bool.false_or, ← ih]
      simp only [Bool.false_eq_true, if_false]
      by_cases h3 : Lib.indexByte r c = -1
      · simp [h3]
      · have : (Lib.indexByte r c == -1) = false := by simpa using h3
        rw [this]
        simp only [Bool.false_eq_true, if_false, decide_eq_decide]
        omega
theorem isMark_contains (b : UInt8) : isMark b.toNat = tokenMarks.contains b := by
  unfold isMark
  rw [List.contains_eq_any_beq]
  congr 1
  funext c
  rw [Bool.eq_iff_iff]
  simp only [beq_iff_eq]
  constructor
  · intro h; exact UInt8.toNat_inj.1 (by omega)
  · intro h; rw [h]
theorem tokenFn_c (b : UInt8) : VC Tryd.prog 96 [.val (.int .u8 b.toNat)] (.val (.bool (isToken b.toNat))) := by
  refine VC.intro hΘ Tryd.func96 rfl rfl Tryd.ntmps96 rfl rfl rfl fun B hB => ?_
  (conv => whnf)
  refine vcallS_intro0 rfl (isLetter_c b.toNat) (f1 (av rfl) f0) ?_
  (conv => whnf)
  refine brm_intro (fun h => ?_) (fun h => ?_) <;> (conv => whnf)
  · refine vfin_bool ?_
    rw [isToken, h]; rfl
  · refine vcallS_intro0 rfl (isDigit_c b.toNat) (f1 (av rfl) f0) ?_
    (conv => whnf)
    refine brm_intro (fun h' => ?_) (fun h' => ?_) <;> (conv => whnf)
    · refine vfin_bool ?_
      rw [isToken, h, h']; rfl
    · refine vcallS_intro0 rfl (indexByte_c _ b.toNat) (f1 (av rfl) (f1 (av rfl) f0)) ?_
      (conv => whnf)
      refine vfin_bool ?_
      rw [indexByte_nonneg, isToken, h, h', isMark_contains]
      simp only [Bool.false_or, Int.toNat_natCast]
      have : b.toNat.toUInt8 = b := by simp
      rw [this]
      rfl
end Go.Proofs.YteihhmonnbeekaaDoor
namespace Go.Proofs.YteihhmonnbeekaaDoor
open Go Go.Proofs.YteihhmonnbeekaaDoor.Vs

def idxFn {α : Type} (p : α → Bool) : List α → Nat → Int
  | [], _ => -1
  | x :: r, i => if p x then (i : Int) else idxFn p r (i + 1)
theorem idxFn_nonneg {α : Type} (p : α → Bool) : ∀ (l : List α) (i : Nat), decide (idxFn p l i ≥ 0) = l.any p
  | [], _ => rfl
  | x :: r, i => by
    rw [idxFn, List.any_cons]
    cases h : p x with
    | true => simp
    | false => simp only [Bool.false_eq_true, if_false, Bool.false_or]; exact idxFn_nonneg p r (i + 1)
def fnV (f : Nat) : Value := .func (.func f) #[] #[]

theorem allFn_c (F : Nat) (p : UInt8 → Bool) (hp : ∀ b : UInt8, VC Tryd.prog F [.val (.int .u8 b.toNat)] (.val (.bool (p b)))) (b : UInt8) :
    VC Tryd.prog 112 [.val (.int .u8 b.toNat), .rp none [.v (fnV F)]] (.val (.bool (!p b))) := by
  refine VC.intro hΘ Tryd.func112 rfl rfl Tryd.ntmps112 rfl rfl rfl fun B hB => ?_
  (conv => whnf)
  refine vcallS_intro0 rfl (hp b) (f1 (av rfl) f0) ?_
  (conv => whnf)
  exact vfin_bool rfl
theorem indexFnB_c (f : Nat) (cs : List C) (p : UInt8 → Bool) (hp : ∀ b : UInt8, VC Tryd.prog f ([.val (.int .u8 b.toNat)] ++ [.rp none cs]) (.val (.bool (p b)))) (l : List UInt8) (hl : l.length ≤ 140737488355328) :
    VC Tryd.prog 125 [.rd none (.sl true 1 (bytesC l)), .cl f [.rp none cs]] (.val (.int .i64 (idxFn p l 0))) := by
  refine VC.intro hΘ Tryd.func125 rfl rfl Tryd.ntmps125 rfl rfl rfl fun B hB => ?_
  (conv => whnf)
  refine vloop_intro hΘ hB (ι := Nat) (fun i => ⟨[(0, .rd none (.sl true 1 (bytesC l))), (1, .cl f [.rp none cs]), (7, .val (.int .i64 (bytesC l).length)), (8, .val (.int .i64 i))], []⟩)
    (fun i => i ≤ l.length ∧ idxFn p (l.drop i) i = idxFn p l 0) (fun i => l.length - i) 0 ⟨⟨.inr rfl, .inr rfl, .inr rfl, .inr rfl, trivial⟩, trivial⟩ ⟨Nat.zero_le _, rfl⟩ ?_
  rintro i ⟨k1, k2⟩
  (conv => whnf)
  refine brm_intro (fun h => ?_) (fun h => ?_) <;> (conv => whnf) <;> rw [bytesC_len] at h <;> simp only [decide_eq_true_eq, decide_eq_false_iff_not] at h
  · have hi : i < l.length := by omega
    have hg : l[i]? = some l[i] := List.getElem?_eq_getElem hi
    rw [List.drop_eq_getElem_cons hi, idxFn] at k2
    generalize l[i] = b at hg k2
    refine vat_intro i _ rfl (bytesC_at hg) ?_
    (conv => whnf)
    refine vcallS_intro rfl (hp b) (kp rfl k0) (f1 (av rfl) f0) ?_
    (conv => whnf)
    refine brm_intro (fun h2 => ?_) (fun h2 => ?_) <;> (conv => whnf)
    · refine vfin_int ?_
      rw [h2, if_pos rfl] at k2
      exact k2
    · rw [h2] at k2
      simp only [Bool.false_eq_true, if_false] at k2
      exact ⟨i + 1, ⟨⟨.inr rfl, .inr rfl, .inr rfl, .inr (vint_eq (by simp (disch := omega) only [wrap_i64]; rfl)), trivial⟩, trivial⟩, ⟨hi, k2⟩, by omega⟩
  · refine vfin_int ?_
    have : l.drop i = [] := List.drop_eq_nil_of_le (by omega)
    rw [this] at k2
    exact k2
theorem containsFnB_c (f : Nat) (cs : List C) (p : UInt8 → Bool) (hp : ∀ b : UInt8, VC Tryd.prog f ([.val (.int .u8 b.toNat)] ++ [.rp none cs]) (.val (.bool (p b)))) (l : List UInt8) (hl : l.length ≤ 140737488355328) :
    VC Tryd.prog 111 [.rd none (.sl true 1 (bytesC l)), .cl f [.rp none cs]] (.val (.bool (l.any p))) := by
  refine VC.intro hΘ Tryd.func111 rfl rfl Tryd.ntmps111 rfl rfl rfl fun B hB => ?_
  (conv => whnf)
  refine vcallS_intro0 rfl (indexFnB_c f cs p hp l hl) (f1 (ar rfl rfl) (f1 (acl (kp rfl k0)) f0)) ?_
  (conv => whnf)
  exact vfin_bool (idxFn_nonneg p l 0)
theorem all_c (F : Nat) (p : UInt8 → Bool) (hp : ∀ b : UInt8, VC Tryd.prog F [.val (.int .u8 b.toNat)] (.val (.bool (p b)))) (s : ByteArray) (hs : (sb s).length ≤ 140737488355328) :
    VC Tryd.prog 95 [.val (.string s), .val (fnV F)] (.val (.bool ((sb s).all p))) := by
  refine VC.intro hΘ Tryd.func95 rfl rfl Tryd.ntmps95 rfl rfl rfl fun B hB => ?_
  (conv => whnf)
  refine vreq_intro hs ?_
  (conv => whnf)
  refine vcallS_intro0 rfl (containsFnB_c 112 [.v (fnV F)] (fun b => !p b) (allFn_c F p hp) (sb s) hs) (f1 (ah rfl rfl rfl) (f1 (acl (kp (pb rfl rfl) k0)) f0)) ?_
  (conv => whnf)
  refine vfin_bool ?_
  rw [← List.not_all_eq_any_not, Bool.not_not]
theorem tokenOkI_c (s : ByteArray) (hs : (sb s).length ≤ 140737488355328) : VC Tryd.prog 65 [.val (.string s)] (.val (.bool (tokenOk (sb s)))) := by
  refine VC.intro hΘ Tryd.func65 rfl rfl Tryd.ntmps65 rfl rfl rfl fun B hB => ?_
  (conv => whnf)
  refine brm_intro (fun h => ?_) (fun h => ?_) <;> (conv => whnf) <;> simp only [decide_eq_true_eq, decide_eq_false_iff_not] at h
  · refine brm_intro (fun h' => ?_) (fun h' => ?_) <;> (conv => whnf) <;> simp only [decide_eq_true_eq, decide_eq_false_iff_not] at h'
    · refine vcallS_intro0 rfl (all_c 96 (fun b => isToken b.toNat) tokenFn_c s hs) (f1 (av rfl) (f1 (av rfl) f0)) ?_
      (conv => whnf)
      refine vfin_bool ?_
      have h1 : 1 ≤ (sb s).length := by omega
      have h2 : (sb s).length ≤ 64 := by omega
      simp [tokenOk, h1, h2]
    · refine vfin_bool ?_
      have h2 : ¬ (sb s).length ≤ 64 := by omega
      simp [tokenOk, h2]
  · refine vfin_bool ?_
    have h2 : ¬ 1 ≤ (sb s).length := by omega
    simp [tokenOk, h2]
theorem visibleOkI_c (s : ByteArray) (hs : (sb s).length ≤ 140737488355328) : VC Tryd.prog 75 [.val (.string s)] (.val (.bool (visibleOk (sb s)))) := by
  refine VC.intro hΘ Tryd.func75 rfl rfl Tryd.ntmps75 rfl rfl rfl fun B hB => ?_
  (conv => whnf)
  refine brm_intro (fun h => ?_) (fun h => ?_) <;> (conv => whnf) <;> simp only [decide_eq_true_eq, decide_eq_false_iff_not] at h
  · refine vcallS_intro0 rfl (all_c 107 (fun b => isVisible b.toNat) (fun b => isVisible_c b.toNat) s hs) (f1 (av rfl) (f1 (av rfl) f0)) ?_
    (conv => whnf)
    refine vfin_bool ?_
    have h2 : (sb s).length ≤ 400 := by omega
    simp [visibleOk, h2]
  · refine vfin_bool ?_
    have h2 : ¬ (sb s).length ≤ 400 := by omega
    simp [visibleOk, h2]
end Go.Proofs.YteihhmonnbeekaaDoor
namespace Go.Proofs.YteihhmonnbeekaaDoor
open Go Go.Proofs.YteihhmonnbeekaaDoor.Vs Go.Shelf

theorem trimR_cons (x : UInt8) (r : List UInt8) : trimR (x :: r) = if trimR r = [] then (if blankB x then [] else [x]) else x :: trimR r := by
  unfold trimR
  rw [List.reverse_cons, List.dropWhile_append]
  by_cases h : r.reverse.dropWhile blankB = []
  · rw [h]
    cases hb : blankB x <;> simp [List.dropWhile, hb]
  · have h1 : (r.reverse.dropWhile blankB).isEmpty = false := by simpa using h
    rw [h1]
    have h2 : ¬ (r.reverse.dropWhile blankB).reverse = [] := by simpa using h
    rw [if_neg h2]
    simp
theorem trim_swap : ∀ l : List UInt8, trimL (trimR l) = trimR (trimL l)
  | [] => rfl
  | x :: r => by
    have ih := trim_swap r
    rw [trimR_cons]
    cases hb : blankB x with
    | true =>
      have e : trimL (x :: r) = trimL r := by simp [trimL, hb]
      rw [e, ← ih]
      by_cases h : trimR r = []
      · rw [h]; simp [trimL]
      · rw [if_neg h]; simp [trimL, hb]
    | false =>
      have e : trimL (x :: r) = x :: r := by simp [trimL, hb]
      rw [e, trimR_cons, hb]
      by_cases h : trimR r = []
      · rw [h]; simp [trimL, hb]
      · rw [if_neg h]; simp [trimL, hb]
theorem trimS_eq (l : List UInt8) : Lib.trimS l [32, 9] = trimmed l := by
  have hf : (fun b : UInt8 => ([32, 9] : List UInt8).contains b) = blankB := by
    funext b
    rw [Bool.eq_iff_iff]
    simp [blankB, isBlank]
    constructor
    · rintro (h | h) <;> subst h <;> simp
    · rintro (h | h)
      · left; exact UInt8.toNat_inj.1 (by have h : (b.toNat : Int) = _ := h; simp; omega)
      · right; exact UInt8.toNat_inj.1 (by have h : (b.toNat : Int) = _ := h; simp; omega)
  unfold Lib.trimS Lib.trimLeftS Lib.trimRightS trimmed
  rw [← trim_swap, hf]
  rfl
theorem trim_c (s : ByteArray) (hs : (sb s).length ≤ 140737488355328) : VC Tryd.prog 108 [.val (.string s), .val (.string ⟨#[32, 9]⟩)] (.val (.string (bs (trimmed (sb s))))) := by
  refine VC.of_vals (xs := [.string s, .string ⟨#[32, 9]⟩]) Tryd.func108 rfl rfl rfl fun w => ?_
  rw [← trimS_eq]
  exact Any.strings_Trim_laid Tryd.lays160 (by kernel_rfl) s ⟨#[32, 9]⟩ w (by rw [size_sb]; omega) (by decide) (ascii_of_all (by decide))
theorem join_c (xs : List ByteArray) (sep : ByteArray) (hN : xs.length ≤ 140737488355328) (hlen : (Lib.join (xs.map sb) (sb sep)).length ≤ 140737488355328) : VC Tryd.prog 74 [.rd none (.sl true 1 (xs.map strC)), .val (.string sep)] (.val (.string (bs (Lib.join (xs.map sb) (sb sep))))) := by
  refine VC.of_strs Tryd.func74 rfl rfl rfl (fun h w a c => ?_) (fun w bk o c hc hb hl => ?_)
  · subst h
    exact (Tryd.strings_Join_none a c sep w).mono fun _ _ ⟨h1, h2⟩ => ⟨h1, h2 ▸ Go.RowKit.Below.refl _ _⟩
  · exact Tryd.strings_Join bk o c xs sep w hc hb hN hl hlen
end Go.Proofs.YteihhmonnbeekaaDoor
namespace Go.Proofs.YteihhmonnbeekaaDoor
open Go Go.Proofs.YteihhmonnbeekaaDoor.Vs

theorem lowerI_c (s : ByteArray) (hs : (sb s).length ≤ 140737488355328) : VC Tryd.prog 69 [.val (.string s)] (.val (.string (bs (lower (sb s))))) := by
  refine VC.intro hΘ Tryd.func69 rfl rfl Tryd.ntmps69 rfl rfl rfl fun B hB => ?_
  (conv => whnf)
  refine vreq_intro hs ?_
  (conv => whnf)
  generalize hl : sb s = l at *
  refine vloop_intro hΘ hB (ι := Nat) (fun i => ⟨[(3, .own 1 (bytesC (lower (l.take i) ++ l.drop i))), (8, .hd (.sl 3 0 0)), (9, .val (.int .i64 (bytesC l).length)), (10, .val (.int .i64 i))], []⟩) (fun i => i ≤ l.length) (fun i => l.length - i) 0
    ⟨⟨.inr rfl, .inr rfl, .inr rfl, .inr rfl, trivial⟩, trivial⟩ (Nat.zero_le _) ?_
  rintro i k1
  have hlen : (bytesC (lower (l.take i) ++ l.drop i)).length = l.length := by rw [bytesC_len]; simp [lower]; omega
  (conv => whnf)
  refine brm_intro (fun h => ?_) (fun h => ?_) <;> (conv => whnf) <;> rw [bytesC_len] at h <;> simp only [decide_eq_true_eq, decide_eq_false_iff_not] at h
  · have hi : i < l.length := by omega
    have hg : l[i]? = some l[i] := List.getElem?_eq_getElem hi
    generalize l[i] = b at hg
    have hat := bytesC_at (lower_at hg)
    have hlt : i < (bytesC (lower (l.take i) ++ l.drop i)).length := by omega
    repeat' first
      | (refine vix_intro i rfl hlt ?_; (conv => whnf))
      | (refine vat_intro i _ rfl hat ?_; (conv => whnf))
      | (refine brm_intro (fun _ => ?_) (fun _ => ?_) <;> (conv => whnf))
    all_goals (simp only [decide_eq_true_eq, decide_eq_false_iff_not] at *)
    all_goals first
      | (have hb : lowerB b = b := lowerB_id (by omega)
         exact ⟨i + 1, ⟨⟨.inr (vown_eq (congrArg bytesC (lower_id hg hb))), .inr rfl, .inr rfl, .inr (vint_eq (by simp (disch := omega) only [wrap_i64]; rfl)), trivial⟩, trivial⟩, hi, by omega⟩)
      | (have hb := lowerB_up (b := b) (by omega) (by omega)
         refine ⟨i + 1, ⟨⟨.inr (vown_eq ?_), .inr rfl, .inr rfl, .inr (vint_eq (by simp (disch := omega) only [wrap_i64]; rfl)), trivial⟩, trivial⟩, hi, by omega⟩
         show (bytesC _).set i [C.v (.int .u8 (IntKind.u8.wrap (IntKind.u8.wrap ((b.toNat : Int) + 97) - 65)))] = _
         rw [wrap_u8 (x := (b.toNat : Int) + 97) (by omega) (by omega), wrap_u8 (by omega) (by omega), show (b.toNat : Int) + 97 - 65 = b.toNat + 32 by omega, ← hb, bytesC_set, lower_step hg])
  · refine vbytes_intro _ rfl ?_
    (conv => whnf)
    refine vfin_str (congrArg bs ?_)
    have : i = l.length := by omega
    subst this
    simp
theorem trimmedI_c (s : ByteArray) (hs : (sb s).length ≤ 140737488355328) : VC Tryd.prog 77 [.val (.string s)] (.val (.string (bs (trimmed (sb s))))) := by
  refine VC.intro hΘ Tryd.func77 rfl rfl Tryd.ntmps77 rfl rfl rfl fun B hB => ?_
  (conv => whnf)
  refine vcallS_intro0 rfl (trim_c s hs) (f1 (av rfl) (f1 (av rfl) f0)) ?_
  (conv => whnf)
  exact vfin_str rfl
theorem isField_c (p : Fd) (hp : szOk p) : VC Tryd.prog 61 [valF p] (.val (.bool (fieldOk p))) := by
  refine VC.intro hΘ Tryd.func61 rfl rfl Tryd.ntmps61 rfl rfl rfl fun B hB => ?_
  (conv => whnf)
  refine vdraw_intro hΘ hB mixed (by kernel_rfl) ?_
  (conv => whnf)
  refine vcallQ_intro0 rfl (tokenOkI_c p.1 hp.1) (f1 (av rfl) f0) rfl ?_
  (conv => whnf)
  refine brm_intro (fun h => ?_) (fun h => ?_) <;> (conv => whnf)
  · refine vcallQ_intro0 rfl (visibleOkI_c p.2 hp.2) (f1 (av rfl) f0) rfl ?_
    (conv => whnf)
    refine brm_intro (fun h' => ?_) (fun h' => ?_) <;> (conv => whnf)
    · refine vcallQ_intro0 rfl (trimmedI_c p.2 hp.2) (f1 (av rfl) f0) rfl ?_
      (conv => whnf)
      refine vfin_bool ?_
      rw [fieldOk, h, h']
      rfl
    · refine vfin_bool ?_
      rw [fieldOk, h, h']
      rfl
  · refine vfin_bool ?_
    rw [fieldOk, h]
    rfl
theorem fieldFn_c (p : Fd) (hp : szOk p) : VC Tryd.prog 73 [valF p] (.val (.bool (!fieldOk p))) := by
  refine VC.intro hΘ Tryd.func73 rfl rfl Tryd.ntmps73 rfl rfl rfl fun B hB => ?_
  (conv => whnf)
  refine vcallS_intro0 rfl (isField_c p hp) (f1 (fa (l1 (fv rfl) (l1 (fv rfl) l0))) f0) ?_
  (conv => whnf)
  exact vfin_bool rfl
theorem indexFnF_c (xs : List Fd) (hx : ∀ x ∈ xs, szOk x) (hl : xs.length ≤ 140737488355328) :
    VC Tryd.prog 103 [.rd none (.sl true 2 (xs.map encF)), .val (fnV 73)] (.val (.int .i64 (idxFn (fun p => !fieldOk p) xs 0))) := by
  refine VC.intro hΘ Tryd.func103 rfl rfl Tryd.ntmps103 rfl rfl rfl fun B hB => ?_
  (conv => whnf)
  refine vloop_intro hΘ hB (ι := Nat) (fun i => ⟨[(0, .rd none (.sl true 2 (xs.map encF))), (1, .val (fnV 73)), (7, .val (.int .i64 (xs.map encF).length)), (8, .val (.int .i64 i))], []⟩)
    (fun i => i ≤ xs.length ∧ idxFn (fun p => !fieldOk p) (xs.drop i) i = idxFn (fun p => !fieldOk p) xs 0) (fun i => xs.length - i) 0 ⟨⟨.inr rfl, .inr rfl, .inr rfl, .inr rfl, trivial⟩, trivial⟩ ⟨Nat.zero_le _, rfl⟩ ?_
  rintro i ⟨k1, k2⟩
  (conv => whnf)
  refine brm_intro (fun h => ?_) (fun h => ?_) <;> (conv => whnf) <;> rw [List.length_map] at h <;> simp only [decide_eq_true_eq, decide_eq_false_iff_not] at h
  · have hi : i < xs.length := by omega
    have hg : xs[i]? = some xs[i] := List.getElem?_eq_getElem hi
    have hm : xs[i] ∈ xs := List.getElem_mem hi
    rw [List.drop_eq_getElem_cons hi, idxFn] at k2
    generalize xs[i] = x at hg k2 hm
    refine vat_intro i (encF x) rfl (by rw [List.getElem?_map, hg]; rfl) ?_
    (conv => whnf)
    refine vcallS_intro0 rfl (fieldFn_c x (hx x hm)) (f1 (fa (l1 (fv rfl) (l1 (fv rfl) l0))) f0) ?_
    (conv => whnf)
    refine brm_intro (fun h2 => ?_) (fun h2 => ?_) <;> (conv => whnf)
    · refine vfin_int ?_
      rw [h2, if_pos rfl] at k2
      exact k2
    · rw [h2] at k2
      simp only [Bool.false_eq_true, if_false] at k2
      exact ⟨i + 1, ⟨⟨.inr rfl, .inr rfl, .inr rfl, .inr (vint_eq (by simp (disch := omega) only [wrap_i64]; rfl)), trivial⟩, trivial⟩, ⟨hi, k2⟩, by omega⟩
  · refine vfin_int ?_
    have : xs.drop i = [] := List.drop_eq_nil_of_le (by omega)
    rw [this] at k2
    exact k2
theorem containsFnF_c (xs : List Fd) (hx : ∀ x ∈ xs, szOk x) (hl : xs.length ≤ 140737488355328) :
    VC Tryd.prog 72 [.rd none (.sl true 2 (xs.map encF)), .val (fnV 73)] (.val (.bool (xs.any fun p => !fieldOk p))) := by
  refine VC.intro hΘ Tryd.func72 rfl rfl Tryd.ntmps72 rfl rfl rfl fun B hB => ?_
  (conv => whnf)
  refine vcallS_intro0 rfl (indexFnF_c xs hx hl) (f1 (ar rfl rfl) (f1 (av rfl) f0)) ?_
  (conv => whnf)
  exact vfin_bool (idxFn_nonneg _ xs 0)
theorem fieldsOkI_c (xs : List Fd) (hx : ∀ x ∈ xs, szOk x) (hl : xs.length ≤ 140737488355328) : VC Tryd.prog 46 [.rd none (.sl true 2 (xs.map encF))] (.val (.bool (fieldsOk xs))) := by
  refine VC.intro hΘ Tryd.func46 rfl rfl Tryd.ntmps46 rfl rfl rfl fun B hB => ?_
  (conv => whnf)
  refine brm_intro (fun h => ?_) (fun h => ?_) <;> (conv => whnf) <;> rw [List.length_map] at h <;> simp only [decide_eq_true_eq, decide_eq_false_iff_not] at h
  · refine vcallS_intro0 rfl (containsFnF_c xs hx hl) (f1 (ar rfl rfl) (f1 (av rfl) f0)) ?_
    (conv => whnf)
    refine vfin_bool ?_
    have h2 : xs.length ≤ 30 := by omega
    rw [← List.not_all_eq_any_not, Bool.not_not]
    simp [fieldsOk, h2]
  · refine vfin_bool ?_
    have h2 : ¬ xs.length ≤ 30 := by omega
    simp [fieldsOk, h2]
end Go.Proofs.YteihhmonnbeekaaDoor
namespace Go.Proofs.YteihhmonnbeekaaDoor
open Go Go.Proofs.YteihhmonnbeekaaDoor.Vs

def hitsB (n : ByteArray) (xs : List Fd) : List ByteArray := (xs.filter fun p => lower (sb p.1) == lower (sb n)).map (·.2)
theorem hitsB_of (n : ByteArray) (xs : List Fd) : (hitsB n xs).map sb = hitsOf n xs := by
  simp [hitsB, hitsOf]
theorem hitsB_cons {n : ByteArray} {p : Fd} {xs : List Fd} : hitsB n (p :: xs) = (if lower (sb p.1) = lower (sb n) then [p.2] else []) ++ hitsB n xs := by
  unfold hitsB
  rw [List.filter_cons]
  by_cases h : lower (sb p.1) = lower (sb n) <;> simp [h]
theorem hitsB_len (n : ByteArray) (xs : List Fd) : (hitsB n xs).length ≤ xs.length := by
  unfold hitsB; rw [List.length_map]; exact List.length_filter_le _ _
theorem hits_short {n : ByteArray} {xs : List Fd} (h : fieldsOk xs = true) : ∀ x ∈ hitsOf n xs, x.length ≤ 400 := by
  intro x hx
  obtain ⟨p, hp, rfl⟩ := List.mem_map.1 hx
  have hp := (List.mem_filter.1 hp).1
  simp only [fieldsOk, Bool.and_eq_true, List.all_eq_true] at h
  have := h.2 p hp
  simp only [fieldOk, visibleOk, Bool.and_eq_true, decide_eq_true_eq] at this
  exact this.1.2.1

theorem getI_c (xs : List Fd) (n : ByteArray) (hx : ∀ x ∈ xs, szOk x) (hn : (sb n).length ≤ 140737488355328) (hok : fieldsOk xs = true) : VC Tryd.prog 47 [.rd none (.sl true 2 (xs.map encF)), .val (.string n)] (getV xs n) := by
  have h30 : xs.length ≤ 30 := by
    simp only [fieldsOk, Bool.and_eq_true, decide_eq_true_eq] at hok
    exact hok.1
  refine VC.intro hΘ Tryd.func47 rfl rfl Tryd.ntmps47 rfl rfl rfl fun B hB => ?_
  (conv => whnf)
  refine vloop_intro hΘ hB (ι := Nat × List ByteArray) (fun i => ⟨[(1, .val (.string n)), (6, .own 1 (i.2.map strC)), (10, .rd none (.sl true 2 (xs.map encF))), (11, .val (.int .i64 (xs.map encF).length)), (12, .val (.int .i64 i.1))], []⟩)
    (fun i => i.1 ≤ xs.length ∧ i.2 ++ hitsB n (xs.drop i.1) = hitsB n xs ∧ i.2.length ≤ i.1) (fun i => xs.length - i.1) (0, [])
    ⟨⟨.inr rfl, .inr rfl, .inr rfl, .inr rfl, .inr rfl, trivial⟩, trivial⟩ ⟨by simp, rfl, by simp⟩ ?_
  rintro ⟨i, hs⟩ ⟨k1, k2, k3⟩
  simp only at k1 k2 k3
  (conv => whnf)
  refine brm_intro (fun h => ?_) (fun h => ?_) <;> (conv => whnf) <;> rw [List.length_map] at h <;> simp only [decide_eq_true_eq, decide_eq_false_iff_not] at h
  · have hi : i < xs.length := by omega
    rw [List.drop_eq_getElem_cons hi, hitsB_cons] at k2
    have hm : xs[i] ∈ xs := List.getElem_mem hi
    have hg : xs[i]? = some xs[i] := List.getElem?_eq_getElem hi
    generalize xs[i] = x at k2 hm hg
    have hat : (xs.map encF)[i]? = some (encF x) := by rw [List.getElem?_map, hg]; rfl
    refine vat_intro i (encF x) rfl hat ?_
    (conv => whnf)
    refine vcallS_intro0 rfl (lowerI_c x.1 (hx x hm).1) (f1 (av rfl) f0) ?_
    (conv => whnf)
    refine vcallS_intro0 rfl (lowerI_c n hn) (f1 (av rfl) f0) ?_
    (conv => whnf)
    have hstep : IntKind.i64.wrap ((i : Int) + 1) = ((i + 1 : Nat) : Int) := by rw [wrap_i64 (by omega) (by omega)]; rfl
    refine brm_intro (fun h2 => ?_) (fun h2 => ?_) <;> (conv => whnf) <;> simp only [sb_bs] at h2
    · have : lower (sb x.1) = lower (sb n) := by simpa using h2
      rw [if_pos this, ← List.append_assoc] at k2
      refine vreq_intro (by rw [List.length_map]; show (hs.length + 1) * 17 ≤ _; omega) ?_
      (conv => whnf)
      refine ⟨(i + 1, hs ++ [x.2]), ⟨⟨.inr rfl, .inr (vown_eq ?_), .inr rfl, .inr rfl, .inr (vint_eq hstep), trivial⟩, trivial⟩, ⟨hi, k2, by simp; omega⟩, by simp; omega⟩
      rw [List.map_append]; rfl
    · have : ¬ lower (sb x.1) = lower (sb n) := by simpa using h2
      rw [if_neg this] at k2
      exact ⟨(i + 1, hs), ⟨⟨.inr rfl, .inr rfl, .inr rfl, .inr rfl, .inr (vint_eq hstep), trivial⟩, trivial⟩, ⟨hi, k2, by simp; omega⟩, by simp; omega⟩
  · have : xs.drop i = [] := List.drop_eq_nil_of_le (by omega)
    rw [this] at k2
    have : hs = hitsB n xs := by simpa [hitsB] using k2
    subst this
    have hlen := hitsB_len n xs
    refine vcallS_intro0 rfl (join_c (hitsB n xs) ⟨#[44, 32]⟩ (by omega) ?_) (f1 (ah rfl rfl rfl) (f1 (av rfl) f0)) ?_
    · rw [hitsB_of]
      refine Nat.le_trans (join_len (hits_short hok)) ?_
      rw [← hitsB_of, List.length_map]; omega
    (conv => whnf)
    refine vfin_tup2 ?_ (vbool_eq ?_)
    · rw [hitsB_of]; rfl
    · rw [Bool.eq_iff_iff, ← hitsB_of]
      simp
      rw [List.length_pos_iff]
theorem getIm_c (xs : List Fd) (n : ByteArray) (hx : ∀ x ∈ xs, szOk x) (hn : (sb n).length ≤ 140737488355328) (hl : xs.length ≤ 140737488355328) : VC Tryd.prog 29 [.rd none (.sl true 2 (xs.map encF)), .val (.string n)] (getAll xs n) := by
  refine VC.intro hΘ Tryd.func29 rfl rfl Tryd.ntmps29 rfl rfl (by unfold getAll; split <;> rfl) fun B hB => ?_
  (conv => whnf)
  refine vcallS_intro0 rfl (fieldsOkI_c xs hx hl) (f1 (ar rfl rfl) f0) ?_
  (conv => whnf)
  refine brm_intro (fun h => ?_) (fun h => ?_) <;> (conv => whnf) <;> simp only [Bool.not_eq_true', Bool.not_eq_false'] at h
  · have : getAll xs n = .tup [.val (.string (bs [])), .val (.bool false)] := by unfold getAll; rw [h]; rfl
    rw [this]
    exact vfin_tup2 rfl rfl
  · have : getAll xs n = getV xs n := by unfold getAll; rw [h]; rfl
    rw [this]
    refine vcallS_intro0 rfl (getI_c xs n hx hn h) (f1 (ar rfl rfl) (f1 (av rfl) f0)) ?_
    (conv => whnf)
    exact vfin_tup2 rfl rfl
end Go.Proofs.YteihhmonnbeekaaDoor
namespace Go.Proofs.YteihhmonnbeekaaDoor
open Go Go.Proofs.YteihhmonnbeekaaDoor.Vs

def szF (l : Int) (a b : ByteArray) : Int := if l - (sb a).length < 0 then -1 else if l - (sb a).length - (sb b).length < 0 then -1 else l - (sb a).length - (sb b).length

theorem szField_c (a b : ByteArray) (l : Int) (h1 : 0 ≤ l) (h2 : l ≤ 1048576) (ha : (sb a).length ≤ 140737488355328) (hb : (sb b).length ≤ 140737488355328) : VC Tryd.prog 40 [.agg [.val (.string a), .val (.string b)], .val (.int .i64 l)] (.val (.int .i64 (szF l a b))) := by
  refine VC.intro hΘ Tryd.func40 rfl rfl Tryd.ntmps40 rfl rfl rfl fun B hB => ?_
  (conv => whnf)
  refine brm_intro (fun h => ?_) (fun h => ?_) <;> simp (disch := omega) only [wrap_i64, decide_eq_true_eq, decide_eq_false_iff_not] at h
  · (conv => whnf)
    refine vfin_int ?_
    simp [szF, h]
  · (conv => whnf)
    refine brm_intro (fun h' => ?_) (fun h' => ?_) <;> simp (disch := omega) only [wrap_i64, decide_eq_true_eq, decide_eq_false_iff_not] at h' <;> (conv => whnf) <;> refine vfin_int ?_ <;> simp (disch := omega) only [wrap_i64, szF, h, h', if_true, if_false]
def szFS (l : Int) : List Fd → Int
  | [] => l
  | x :: xs => if szF l x.1 x.2 < 0 then -1 else szFS (szF l x.1 x.2) xs
theorem szF_le {l : Int} {a b : ByteArray} (h : 0 ≤ l) : szF l a b ≤ l := by
  unfold szF; split <;> (try split) <;> omega
theorem szFieldS_c (xs : List Fd) (l : Int) (h1 : 0 ≤ l) (h2 : l ≤ 1048576) (hl : xs.length ≤ 140737488355328) (hx : ∀ x ∈ xs, (sb x.1).length ≤ 140737488355328 ∧ (sb x.2).length ≤ 140737488355328) :
    VC Tryd.prog 7 [.rd none (.sl true 2 (xs.map encF)), .val (.int .i64 l)] (.val (.int .i64 (if l - xs.length < 0 then -1 else szFS (l - xs.length) xs))) := by
  refine VC.intro hΘ Tryd.func7 rfl rfl Tryd.ntmps7 rfl rfl rfl fun B hB => ?_
  (conv => whnf)
  refine brm_intro (fun h => ?_) (fun h => ?_) <;> simp only [List.length_map] at h <;> simp (disch := omega) only [wrap_i64, decide_eq_true_eq, decide_eq_false_iff_not] at h
  · (conv => whnf)
    refine vfin_int ?_
    simp [h]
  rw [if_neg h]
  (conv => whnf)
  refine vloop_intro hΘ hB (ι := Nat × Int) (fun x => ⟨[(0, .rd none (.sl true 2 (xs.map encF))), (1, .val (.int .i64 x.2)), (5, .val (.int .i64 x.1))], []⟩)
    (fun x => x.1 ≤ xs.length ∧ 0 ≤ x.2 ∧ x.2 ≤ 1048576 ∧ szFS x.2 (xs.drop x.1) = szFS (l - xs.length) xs) (fun x => xs.length - x.1) (0, l - xs.length)
    ⟨⟨.inr rfl, .inr (vint_eq (by simp only [List.length_map]; simp (disch := omega) only [wrap_i64])), .inr rfl, trivial⟩, trivial⟩ ⟨by simp, by simp; omega, by simp; omega, rfl⟩ ?_
  rintro ⟨i, v⟩ ⟨k1, k2, k3, k4⟩
  simp only at k1 k2 k3 k4
  (conv => whnf)
  refine brm_intro (fun h => ?_) (fun h => ?_) <;> simp only [List.length_map, decide_eq_true_eq, decide_eq_false_iff_not, Int.ofNat_lt] at h
  · have hi : xs[i]? = some xs[i] := List.getElem?_eq_getElem h
    have hm : xs[i] ∈ xs := List.getElem_mem h
    rw [List.drop_eq_getElem_cons h] at k4
    generalize xs[i] = x at hi hm k4
    (conv => whnf)
    refine vat_intro i (encF x) rfl (by rw [List.getElem?_map, hi]; rfl) ?_
    (conv => whnf)
    refine vcallS_intro0 rfl (szField_c x.1 x.2 v k2 k3 (hx x hm).1 (hx x hm).2) (f1 (fa (l1 (fv rfl) (l1 (fv rfl) l0))) (f1 (av rfl) f0)) ?_
    (conv => whnf)
    refine brm_intro (fun h' => ?_) (fun h' => ?_) <;> simp only [decide_eq_true_eq, decide_eq_false_iff_not] at h' 
    · (conv => whnf)
      refine vfin_int ?_
      simp [szFS, h'] at k4
      exact k4
    · have := szF_le (a := x.1) (b := x.2) k2
      simp only [szFS, if_neg h'] at k4
      exact ⟨(i + 1, szF v x.1 x.2), ⟨⟨.inr rfl, .inr rfl, .inr (vint_eq (by simp (disch := omega) only [wrap_i64]; rfl)), trivial⟩, trivial⟩, ⟨h, by simp; omega, by simp; omega, k4⟩, by simp; omega⟩
  · (conv => whnf)
    refine vfin_int ?_
    have : xs.drop i = [] := List.drop_eq_nil_of_le (by omega)
    rw [this] at k4
    exact k4


theorem szFS_neg : ∀ {xs : List Fd} {l : Int}, 0 ≤ szFS l xs → 0 ≤ l ∨ xs = []
  | [], l, _ => .inr rfl
  | x :: r, l, h => by
    rw [szFS] at h
    split at h
    · omega
    · rename_i h1
      left
      unfold szF at h1
      split at h1
      · omega
      · omega
end Go.Proofs.YteihhmonnbeekaaDoor
namespace Go.Proofs.YteihhmonnbeekaaDoor
open Go Go.Proofs.YteihhmonnbeekaaDoor.Vs

/-! #### the marks -/
def markL (n : Nat) (l : List UInt8) : List UInt8 := if n = 0 then l else markL (n / 10) (UInt8.ofNat (48 + n % 10) :: l)
termination_by n
decreasing_by omega
def markB (n : Int) : ByteArray := if n ≤ 0 then ⟨⟨[109, 48]⟩⟩ else ⟨⟨109 :: markL n.toNat []⟩⟩
theorem markText_c (n : Int) (hn : 0 ≤ n) (hn' : n ≤ 4611686018427387904) : VC Tryd.prog 51 [.val (.int .i64 n)] (.val (.string (markB n))) := by
  refine VC.intro hΘ Tryd.func51 rfl rfl Tryd.ntmps51 rfl rfl rfl fun B hB => ?_
  (conv => whnf)
  refine brm_intro (fun h => ?_) (fun h => ?_) <;> (conv => whnf) <;> simp only [decide_eq_true_eq, decide_eq_false_iff_not] at h
  · exact vfin_str (by simp [markB, h])
  refine vloop_intro hΘ hB (ι := Nat × List UInt8) (fun x => ⟨[(0, .val (.int .i64 x.1)), (3, .val (.string ⟨⟨x.2⟩⟩))], []⟩) (fun x => markL x.1 x.2 = markL n.toNat [] ∧ x.2.length + x.1 ≤ n.toNat) (fun x => x.1) (n.toNat, [])
    ⟨⟨.inr (vint_eq (Int.toNat_of_nonneg hn).symm), .inr rfl, trivial⟩, trivial⟩ ⟨rfl, by simp⟩ ?_
  rintro ⟨m, l⟩ ⟨k1, k2⟩
  (conv => whnf)
  refine brm_intro (fun h => ?_) (fun h => ?_) <;> (conv => whnf) <;> simp only [decide_eq_true_eq, decide_eq_false_iff_not] at h
  · have hm : 0 < m := by simpa using h
    have hr : (m : Int).tmod 10 = ((m % 10 : Nat) : Int) := by rw [Int.tmod_eq_emod_of_nonneg (by omega)]; omega
    have hq : (m : Int).tdiv 10 = ((m / 10 : Nat) : Int) := by rw [Int.tdiv_eq_ediv_of_nonneg (by omega)]; omega
    refine vreq_intro (by decide) ?_
    (conv => whnf)
    refine vbytes_intro [UInt8.ofNat (48 + m % 10)] ?_ ?_
    · show [[C.v (Value.int IntKind.u8 (IntKind.u8.wrap (IntKind.i64.wrap (48 + (m : Int).tmod 10))))]] = _
      rw [hr, wrap_i64 (by omega) (by omega), wrap_u8 (by omega) (by omega)]
      have : m % 10 < 10 := Nat.mod_lt _ (by decide)
      simp only [bytesC, List.map_cons, List.map_nil]
      congr 4
      simp [UInt8.toNat_ofNat']
      omega
    (conv => whnf)
    have k2' : l.length + m ≤ n.toNat := k2
    refine vreq_intro (by show 1 + l.length ≤ 9223372036854775807; omega) ?_
    (conv => whnf)
    refine vreq_intro (by decide) ?_
    (conv => whnf)
    refine ⟨(m / 10, UInt8.ofNat (48 + m % 10) :: l), ⟨⟨.inr (vint_eq ?_), .inr rfl, trivial⟩, trivial⟩, ⟨?_, ?_⟩, ?_⟩
    · show IntKind.i64.wrap ((m : Int).tdiv 10) = _
      rw [hq, wrap_i64 (by omega) (by omega)]
    · rw [← k1]
      show _ = markL m l
      rw [markL.eq_1 m l, if_neg (by omega)]
    · show l.length + 1 + m / 10 ≤ n.toNat
      omega
    · show m / 10 < m
      omega
  · have hm : m = 0 := by have : ¬ ((m : Int) > 0) := h; omega
    subst hm
    have k2' : l.length + 0 ≤ n.toNat := k2
    refine vreq_intro (by show 1 + l.length ≤ 9223372036854775807; omega) ?_
    (conv => whnf)
    refine vfin_str ?_
    have k1' : markL 0 l = markL n.toNat [] := k1
    have : markL 0 l = l := by rw [markL.eq_1, if_pos rfl]
    rw [this] at k1'
    simp only [markB, if_neg (show ¬ n ≤ 0 by assumption), ← k1']
    rfl
end Go.Proofs.YteihhmonnbeekaaDoor
namespace Go.Proofs.YteihhmonnbeekaaDoor
open Go Go.Proofs.YteihhmonnbeekaaDoor.Vs

def encM (n : Int) : Nat → List (List C)
  | 0 => []
  | k + 1 => [C.v (.string (markB n)), C.v (.string (markB (n + 1)))] :: encM (n + 2) k
theorem encM_len (n : Int) : ∀ k, (encM n k).length = k
  | 0 => rfl
  | k + 1 => by simp [encM, encM_len (n + 2) k]
theorem encM_succ (n : Int) : ∀ k, encM n (k + 1) = encM n k ++ [[C.v (.string (markB (n + 2 * k))), C.v (.string (markB (n + 2 * k + 1)))]]
  | 0 => by simp [encM]
  | k + 1 => by
    have h1 : n + 2 + 2 * (k : Int) = n + 2 * ((k + 1 : Nat) : Int) := by omega
    rw [encM, encM_succ (n + 2) k, encM, h1]; rfl
theorem modify_at {α : Type} (f : α → α) (x : α) (r : List α) : ∀ E : List α, (E ++ x :: r).modify E.length f = E ++ f x :: r
  | [] => rfl
  | e :: E => by simp [modify_at f x r E]
theorem mark_step {xs : List (List C)} {n : Int} {i : Nat} (hi : i < xs.length) (h2 : ∀ x ∈ xs, x.length = 2) :
    putE 2 (0 + 1) [C.v (.string (markB (n + 2 * i + 1)))] (putE 2 (0 + 0) [C.v (.string (markB (n + 2 * i)))] (encM n i ++ xs.drop i) i) i = encM n (i + 1) ++ xs.drop (i + 1) := by
  have hx := h2 _ (List.getElem_mem hi)
  rw [List.drop_eq_getElem_cons hi]
  generalize xs[i] = x at hx
  obtain ⟨a, b, rfl⟩ : ∃ a b, x = [a, b] := by
    match x, hx with
    | [a, b], _ => exact ⟨a, b, rfl⟩
  have e1 : ∀ ys, putE 2 (0 + 0) [C.v (.string (markB (n + 2 * i)))] ys i = ys.modify i fun c => splC c 0 [C.v (.string (markB (n + 2 * i)))] := fun _ => rfl
  have e2 : ∀ ys, putE 2 (0 + 1) [C.v (.string (markB (n + 2 * i + 1)))] ys i = ys.modify i fun c => splC c 1 [C.v (.string (markB (n + 2 * i + 1)))] := fun _ => rfl
  have hE : (encM n i).length = i := encM_len n i
  rw [e2, e1, encM_succ]
  generalize encM n i = E at hE
  subst hE
  rw [modify_at, modify_at, List.append_assoc]
  rfl
theorem markFieldS_c (xs : List (List C)) (n : Int) (hx : xs.length ≤ 1000000000) (hn : 0 ≤ n) (hn' : n ≤ 4611686010000000000) (h2 : ∀ x ∈ xs, x.length = 2) :
    VCm Tryd.prog 12 [.m 2 xs, .v (.val (.int .i64 n))] [] (.val (.int .i64 (n + 2 * xs.length))) [[some (2, encM n xs.length)], []] [] := by
  refine VCm.intro0 hΘ Tryd.func12 rfl rfl Tryd.ntmps12 rfl rfl rfl fun B hB hs hl => ?_
  obtain ⟨u0, u1, rfl⟩ : ∃ u0 u1, hs = [u0, u1] := by
    match hs, hl with
    | [a, b], _ => exact ⟨a, b, rfl⟩
  (conv => whnf)
  refine vloop_intro hΘ hB (ι := Nat) (fun i => ⟨[(0, .mu (cellN u0 0) 2 (encM n i ++ xs.drop i)), (1, .val (.int .i64 (n + 2 * i))), (5, .val (.int .i64 i))], []⟩) (fun i => i ≤ xs.length) (fun i => xs.length - i) 0
    ⟨⟨.inr rfl, .inr (vint_eq (by simp)), .inr rfl, trivial⟩, trivial⟩ (Nat.zero_le _) ?_
  intro i k1
  (conv => whnf)
  have hlen : (encM n i ++ xs.drop i).length = xs.length := by rw [List.length_append, encM_len, List.length_drop]; omega
  refine brm_intro (fun h => ?_) (fun h => ?_) <;> (conv => whnf) <;> simp only [decide_eq_true_eq, decide_eq_false_iff_not, hlen] at h
  · have hi : i < xs.length := by omega
    refine vcallS_intro0 rfl (markText_c (n + 2 * i) (by omega) (by omega)) (f1 (av rfl) f0) ?_
    (conv => whnf)
    refine vix_intro i rfl (by rw [hlen]; exact hi) ?_
    (conv => whnf)
    have hw : IntKind.i64.wrap (n + 2 * (i : Int) + 1) = n + 2 * i + 1 := wrap_i64 (by omega) (by omega)
    refine vcallS_intro0 rfl (markText_c (n + 2 * i + 1) (by omega) (by omega)) (f1 (av (by rw [hw])) f0) ?_
    (conv => whnf)
    refine vix_intro i rfl (by show i < (List.modify _ i _).length; rw [List.length_modify, hlen]; exact hi) ?_
    (conv => whnf)
    refine ⟨i + 1, ⟨⟨.inr ?_, .inr (vint_eq ?_), .inr (vint_eq ?_), trivial⟩, trivial⟩, hi, by omega⟩
    · show V.mu (cellN u0 0) 2 _ = V.mu (cellN u0 0) 2 _
      rw [mark_step hi h2]
    · rw [hw, wrap_i64 (by omega) (by omega)]; omega
    · rw [wrap_i64 (by omega) (by omega)]; rfl
  · have : i = xs.length := by omega
    subst this
    have hd : encM n xs.length ++ xs.drop xs.length = encM n xs.length := by simp
    rw [hd]
    refine ⟨?_, ?_, ?_⟩
    · (conv => whnf)
      exact vfin_int rfl
    · exact ⟨⟨vfinE_intro rfl, trivial⟩, trivial, trivial⟩
    · trivial
end Go.Proofs.YteihhmonnbeekaaDoor
namespace Go.Proofs.YteihhmonnbeekaaDoor
open Go Go.Proofs.YteihhmonnbeekaaDoor.Vs

theorem encM_get (n : Int) : ∀ (k i : Nat), i < k → (encM n k)[i]? = some [C.v (.string (markB (n + 2 * i))), C.v (.string (markB (n + 2 * i + 1)))] := by
  intro k
  induction k with
  | zero => intro i h; omega
  | succ k ih =>
    intro i h
    rw [encM_succ]
    by_cases hk : i < k
    · rw [List.getElem?_append_left (by rw [encM_len]; exact hk)]; exact ih i hk
    · have : i = k := by omega
      subst this
      rw [List.getElem?_append_right (by rw [encM_len]; exact Nat.le_refl _), encM_len, Nat.sub_self]; rfl
theorem heldFieldS_c (k : Nat) (n : Int) (hx : k ≤ 1000000000) (hn : 0 ≤ n) (hn' : n ≤ 4611686010000000000) :
    VC Tryd.prog 13 [.rd none (.sl true 2 (encM n k)), .val (.int .i64 n)] (.val (.int .i64 (n + 2 * k))) := by
  refine VC.intro hΘ Tryd.func13 rfl rfl Tryd.ntmps13 rfl rfl rfl fun B hB => ?_
  (conv => whnf)
  refine vloop_intro hΘ hB (ι := Nat) (fun i => ⟨[(0, .rd none (.sl true 2 (encM n k))), (1, .val (.int .i64 (n + 2 * i))), (5, .val (.int .i64 i))], []⟩) (fun i => i ≤ k) (fun i => k - i) 0
    ⟨⟨.inr rfl, .inr (vint_eq (by simp)), .inr rfl, trivial⟩, trivial⟩ (Nat.zero_le _) ?_
  intro i k1
  (conv => whnf)
  refine brm_intro (fun h => ?_) (fun h => ?_) <;> (conv => whnf) <;> simp only [decide_eq_true_eq, decide_eq_false_iff_not, encM_len] at h
  · have hi : i < k := by omega
    have hat := encM_get n k i hi
    have hw : IntKind.i64.wrap (n + 2 * (i : Int) + 1) = n + 2 * i + 1 := wrap_i64 (by omega) (by omega)
    refine vdraw_intro hΘ hB mixed (by kernel_rfl) ?_
    (conv => whnf)
    refine vat_intro i _ rfl hat ?_
    (conv => whnf)
    refine vcallQ_intro0 rfl (markText_c (n + 2 * i) (by omega) (by omega)) (f1 (av rfl) f0) rfl ?_
    (conv => whnf)
    refine brm_intro (fun h2 => ?_) (fun h2 => ?_) <;> (conv => whnf)
    · exact absurd h2 (by simp)
    refine vdraw_intro hΘ hB mixed (by kernel_rfl) ?_
    (conv => whnf)
    refine vat_intro i _ rfl hat ?_
    (conv => whnf)
    refine vcallQ_intro0 rfl (markText_c (n + 2 * i + 1) (by omega) (by omega)) (f1 (av (by rw [hw])) f0) rfl ?_
    (conv => whnf)
    refine brm_intro (fun h2 => ?_) (fun h2 => ?_) <;> (conv => whnf)
    · exact absurd h2 (by simp)
    refine ⟨i + 1, ⟨⟨.inr rfl, .inr (vint_eq ?_), .inr (vint_eq ?_), trivial⟩, trivial⟩, hi, by omega⟩
    · rw [hw, wrap_i64 (by omega) (by omega)]; omega
    · rw [wrap_i64 (by omega) (by omega)]; rfl
  · have : i = k := by omega
    subst this
    exact vfin_int rfl
end Go.Proofs.YteihhmonnbeekaaDoor
namespace Go.Proofs.YteihhmonnbeekaaDoor
open Go Go.Proofs.YteihhmonnbeekaaDoor.Vs

/-! #### items -/
def seg (l : List UInt8) (f i : Nat) : List UInt8 := (l.drop f).take (i - f)
theorem seg_self (l : List UInt8) (i : Nat) : seg l i i = [] := by simp [seg]
theorem seg_succ {l : List UInt8} {f i : Nat} {b : UInt8} (h : f ≤ i) (hb : l[i]? = some b) : seg l f (i + 1) = seg l f i ++ [b] := by
  unfold seg
  have : i + 1 - f = (i - f) + 1 := by omega
  rw [this, List.take_add_one, List.getElem?_drop, show f + (i - f) = i by omega, hb]; rfl
theorem seg_all {l : List UInt8} {f : Nat} : seg l f l.length = l.drop f := by
  unfold seg; rw [List.take_of_length_le]; simp
def emitI (cur : List UInt8) : List (List UInt8) := if trimmed cur = [] then [] else [trimmed cur]
def itemsG : List UInt8 → Bool → Bool → List UInt8 → List (List UInt8)
  | [], _, _, cur => emitI cur
  | c :: r, o, e, cur =>
    if e = true then itemsG r o false (cur ++ [c]) else
    if c = 44 ∧ o = false then emitI cur ++ itemsG r o false [] else
    if c = 34 then itemsG r (!o) false (cur ++ [c]) else
    if c = 92 ∧ o = true then itemsG r o true (cur ++ [c]) else itemsG r o false (cur ++ [c])
def items (l : List UInt8) : List (List UInt8) := if visibleOk l then itemsG l false false [] else []
def itemsB (l : List UInt8) : List ByteArray := (items l).map bs
def gI (l : List UInt8) (o : Bool) (cur : List UInt8) : List ByteArray := (itemsG l o false cur).map bs
def eI (cur : List UInt8) : List ByteArray := (emitI cur).map bs
theorem gI_nil {o : Bool} {cur : List UInt8} : gI [] o cur = eI cur := by simp [gI, eI, itemsG]
theorem gI_comma {r : List UInt8} {cur : List UInt8} : gI (44 :: r) false cur = eI cur ++ gI r false [] := by simp [gI, eI, itemsG]
theorem gI_quote {r : List UInt8} {o : Bool} {cur : List UInt8} : gI (34 :: r) o cur = gI r (!o) (cur ++ [34]) := by simp [gI, itemsG]
theorem gI_esc1 {cur : List UInt8} : gI [92] true cur = eI (cur ++ [92]) := by simp [gI, eI, itemsG]
theorem gI_esc2 {d : UInt8} {r cur : List UInt8} : gI (92 :: d :: r) true cur = gI r true (cur ++ [92] ++ [d]) := by simp [gI, itemsG]
theorem gI_other {c : UInt8} {r cur : List UInt8} {o : Bool} (h1 : ¬ (c = 44 ∧ o = false)) (h2 : ¬ c = 34) (h3 : ¬ (c = 92 ∧ o = true)) : gI (c :: r) o cur = gI r o (cur ++ [c]) := by
  simp only [gI, itemsG, h1, h2, h3, if_false, Bool.false_eq_true]
theorem trimmed_len (l : List UInt8) : (trimmed l).length ≤ l.length := by
  unfold trimmed trimR trimL
  rw [List.length_reverse]
  refine Nat.le_trans (List.dropWhile_sublist _).length_le ?_
  rw [List.length_reverse]
  exact (List.dropWhile_sublist _).length_le
theorem emitI_len {cur x : List UInt8} (h : x ∈ emitI cur) : x.length ≤ cur.length := by
  unfold emitI at h
  split at h
  · cases h
  · simp only [List.mem_singleton] at h; subst h; exact trimmed_len cur
theorem itemsG_len : ∀ (l : List UInt8) (o e : Bool) (cur x : List UInt8), x ∈ itemsG l o e cur → x.length ≤ cur.length + l.length
  | [], o, e, cur, x, h => by
    simp only [itemsG] at h
    exact Nat.le_trans (emitI_len h) (Nat.le_add_right _ _)
  | c :: r, o, e, cur, x, h => by
    have step : ∀ o e, x ∈ itemsG r o e (cur ++ [c]) → x.length ≤ cur.length + (c :: r).length := by
      intro o e h
      have := itemsG_len r o e _ x h
      simp at this ⊢; omega
    rw [itemsG] at h
    split at h
    · exact step _ _ h
    · split at h
      · rcases List.mem_append.1 h with h | h
        · exact Nat.le_trans (emitI_len h) (Nat.le_add_right _ _)
        · have := itemsG_len r o false [] x h
          simp at this ⊢; omega
      · split at h
        · exact step _ _ h
        · split at h
          · exact step _ _ h
          · exact step _ _ h
theorem items_len {l x : List UInt8} (h : x ∈ items l) : x.length ≤ 400 := by
  unfold items at h
  split at h
  · rename_i hv
    have := itemsG_len l false false [] x h
    simp only [visibleOk, Bool.and_eq_true, decide_eq_true_eq] at hv
    simp at this; omega
  · cases h
theorem itemsB_len {l : List UInt8} {x : ByteArray} (h : x ∈ itemsB l) : (sb x).length ≤ 400 := by
  obtain ⟨y, hy, rfl⟩ := List.mem_map.1 h
  exact items_len hy
theorem emitI_cnt (cur : List UInt8) : (emitI cur).length ≤ 1 := by unfold emitI; split <;> simp
theorem itemsG_cnt : ∀ (l : List UInt8) (o e : Bool) (cur : List UInt8), (itemsG l o e cur).length ≤ l.length + 1
  | [], o, e, cur => by simp only [itemsG]; exact emitI_cnt cur
  | c :: r, o, e, cur => by
    have step : ∀ o e cur, (itemsG r o e cur).length ≤ (c :: r).length + 1 := by
      intro o e cur
      have := itemsG_cnt r o e cur
      simp; omega
    rw [itemsG]
    split
    · exact step _ _ _
    · split
      · have := itemsG_cnt r o false []
        have := emitI_cnt cur
        simp; omega
      · split
        · exact step _ _ _
        · split <;> exact step _ _ _
theorem itemsB_cnt (l : List UInt8) : (itemsB l).length ≤ 401 := by
  unfold itemsB items
  split
  · rename_i hv
    simp only [visibleOk, Bool.and_eq_true, decide_eq_true_eq] at hv
    have := itemsG_cnt l false false []
    simp; omega
  · simp
structure ISt where
  acc : List ByteArray
  fr : Nat
  o : Bool
  i : Nat

theorem itemsS_c (s : ByteArray) (hs : (sb s).length ≤ 140737488355328) : VC Tryd.prog 43 [.val (.string s)] (.own 1 ((itemsB (sb s)).map strC)) := by
  refine VC.intro hΘ Tryd.func43 rfl rfl Tryd.ntmps43 rfl rfl rfl fun B hB => ?_
  (conv => whnf)
  refine vcallS_intro0 rfl (visibleOkS_c s hs) (f1 (av rfl) f0) ?_
  (conv => whnf)
  refine brm_not (fun h => ?_) (fun h => ?_) <;> (conv => whnf)
  · have : itemsB (sb s) = [] := by simp [itemsB, items, h]
    rw [this]
    exact vfin_own rfl
  have hL : (sb s).length ≤ 400 := by
    simp only [visibleOk, Bool.and_eq_true, decide_eq_true_eq] at h; exact h.1
  have hT : itemsB (sb s) = gI (sb s) false [] := by simp [itemsB, items, h, gI]
  rw [hT]
  refine vloop_intro hΘ hB (ι := ISt) (fun | ⟨acc, fr, o, i⟩ => ⟨[(0, .val (.string s)), (3, .own 1 (acc.map strC)), (4, .val (.int .i64 fr)), (5, .val (.bool o)), (6, .val (.int .i64 i))], []⟩)
    (fun x => (x.i ≤ (sb s).length ∧ x.fr ≤ x.i ∧ x.acc.length ≤ x.i ∧ x.acc ++ gI ((sb s).drop x.i) x.o (seg (sb s) x.fr x.i) = gI (sb s) false []) ∨ (x.i = (sb s).length + 1 ∧ x.acc = gI (sb s) false [])) (fun x => (sb s).length + 1 - x.i) ⟨[], 0, false, 0⟩
    ⟨⟨.inr rfl, .inr rfl, .inr rfl, .inr rfl, .inr rfl, trivial⟩, trivial⟩ (.inl ⟨Nat.zero_le _, Nat.le_refl _, Nat.le_refl _, rfl⟩) ?_
  rintro ⟨acc, fr, o, i⟩ k
  simp only at k
  (conv => whnf)
  refine brm_p (fun h1 => ?_) (fun h1 => ?_) <;> (conv => whnf)
  rotate_left
  · refine vfin_own ?_
    rcases k with ⟨k1, _⟩ | ⟨_, k2⟩
    · exfalso; omega
    · rw [k2]
  obtain ⟨k1, k2, k3, k4⟩ : i ≤ (sb s).length ∧ fr ≤ i ∧ acc.length ≤ i ∧ acc ++ gI ((sb s).drop i) o (seg (sb s) fr i) = gI (sb s) false [] := by
    rcases k with k | ⟨k, _⟩
    · exact k
    · exfalso; omega
  have hw := wrap_succ (i := i) (by omega)
  have hw2 := wrap_succ (i := i + 1) (by omega)
  refine brm_eq (fun h2 => ?_) (fun h2 => ?_) <;> (conv => whnf)
  · -- the end
    have hi : i = (sb s).length := by omega
    refine vrange_intro fr i rfl rfl k2 k1 ?_
    (conv => whnf)
    have hsl : (sb (bs (((sb s).drop fr).take (i - fr)))).length ≤ 140737488355328 := by rw [sb_bs]; simp; omega
    refine call_l rfl (trimmedS_c _ hsl) (f1 (av rfl) f0) fun y hy => ?_
    (conv => whnf)
    have hd : (sb s).drop i = [] := List.drop_eq_nil_of_le (by omega)
    rw [hd, gI_nil] at k4
    refine brm_ne' (fun h3 => ?_) (fun h3 => ?_) <;> (conv => whnf)
    · refine vreq_intro (by rw [List.length_map]; show (acc.length + 1) * 17 ≤ _; omega) ?_
      (conv => whnf)
      refine ⟨⟨acc ++ [bs y], i + 1, o, i + 1⟩, ⟨⟨.inr rfl, .inr (vown_eq ?_), .inr (vint_eq hw), .inr rfl, .inr (vint_eq hw), trivial⟩, trivial⟩, .inr ⟨by simp only; omega, ?_⟩, by simp only; omega⟩
      · rw [List.map_append]; rfl
      · rw [← k4]
        rw [sb_bs] at h3 hy
        have : ¬ trimmed (seg (sb s) fr i) = [] := fun e => h3 (hy.trans e)
        have e : eI (seg (sb s) fr i) = [bs y] := by rw [eI, emitI, if_neg this, hy]; rfl
        rw [e]
    · refine ⟨⟨acc, i + 1, o, i + 1⟩, ⟨⟨.inr rfl, .inr rfl, .inr (vint_eq hw), .inr rfl, .inr (vint_eq hw), trivial⟩, trivial⟩, .inr ⟨by simp only; omega, ?_⟩, by simp only; omega⟩
      rw [← k4]
      rw [sb_bs] at h3 hy
      have : trimmed (seg (sb s) fr i) = [] := hy.symm.trans h3
      simp [eI, emitI, this]
  have hi : i < (sb s).length := by omega
  obtain ⟨b, hb, _, hd⟩ := drop_at hi
  rw [hd] at k4
  have hg := byteAt_get hb
  have hsg := seg_succ k2 hb
  refine vix_intro i rfl hi ?_
  (conv => whnf)
  rw [hg]
  have oth : ¬ (b = 44 ∧ o = false) → ¬ b = 34 → ¬ (b = 92 ∧ o = true) → acc ++ gI ((sb s).drop (i + 1)) o (seg (sb s) fr (i + 1)) = gI (sb s) false [] := by
    intro e1 e2 e3
    rw [hsg, ← gI_other e1 e2 e3]; exact k4
  have hbe : ∀ n : Nat, n < 256 → ((b.toNat : Int) = (n : Int) ↔ b = UInt8.ofNat n) := by
    intro n hn
    constructor
    · intro e; apply UInt8.toNat_inj.1; rw [UInt8.toNat_ofNat']; omega
    · intro e; rw [e, UInt8.toNat_ofNat']; omega
  have e44 := hbe 44 (by decide)
  have e34 := hbe 34 (by decide)
  have e92 := hbe 92 (by decide)
  refine brm_eq (fun h3 => ?_) (fun h3 => ?_) <;> (conv => whnf)
  · have hb44 : b = 44 := e44.1 h3
    cases o with
    | false =>
      (conv => whnf)
      subst hb44
      rw [gI_comma] at k4
      refine vrange_intro fr i rfl rfl k2 k1 ?_
      (conv => whnf)
      have hsl : (sb (bs (((sb s).drop fr).take (i - fr)))).length ≤ 140737488355328 := by rw [sb_bs]; simp; omega
      refine call_l rfl (trimmedS_c _ hsl) (f1 (av rfl) f0) fun y hy => ?_
      (conv => whnf)
      refine brm_ne' (fun h3 => ?_) (fun h3 => ?_) <;> (conv => whnf)
      · refine vreq_intro (by rw [List.length_map]; show (acc.length + 1) * 17 ≤ _; omega) ?_
        (conv => whnf)
        refine ⟨⟨acc ++ [bs y], i + 1, false, i + 1⟩, ⟨⟨.inr rfl, .inr (vown_eq ?_), .inr (vint_eq hw), .inr rfl, .inr (vint_eq hw), trivial⟩, trivial⟩, .inl ⟨by simp only; omega, Nat.le_refl _, by simp; omega, ?_⟩, by simp only; omega⟩
        · rw [List.map_append]; rfl
        · rw [← k4, seg_self]
          rw [sb_bs] at h3 hy
          have : ¬ trimmed (seg (sb s) fr i) = [] := fun e => h3 (hy.trans e)
          have e : eI (seg (sb s) fr i) = [bs y] := by rw [eI, emitI, if_neg this, hy]; rfl
          rw [e, List.append_assoc]
      · refine ⟨⟨acc, i + 1, false, i + 1⟩, ⟨⟨.inr rfl, .inr rfl, .inr (vint_eq hw), .inr rfl, .inr (vint_eq hw), trivial⟩, trivial⟩, .inl ⟨by simp only; omega, Nat.le_refl _, by simp only; omega, ?_⟩, by simp only; omega⟩
        rw [← k4, seg_self]
        rw [sb_bs] at h3 hy
        have : trimmed (seg (sb s) fr i) = [] := hy.symm.trans h3
        simp [eI, emitI, this]
    | true =>
      (conv => whnf)
      refine vix_intro i rfl hi ?_
      (conv => whnf)
      rw [hg]
      refine brm_eq (fun h4 => ?_) (fun h4 => ?_) <;> (conv => whnf)
      · exfalso; omega
      refine vix_intro i rfl hi ?_
      (conv => whnf)
      rw [hg]
      refine brm_eq (fun h5 => ?_) (fun h5 => ?_) <;> (conv => whnf)
      · exfalso; omega
      exact ⟨⟨acc, fr, true, i + 1⟩, ⟨⟨.inr rfl, .inr rfl, .inr rfl, .inr rfl, .inr (vint_eq hw), trivial⟩, trivial⟩, .inl ⟨hi, by simp only; omega, by simp only; omega, oth (by simp) (fun e => h4 (e34.2 e)) (fun e => h5 (e92.2 e.1))⟩, by simp only; omega⟩
  · have h44 : ¬ (b = 44 ∧ o = false) := fun e => h3 (e44.2 e.1)
    refine vix_intro i rfl hi ?_
    (conv => whnf)
    rw [hg]
    refine brm_eq (fun h4 => ?_) (fun h4 => ?_) <;> (conv => whnf)
    · have : b = 34 := e34.1 h4
      subst this
      rw [gI_quote, ← hsg] at k4
      exact ⟨⟨acc, fr, !o, i + 1⟩, ⟨⟨.inr rfl, .inr rfl, .inr rfl, .inr rfl, .inr (vint_eq hw), trivial⟩, trivial⟩, .inl ⟨hi, by simp only; omega, by simp only; omega, k4⟩, by simp only; omega⟩
    refine vix_intro i rfl hi ?_
    (conv => whnf)
    rw [hg]
    refine brm_eq (fun h5 => ?_) (fun h5 => ?_) <;> (conv => whnf)
    · have hb92 : b = 92 := e92.1 h5
      cases o with
      | false =>
        (conv => whnf)
        exact ⟨⟨acc, fr, false, i + 1⟩, ⟨⟨.inr rfl, .inr rfl, .inr rfl, .inr rfl, .inr (vint_eq hw), trivial⟩, trivial⟩, .inl ⟨hi, by simp only; omega, by simp only; omega, oth h44 (fun e => h4 (e34.2 e)) (by simp)⟩, by simp only; omega⟩
      | true =>
        (conv => whnf)
        subst hb92
        rw [hw]
        refine brm_eq (fun h6 => ?_) (fun h6 => ?_) <;> (conv => whnf)
        · have hd2 : (sb s).drop (i + 1) = [] := List.drop_eq_nil_of_le (by omega)
          rw [hd2, gI_esc1, ← hsg] at k4
          have hback : IntKind.i64.wrap (IntKind.i64.wrap (((i + 1 : Nat) : Int) - 1) + 1) = ((i + 1 : Nat) : Int) := by
            rw [wrap_i64 (x := ((i + 1 : Nat) : Int) - 1) (by omega) (by omega), wrap_i64 (by omega) (by omega)]; omega
          refine ⟨⟨acc, fr, true, i + 1⟩, ⟨⟨.inr rfl, .inr rfl, .inr rfl, .inr rfl, .inr (vint_eq hback), trivial⟩, trivial⟩, .inl ⟨hi, by simp only; omega, by simp only; omega, ?_⟩, by simp only; omega⟩
          simp only [hd2, gI_nil]; exact k4
        · have hi2 : i + 1 < (sb s).length := by omega
          obtain ⟨d, hd2, _, hd3⟩ := drop_at hi2
          rw [hd3, gI_esc2, ← hsg, ← seg_succ (by omega) hd2] at k4
          exact ⟨⟨acc, fr, true, i + 2⟩, ⟨⟨.inr rfl, .inr rfl, .inr rfl, .inr rfl, .inr (vint_eq hw2), trivial⟩, trivial⟩, .inl ⟨hi2, by simp only; omega, by simp only; omega, k4⟩, by simp only; omega⟩
    · exact ⟨⟨acc, fr, o, i + 1⟩, ⟨⟨.inr rfl, .inr rfl, .inr rfl, .inr rfl, .inr (vint_eq hw), trivial⟩, trivial⟩, .inl ⟨hi, by simp only; omega, by simp only; omega, oth h44 (fun e => h4 (e34.2 e)) (fun e => h5 (e92.2 e.1))⟩, by simp only; omega⟩
end Go.Proofs.YteihhmonnbeekaaDoor
namespace Go.Proofs.YteihhmonnbeekaaDoor
open Go Go.Proofs.YteihhmonnbeekaaDoor.Vs

/-! #### items, the program's -/
theorem itemsFn_c (acc : List ByteArray) (s : ByteArray) (hs : (sb s).length ≤ 140737488355328) (ha : acc.length ≤ 1000000) :
    VCm Tryd.prog 76 [.v (.val (.string s)), .p 0] [[.own 1 (acc.map strC)]] (.tup []) [[], []] [[.own 1 ((acc ++ eI (sb s)).map strC)]] := by
  refine VCm.intro0 hΘ Tryd.func76 rfl rfl Tryd.ntmps76 rfl rfl rfl fun B hB hs' hl => ?_
  obtain ⟨u0, u1, rfl⟩ : ∃ u0 u1, hs' = [u0, u1] := by
    match hs', hl with
    | [a, b], _ => exact ⟨a, b, rfl⟩
  (conv => whnf)
  refine vcallS_intro0 rfl (trimmedI_c s hs) (f1 (av rfl) f0) ?_
  (conv => whnf)
  refine brm_ne' (fun h => ?_) (fun h => ?_) <;> (conv => whnf)
  · refine vreq_intro (by rw [List.length_map]; show (acc.length + 1) * 17 ≤ _; omega) ?_
    (conv => whnf)
    refine ⟨?_, ⟨trivial, trivial, trivial⟩, ?_, trivial⟩
    · (conv => whnf)
      exact vfin_intro rfl
    · (conv => whnf)
      refine vbox_intro ?_
      have : ¬ trimmed (sb s) = [] := h
      have e : eI (sb s) = [bs (trimmed (sb s))] := by rw [eI, emitI, if_neg this]; rfl
      rw [e, List.map_append]; rfl
  · refine ⟨?_, ⟨trivial, trivial, trivial⟩, ?_, trivial⟩
    · (conv => whnf)
      exact vfin_intro rfl
    · (conv => whnf)
      refine vbox_intro ?_
      have : trimmed (sb s) = [] := h
      have e : eI (sb s) = [] := by rw [eI, emitI, if_pos this]; rfl
      rw [e, List.append_nil]

theorem itemsI_c (s : ByteArray) (hs : (sb s).length ≤ 140737488355328) : VC Tryd.prog 48 [.val (.string s)] (.own 1 ((itemsB (sb s)).map strC)) := by
  refine VC.intro hΘ Tryd.func48 rfl rfl Tryd.ntmps48 rfl rfl rfl fun B hB => ?_
  (conv => whnf)
  refine vcallS_intro0 rfl (visibleOkI_c s hs) (f1 (av rfl) f0) ?_
  (conv => whnf)
  refine brm_not (fun h => ?_) (fun h => ?_) <;> (conv => whnf)
  · have : itemsB (sb s) = [] := by simp [itemsB, items, h]
    rw [this]
    exact vfin_nil
  have hL : (sb s).length ≤ 400 := by
    simp only [visibleOk, Bool.and_eq_true, decide_eq_true_eq] at h; exact h.1
  have hT : itemsB (sb s) = gI (sb s) false [] := by simp [itemsB, items, h, gI]
  rw [hT]
  refine vloop_intro hΘ hB (ι := ISt) (fun | ⟨acc, fr, o, i⟩ => ⟨[(0, .val (.string s)), (3, .ptr 3 0), (4, .val (.int .i64 fr)), (5, .val (.bool o)), (6, .cl 76 [.ptr 3 0]), (7, .val (.int .i64 i))], [(3, [.own 1 (acc.map strC)])]⟩)
    (fun x => (x.i ≤ (sb s).length ∧ x.fr ≤ x.i ∧ x.acc.length ≤ x.i ∧ x.acc ++ gI ((sb s).drop x.i) x.o (seg (sb s) x.fr x.i) = gI (sb s) false []) ∨ (x.i = (sb s).length + 1 ∧ x.fr ≤ (sb s).length ∧ x.acc.length ≤ x.i ∧ x.acc ++ eI ((sb s).drop x.fr) = gI (sb s) false [])) (fun x => (sb s).length + 1 - x.i) ⟨[], 0, false, 0⟩
    ⟨⟨.inr rfl, .inr rfl, .inr rfl, .inr rfl, .inr rfl, .inr rfl, trivial⟩, ⟨.inr rfl, trivial⟩, trivial⟩ (.inl ⟨Nat.zero_le _, Nat.le_refl _, Nat.le_refl _, rfl⟩) ?_
  rintro ⟨acc, fr, o, i⟩ k
  simp only at k
  (conv => whnf)
  refine brm_p (fun h1 => ?_) (fun h1 => ?_) <;> (conv => whnf)
  rotate_left
  · obtain ⟨q1, q2, q3⟩ : fr ≤ (sb s).length ∧ acc.length ≤ 1000 ∧ acc ++ eI ((sb s).drop fr) = gI (sb s) false [] := by
      rcases k with ⟨k1, k2, k3, k4⟩ | ⟨k1, k2, k3, k4⟩
      · have hi : i = (sb s).length := by omega
        subst hi
        rw [List.drop_eq_nil_of_le (Nat.le_refl _), gI_nil, seg_all] at k4
        exact ⟨k2, by omega, k4⟩
      · exact ⟨k2, by omega, k4⟩
    refine vrange_intro fr (sb s).length rfl rfl q1 (Nat.le_refl _) ?_
    (conv => whnf)
    have hsl : (sb (bs (((sb s).drop fr).take ((sb s).length - fr)))).length ≤ 140737488355328 := by rw [sb_bs]; simp; omega
    refine vcallS_introC (pb := [3]) rfl rfl rfl (itemsFn_c acc _ hsl (by omega)) ⟨⟨rfl, av rfl, rfl⟩, rfl, trivial⟩ ⟨vbox_intro rfl, trivial⟩ rfl ?_
    (conv => whnf)
    refine vfin_own ?_
    rw [← q3, sb_bs]
    have : ((sb s).drop fr).take ((sb s).length - fr) = (sb s).drop fr := by rw [List.take_of_length_le]; simp
    rw [this]
  obtain ⟨k1, k2, k3, k4⟩ : i ≤ (sb s).length ∧ fr ≤ i ∧ acc.length ≤ i ∧ acc ++ gI ((sb s).drop i) o (seg (sb s) fr i) = gI (sb s) false [] := by
    rcases k with k | ⟨k, _⟩
    · exact k
    · exfalso; omega
  have hw := wrap_succ (i := i) (by omega)
  have hw2 := wrap_succ (i := i + 1) (by omega)
  have hi : i < (sb s).length := by omega
  obtain ⟨b, hb, _, hd⟩ := drop_at hi
  rw [hd] at k4
  have hg := byteAt_get hb
  have hsg := seg_succ k2 hb
  have oth : ¬ (b = 44 ∧ o = false) → ¬ b = 34 → ¬ (b = 92 ∧ o = true) → acc ++ gI ((sb s).drop (i + 1)) o (seg (sb s) fr (i + 1)) = gI (sb s) false [] := by
    intro e1 e2 e3
    rw [hsg, ← gI_other e1 e2 e3]; exact k4
  have hbe : ∀ n : Nat, n < 256 → ((b.toNat : Int) = (n : Int) ↔ b = UInt8.ofNat n) := by
    intro n hn
    constructor
    · intro e; apply UInt8.toNat_inj.1; rw [UInt8.toNat_ofNat']; omega
    · intro e; rw [e, UInt8.toNat_ofNat']; omega
  have e44 := hbe 44 (by decide)
  have e34 := hbe 34 (by decide)
  have e92 := hbe 92 (by decide)
  refine vix_intro i rfl hi ?_
  (conv => whnf)
  rw [hg]
  refine brm_eq (fun h4 => ?_) (fun h4 => ?_) <;> (conv => whnf)
  · have : b = 34 := e34.1 h4
    subst this
    rw [gI_quote, ← hsg] at k4
    exact ⟨⟨acc, fr, !o, i + 1⟩, ⟨⟨.inr rfl, .inr rfl, .inr rfl, .inr rfl, .inr rfl, .inr (vint_eq hw), trivial⟩, ⟨.inr rfl, trivial⟩, trivial⟩, .inl ⟨hi, by simp only; omega, by simp only; omega, k4⟩, by simp only; omega⟩
  have h34 : ¬ b = 34 := fun e => h4 (e34.2 e)
  refine vix_intro i rfl hi ?_
  (conv => whnf)
  rw [hg]
  refine brm_eq (fun h5 => ?_) (fun h5 => ?_) <;> (conv => whnf)
  · have hb92 : b = 92 := e92.1 h5
    cases o with
    | false =>
      (conv => whnf)
      refine vix_intro i rfl hi ?_
      (conv => whnf)
      rw [hg]
      refine brm_eq (fun h6 => ?_) (fun h6 => ?_) <;> (conv => whnf)
      · exfalso; omega
      exact ⟨⟨acc, fr, false, i + 1⟩, ⟨⟨.inr rfl, .inr rfl, .inr rfl, .inr rfl, .inr rfl, .inr (vint_eq hw), trivial⟩, ⟨.inr rfl, trivial⟩, trivial⟩, .inl ⟨hi, by simp only; omega, by simp only; omega, oth (fun e => h6 (e44.2 e.1)) h34 (by simp)⟩, by simp only; omega⟩
    | true =>
      (conv => whnf)
      subst hb92
      by_cases h6 : i + 1 = (sb s).length
      · have hd2 : (sb s).drop (i + 1) = [] := List.drop_eq_nil_of_le (by omega)
        rw [hd2, gI_esc1, ← hsg] at k4
        refine ⟨⟨acc, fr, true, i + 2⟩, ⟨⟨.inr rfl, .inr rfl, .inr rfl, .inr rfl, .inr rfl, .inr (vint_eq ?_), trivial⟩, ⟨.inr rfl, trivial⟩, trivial⟩, .inr ⟨by simp only; omega, by simp only; omega, by simp only; omega, ?_⟩, by simp only; omega⟩
        · rw [hw]; exact hw2
        · simp only
          rw [← seg_all, ← h6]; exact k4
      · have hi2 : i + 1 < (sb s).length := by omega
        obtain ⟨d, hd2, _, hd3⟩ := drop_at hi2
        rw [hd3, gI_esc2, ← hsg, ← seg_succ (by omega) hd2] at k4
        refine ⟨⟨acc, fr, true, i + 2⟩, ⟨⟨.inr rfl, .inr rfl, .inr rfl, .inr rfl, .inr rfl, .inr (vint_eq ?_), trivial⟩, ⟨.inr rfl, trivial⟩, trivial⟩, .inl ⟨hi2, by simp only; omega, by simp only; omega, k4⟩, by simp only; omega⟩
        rw [hw]; exact hw2
  refine vix_intro i rfl hi ?_
  (conv => whnf)
  rw [hg]
  refine brm_eq (fun h6 => ?_) (fun h6 => ?_) <;> (conv => whnf)
  · have hb44 : b = 44 := e44.1 h6
    cases o with
    | true =>
      (conv => whnf)
      exact ⟨⟨acc, fr, true, i + 1⟩, ⟨⟨.inr rfl, .inr rfl, .inr rfl, .inr rfl, .inr rfl, .inr (vint_eq hw), trivial⟩, ⟨.inr rfl, trivial⟩, trivial⟩, .inl ⟨hi, by simp only; omega, by simp only; omega, oth (by simp) h34 (fun e => h5 (e92.2 e.1))⟩, by simp only; omega⟩
    | false =>
      (conv => whnf)
      subst hb44
      rw [gI_comma] at k4
      refine vrange_intro fr i rfl rfl k2 k1 ?_
      (conv => whnf)
      have hsl : (sb (bs (((sb s).drop fr).take (i - fr)))).length ≤ 140737488355328 := by rw [sb_bs]; simp; omega
      refine vcallS_introC (pb := [3]) rfl rfl rfl (itemsFn_c acc _ hsl (by omega)) ⟨⟨rfl, av rfl, rfl⟩, rfl, trivial⟩ ⟨vbox_intro rfl, trivial⟩ rfl ?_
      (conv => whnf)
      refine ⟨⟨acc ++ eI (seg (sb s) fr i), i + 1, false, i + 1⟩, ⟨⟨.inr rfl, .inr rfl, .inr (vint_eq hw), .inr rfl, .inr rfl, .inr (vint_eq hw), trivial⟩, ⟨.inr rfl, trivial⟩, trivial⟩, .inl ⟨by simp only; omega, Nat.le_refl _, ?_, ?_⟩, by simp only; omega⟩
      · have := emitI_cnt (seg (sb s) fr i)
        simp [eI]; omega
      · simp only
        rw [seg_self, ← k4, List.append_assoc]
  · exact ⟨⟨acc, fr, o, i + 1⟩, ⟨⟨.inr rfl, .inr rfl, .inr rfl, .inr rfl, .inr rfl, .inr (vint_eq hw), trivial⟩, ⟨.inr rfl, trivial⟩, trivial⟩, .inl ⟨hi, by simp only; omega, by simp only; omega, oth (fun e => h6 (e44.2 e.1)) h34 (fun e => h5 (e92.2 e.1))⟩, by simp only; omega⟩
end Go.Proofs.YteihhmonnbeekaaDoor
namespace Go.Proofs.YteihhmonnbeekaaDoor
open Go Go.Proofs.YteihhmonnbeekaaDoor.Vs

/-! #### fields without some names -/
def sameN (n : ByteArray) (p : Fd) : Bool := lower (sb n) == lower (sb p.1)
def withoutF (ns : List ByteArray) (xs : List Fd) : List Fd := xs.filter fun p => !(ns.any fun n => sameN n p)
theorem withoutF_le (ns : List ByteArray) (xs : List Fd) : (withoutF ns xs).length ≤ xs.length := List.length_filter_le _ _
theorem withoutF_mem {ns : List ByteArray} {xs : List Fd} {p : Fd} (h : p ∈ withoutF ns xs) : p ∈ xs := (List.mem_filter.1 h).1
theorem withoutF_cons {ns : List ByteArray} {p : Fd} {xs : List Fd} : withoutF ns (p :: xs) = (if (ns.any fun n => sameN n p) = true then [] else [p]) ++ withoutF ns xs := by
  unfold withoutF
  rw [List.filter_cons]
  cases h : ns.any fun n => sameN n p <;> simp
theorem withoutF_app (ns ms : List ByteArray) (xs : List Fd) : withoutF (ns ++ ms) xs = withoutF ms (withoutF ns xs) := by
  unfold withoutF
  rw [List.filter_filter]
  congr 1
  funext p
  rw [List.any_append, Bool.not_or, Bool.and_comm]
theorem withoutF_swap (ns ms : List ByteArray) (xs : List Fd) : withoutF (ns ++ ms) xs = withoutF (ms ++ ns) xs := by
  unfold withoutF
  congr 1
  funext p
  rw [List.any_append, List.any_append, Bool.or_comm]
theorem withoutF_nil (xs : List Fd) : withoutF [] xs = xs := by simp [withoutF]

theorem l4Without_c (xs : List Fd) (n : ByteArray) (hx : ∀ x ∈ xs, szOk x) (hn : (sb n).length ≤ 140737488355328) (hl : xs.length ≤ 1000000000) : VC Tryd.prog 44 [.rd none (.sl true 2 (xs.map encF)), .val (.string n)] (.own 2 ((withoutF [n] xs).map encF)) := by
  refine VC.intro hΘ Tryd.func44 rfl rfl Tryd.ntmps44 rfl rfl rfl fun B hB => ?_
  (conv => whnf)
  refine vloop_intro hΘ hB (ι := Nat × List Fd) (fun x => ⟨[(0, .rd none (.sl true 2 (xs.map encF))), (1, .val (.string n)), (5, .own 2 (x.2.map encF)), (6, .val (.int .i64 x.1))], []⟩)
    (fun x => x.1 ≤ xs.length ∧ x.2.length ≤ x.1 ∧ x.2 ++ withoutF [n] (xs.drop x.1) = withoutF [n] xs) (fun x => xs.length - x.1) (0, [])
    ⟨⟨.inr rfl, .inr rfl, .inr rfl, .inr rfl, trivial⟩, trivial⟩ ⟨Nat.zero_le _, Nat.le_refl _, rfl⟩ ?_
  rintro ⟨i, acc⟩ ⟨k1, k2, k3⟩
  simp only at k1 k2 k3
  (conv => whnf)
  rw [List.length_map]
  refine brm_p (fun h => ?_) (fun h => ?_) <;> (conv => whnf)
  · obtain ⟨x, hg, hm, hd⟩ := drop_at (xs := xs) (i := i) (by omega)
    rw [hd, withoutF_cons] at k3
    have hw := wrap_succ (i := i) (by omega)
    refine vat_intro i (encF x) rfl (map_at hg) ?_
    (conv => whnf)
    refine vcallS_intro0 rfl (lowerS_c x.1 (hx x hm).1) (f1 (av rfl) f0) ?_
    (conv => whnf)
    refine vcallS_intro0 rfl (lowerS_c n hn) (f1 (av rfl) f0) ?_
    (conv => whnf)
    rw [sb_bs, sb_bs]
    refine brm_ne' (fun h2 => ?_) (fun h2 => ?_) <;> (conv => whnf)
    · have hs : ([n].any fun n => sameN n x) = false := by
        simp only [List.any_cons, List.any_nil, Bool.or_false, sameN, beq_eq_false_iff_ne]
        exact fun e => h2 e.symm
      simp only [hs, Bool.false_eq_true, if_false, ← List.append_assoc] at k3
      refine vat_intro i (encF x) rfl (map_at hg) ?_
      (conv => whnf)
      refine vreq_intro (by rw [List.length_map]; show (acc.length + 1) * 33 ≤ _; omega) ?_
      (conv => whnf)
      refine ⟨(i + 1, acc ++ [x]), ⟨⟨.inr rfl, .inr rfl, .inr (vown_eq ?_), .inr (vint_eq hw), trivial⟩, trivial⟩, ⟨by simp only; omega, by simp; omega, k3⟩, by simp only; omega⟩
      rw [List.map_append]; rfl
    · have hs : ([n].any fun n => sameN n x) = true := by
        simp only [List.any_cons, List.any_nil, Bool.or_false, sameN, beq_iff_eq]
        exact h2.symm
      simp only [hs, if_true, List.nil_append] at k3
      exact ⟨(i + 1, acc), ⟨⟨.inr rfl, .inr rfl, .inr rfl, .inr (vint_eq hw), trivial⟩, trivial⟩, ⟨by simp only; omega, by simp only; omega, k3⟩, by simp only; omega⟩
  · have hi : xs.drop i = [] := List.drop_eq_nil_of_le (by omega)
    rw [hi] at k3
    refine vfin_own ?_
    rw [← k3]; simp [withoutF]

theorem withoutFn_c (p : Fd) (hp : szOk p) (n : ByteArray) (hn : (sb n).length ≤ 140737488355328) : VC Tryd.prog 79 ([.val (.string n)] ++ [.rp none (encF p)]) (.val (.bool (sameN n p))) := by
  refine VC.intro hΘ Tryd.func79 rfl rfl Tryd.ntmps79 rfl rfl rfl fun B hB => ?_
  (conv => whnf)
  refine vdraw_intro hΘ hB mixed (by kernel_rfl) ?_
  (conv => whnf)
  refine vcallQ_intro0 rfl (lowerI_c n hn) (f1 (av rfl) f0) rfl ?_
  (conv => whnf)
  refine vcallQ_intro0 rfl (lowerI_c p.1 hp.1) (f1 (av rfl) f0) rfl ?_
  (conv => whnf)
  refine vfin_bool ?_
  rw [sb_bs, sb_bs]; rfl
theorem indexFnS_c (f : Nat) (cs : List C) (p : ByteArray → Bool) (ns : List ByteArray) (hp : ∀ n ∈ ns, VC Tryd.prog f ([.val (.string n)] ++ [.rp none cs]) (.val (.bool (p n)))) (hl : ns.length ≤ 140737488355328) :
    VC Tryd.prog 109 [.rd none (.sl true 1 (ns.map strC)), .cl f [.rp none cs]] (.val (.int .i64 (idxFn p ns 0))) := by
  refine VC.intro hΘ Tryd.func109 rfl rfl Tryd.ntmps109 rfl rfl rfl fun B hB => ?_
  (conv => whnf)
  refine vloop_intro hΘ hB (ι := Nat) (fun i => ⟨[(0, .rd none (.sl true 1 (ns.map strC))), (1, .cl f [.rp none cs]), (7, .val (.int .i64 (ns.map strC).length)), (8, .val (.int .i64 i))], []⟩)
    (fun i => i ≤ ns.length ∧ idxFn p (ns.drop i) i = idxFn p ns 0) (fun i => ns.length - i) 0 ⟨⟨.inr rfl, .inr rfl, .inr rfl, .inr rfl, trivial⟩, trivial⟩ ⟨Nat.zero_le _, rfl⟩ ?_
  rintro i ⟨k1, k2⟩
  (conv => whnf)
  rw [List.length_map]
  refine brm_p (fun h => ?_) (fun h => ?_) <;> (conv => whnf)
  · obtain ⟨x, hg, hm, hd⟩ := drop_at (xs := ns) (i := i) (by omega)
    rw [hd, idxFn] at k2
    refine vat_intro i _ rfl (strs_at hg) ?_
    (conv => whnf)
    refine vcallS_intro rfl (hp x hm) (kp rfl k0) (f1 (av rfl) f0) ?_
    (conv => whnf)
    refine brm_intro (fun h2 => ?_) (fun h2 => ?_) <;> (conv => whnf)
    · refine vfin_int ?_
      rw [h2, if_pos rfl] at k2
      exact k2
    · rw [h2] at k2
      simp only [Bool.false_eq_true, if_false] at k2
      exact ⟨i + 1, ⟨⟨.inr rfl, .inr rfl, .inr rfl, .inr (vint_eq (wrap_succ (by omega))), trivial⟩, trivial⟩, ⟨by omega, k2⟩, by omega⟩
  · refine vfin_int ?_
    have : ns.drop i = [] := List.drop_eq_nil_of_le (by omega)
    rw [this] at k2
    exact k2
theorem containsFnS_c (f : Nat) (cs : List C) (p : ByteArray → Bool) (ns : List ByteArray) (hp : ∀ n ∈ ns, VC Tryd.prog f ([.val (.string n)] ++ [.rp none cs]) (.val (.bool (p n)))) (hl : ns.length ≤ 140737488355328) :
    VC Tryd.prog 78 [.rd none (.sl true 1 (ns.map strC)), .cl f [.rp none cs]] (.val (.bool (ns.any p))) := by
  refine VC.intro hΘ Tryd.func78 rfl rfl Tryd.ntmps78 rfl rfl rfl fun B hB => ?_
  (conv => whnf)
  refine vcallS_intro0 rfl (indexFnS_c f cs p ns hp hl) (f1 (ar rfl rfl) (f1 (acl (kp rfl k0)) f0)) ?_
  (conv => whnf)
  exact vfin_bool (idxFn_nonneg p ns 0)
theorem withoutI_c (xs : List Fd) (ns : List ByteArray) (hx : ∀ x ∈ xs, szOk x) (hn : ∀ n ∈ ns, (sb n).length ≤ 140737488355328) (hl : xs.length ≤ 1000000000) (hnl : ns.length ≤ 1000000000) : VC Tryd.prog 49 [.rd none (.sl true 2 (xs.map encF)), .rd none (.sl true 1 (ns.map strC))] (.own 2 ((withoutF ns xs).map encF)) := by
  refine VC.intro hΘ Tryd.func49 rfl rfl Tryd.ntmps49 rfl rfl rfl fun B hB => ?_
  (conv => whnf)
  refine vloop_intro hΘ hB (ι := Nat × List Fd) (fun x => ⟨[(1, .rd none (.sl true 1 (ns.map strC))), (5, .own 2 (x.2.map encF)), (9, .rd none (.sl true 2 (xs.map encF))), (10, .val (.int .i64 (xs.map encF).length)), (11, .val (.int .i64 x.1))], []⟩)
    (fun x => x.1 ≤ xs.length ∧ x.2.length ≤ x.1 ∧ x.2 ++ withoutF ns (xs.drop x.1) = withoutF ns xs) (fun x => xs.length - x.1) (0, [])
    ⟨⟨.inr rfl, .inr rfl, .inr rfl, .inr rfl, .inr rfl, trivial⟩, trivial⟩ ⟨Nat.zero_le _, Nat.le_refl _, rfl⟩ ?_
  rintro ⟨i, acc⟩ ⟨k1, k2, k3⟩
  simp only at k1 k2 k3
  (conv => whnf)
  rw [List.length_map]
  refine brm_p (fun h => ?_) (fun h => ?_) <;> (conv => whnf)
  · obtain ⟨x, hg, hm, hd⟩ := drop_at (xs := xs) (i := i) (by omega)
    rw [hd, withoutF_cons] at k3
    have hw := wrap_succ (i := i) (by omega)
    refine vat_intro i (encF x) rfl (map_at hg) ?_
    (conv => whnf)
    refine vcallS_intro0 rfl (containsFnS_c 79 (encF x) (fun n => sameN n x) ns (fun n hn' => withoutFn_c x (hx x hm) n (hn n hn')) (by omega)) (f1 (ar rfl rfl) (f1 (acl (kp (pb rfl rfl) k0)) f0)) ?_
    (conv => whnf)
    refine brm_not (fun h2 => ?_) (fun h2 => ?_) <;> (conv => whnf)
    · simp only [h2, Bool.false_eq_true, if_false, ← List.append_assoc] at k3
      refine vreq_intro (by rw [List.length_map]; show (acc.length + 1) * 33 ≤ _; omega) ?_
      (conv => whnf)
      refine ⟨(i + 1, acc ++ [x]), ⟨⟨.inr rfl, .inr (vown_eq ?_), .inr rfl, .inr rfl, .inr (vint_eq hw), trivial⟩, trivial⟩, ⟨by simp only; omega, by simp; omega, k3⟩, by simp only; omega⟩
      rw [List.map_append]; rfl
    · simp only [h2, if_true, List.nil_append] at k3
      exact ⟨(i + 1, acc), ⟨⟨.inr rfl, .inr rfl, .inr rfl, .inr rfl, .inr (vint_eq hw), trivial⟩, trivial⟩, ⟨by simp only; omega, by simp only; omega, k3⟩, by simp only; omega⟩
  · have hi : xs.drop i = [] := List.drop_eq_nil_of_le (by omega)
    rw [hi] at k3
    refine vfin_own ?_
    rw [← k3]; simp [withoutF]
end Go.Proofs.YteihhmonnbeekaaDoor
namespace Go.Proofs.YteihhmonnbeekaaDoor
open Go Go.Proofs.YteihhmonnbeekaaDoor.Vs
/-! #### trees of a row's arguments -/
theorem fd_of {n : Nat} {xs : List (List C)} (h : ∀ x ∈ xs, Ty Θ (n + 2) 66 x) : ∃ l : List Fd, xs = l.map encF ∧ ∀ p ∈ l, szOk p := by
  induction xs with
  | nil => exact ⟨[], rfl, by simp⟩
  | cons x r ih =>
    obtain ⟨l, rfl, hl⟩ := ih (fun y hy => h y (by simp [hy]))
    obtain ⟨c1, c2, rfl, ⟨s1, rfl, h1⟩, c3, c4, rfl, ⟨s2, rfl, h2⟩, rfl⟩ := (h x (by simp) : TyF (Ty Θ (n + 1)) [(0, 9), (1, 9)] x)
    refine ⟨(s1, s2) :: l, rfl, fun p hp => ?_⟩
    rcases List.mem_cons.1 hp with rfl | hp
    · exact ⟨Nat.le_trans h1 (by decide), Nat.le_trans h2 (by decide)⟩
    · exact hl p hp
end Go.Proofs.YteihhmonnbeekaaDoor
namespace Go.Proofs.YteihhmonnbeekaaDoor
open Go Go.Proofs.YteihhmonnbeekaaDoor.Vs

/-! #### responses and objects -/
structure Rsp where
  st : Int
  fs : List Fd
  bd : ByteArray
structure Obj where
  key : ByteArray
  fs : List Fd
  r : Rsp
  asked : Int
  got : Int
  ep : Int
def rdF (xs : List Fd) : V := .rd none (.sl true 2 (xs.map encF))
def owF (xs : List Fd) : V := .own 2 (xs.map encF)
def Rsp.cs (r : Rsp) (x : V) : V := .agg [.val (.int .i64 r.st), x, .val (.string r.bd)]
def Obj.cs (o : Obj) (x y : V) : V := .agg [.val (.string o.key), x, .val (.int .i64 o.r.st), y, .val (.string o.r.bd), .val (.int .i64 o.asked), .val (.int .i64 o.got), .val (.int .i64 o.ep)]
def Rsp.rd (r : Rsp) : V := r.cs (rdF r.fs)
def Rsp.ow (r : Rsp) : V := r.cs (owF r.fs)
def Obj.rd (o : Obj) : V := o.cs (rdF o.fs) (rdF o.r.fs)
def Obj.ow (o : Obj) : V := o.cs (owF o.fs) (owF o.r.fs)

/-! #### sizes -/
def szL (l : Int) (xs : List Fd) : Int := if l - xs.length < 0 then -1 else szFS (l - xs.length) xs
theorem szFS_le : ∀ {xs : List Fd} {l : Int}, 0 ≤ l → szFS l xs ≤ l
  | [], l, _ => Int.le_refl _
  | x :: r, l, h => by
    rw [szFS]
    split
    · omega
    · rename_i h1
      exact Int.le_trans (szFS_le (by omega)) (szF_le h)
theorem szL_le {xs : List Fd} {l : Int} (h : 0 ≤ l) : szL l xs ≤ l := by
  unfold szL
  split
  · omega
  · rename_i h1
    exact Int.le_trans (szFS_le (by omega)) (by omega)
def szR (l : Int) (r : Rsp) : Int := if szL l r.fs < 0 then -1 else if szL l r.fs - (sb r.bd).length < 0 then -1 else szL l r.fs - (sb r.bd).length
def szO (l : Int) (o : Obj) : Int := if l - (sb o.key).length < 0 then -1 else if szL (l - (sb o.key).length) o.fs < 0 then -1 else if szR (szL (l - (sb o.key).length) o.fs) o.r < 0 then -1 else szR (szL (l - (sb o.key).length) o.fs) o.r
def fdOk (xs : List Fd) : Prop := xs.length ≤ 140737488355328 ∧ ∀ x ∈ xs, szOk x
def Rsp.ok (r : Rsp) : Prop := fdOk r.fs ∧ (sb r.bd).length ≤ 140737488355328
def Obj.ok (o : Obj) : Prop := (sb o.key).length ≤ 140737488355328 ∧ fdOk o.fs ∧ o.r.ok

theorem szResponse_c (r : Rsp) (l : Int) (h1 : 0 ≤ l) (h2 : l ≤ 1048576) (hr : r.ok) : VC Tryd.prog 15 [r.rd, .val (.int .i64 l)] (.val (.int .i64 (szR l r))) := by
  refine VC.intro hΘ Tryd.func15 rfl rfl Tryd.ntmps15 rfl rfl rfl fun B hB => ?_
  have hle := szL_le (xs := r.fs) h1
  have hb := hr.2
  (conv => whnf)
  refine call_i (x := szL l r.fs) rfl (szFieldS_c r.fs l h1 h2 hr.1.1 hr.1.2) (f1 (ar rfl rfl) (f1 (av rfl) f0)) fun y hy => ?_
  subst hy
  (conv => whnf)
  refine brm_p (fun h => ?_) (fun h => ?_) <;> (conv => whnf)
  · refine vfin_int ?_
    simp [szR, h]
  · have hw : IntKind.i64.wrap (szL l r.fs - (sb r.bd).length) = szL l r.fs - (sb r.bd).length := wrap_i64 (by omega) (by omega)
    rw [hw]
    refine brm_p (fun h' => ?_) (fun h' => ?_) <;> (conv => whnf)
    · refine vfin_int ?_
      simp [szR, h, h']
    · refine vfin_int ?_
      simp [szR, h, h']
theorem szR_le {r : Rsp} {l : Int} (h : 0 ≤ l) : szR l r ≤ l := by
  have := szL_le (xs := r.fs) h
  unfold szR
  split
  · omega
  · split <;> omega
theorem szObject_c (o : Obj) (l : Int) (h1 : 0 ≤ l) (h2 : l ≤ 1048576) (hr : o.ok) : VC Tryd.prog 14 [o.rd, .val (.int .i64 l)] (.val (.int .i64 (szO l o))) := by
  refine VC.intro hΘ Tryd.func14 rfl rfl Tryd.ntmps14 rfl rfl rfl fun B hB => ?_
  have hk := hr.1
  (conv => whnf)
  have hw : IntKind.i64.wrap (l - (sb o.key).length) = l - (sb o.key).length := wrap_i64 (by omega) (by omega)
  rw [hw]
  refine brm_p (fun h => ?_) (fun h => ?_) <;> (conv => whnf)
  · refine vfin_int ?_
    simp [szO, h]
  have hle := szL_le (xs := o.fs) (l := l - (sb o.key).length) (by omega)
  refine call_i (x := szL (l - (sb o.key).length) o.fs) rfl (szFieldS_c o.fs (l - (sb o.key).length) (by omega) (by omega) hr.2.1.1 hr.2.1.2) (f1 (ar rfl rfl) (f1 (av rfl) f0)) fun y hy => ?_
  (conv => whnf)
  refine brm_p (fun h' => ?_) (fun h' => ?_) <;> (conv => whnf)
  · refine vfin_int ?_
    rw [hy] at h'
    simp [szO, h, h']
  refine call_i (x := szR y o.r) rfl (szResponse_c o.r y (by omega) (by omega) hr.2.2) (f1 (fa (l1 (fv rfl) (l1 (fr rfl rfl) (l1 (fv rfl) l0)))) (f1 (av rfl) f0)) fun z hz => ?_
  (conv => whnf)
  refine brm_p (fun h3 => ?_) (fun h3 => ?_) <;> (conv => whnf)
  · refine vfin_int ?_
    rw [hz, hy] at h3
    rw [hy] at h'
    simp [szO, h, h', h3]
  · refine vfin_int ?_
    rw [hz, hy] at h3
    rw [hy] at h'
    rw [hz, hy]
    simp [szO, h, h', h3]

/-! #### as it is -/
theorem toResponse_c (r : Rsp) (hl : r.fs.length ≤ 2097152) : VC Tryd.prog 18 [r.rd] r.ow := by
  refine VC.intro hΘ Tryd.func18 rfl rfl Tryd.ntmps18 rfl rfl rfl fun B hB => ?_
  (conv => whnf)
  refine vcallS_intro0 rfl (toFieldS_c r.fs hl) (f1 (ar rfl rfl) f0) ?_
  (conv => whnf)
  exact vfin_agg rfl
set_option maxRecDepth 10000 in
theorem toObject_c (o : Obj) (hl : o.fs.length ≤ 2097152) (hl' : o.r.fs.length ≤ 2097152) : VC Tryd.prog 17 [o.rd] o.ow := by
  refine VC.intro hΘ Tryd.func17 rfl rfl Tryd.ntmps17 rfl rfl rfl fun B hB => ?_
  (conv => whnf)
  refine vcallS_intro0 rfl (toFieldS_c o.fs hl) (f1 (ar rfl rfl) f0) ?_
  (conv => whnf)
  refine vcallS_intro0 rfl (toResponse_c o.r hl') (f1 (fa (l1 (fv rfl) (l1 (fr rfl rfl) (l1 (fv rfl) l0)))) f0) ?_
  (conv => whnf)
  exact vfin_agg rfl
theorem eqResponse_c (r : Rsp) (hl : r.fs.length ≤ 2097152) : VC Tryd.prog 21 [r.rd, r.rd] (.val (.bool true)) := by
  refine VC.intro hΘ Tryd.func21 rfl rfl Tryd.ntmps21 rfl rfl rfl fun B hB => ?_
  (conv => whnf)
  refine brm_ne (fun h => absurd rfl h) (fun _ => ?_)
  (conv => whnf)
  refine vcallS_intro0 rfl (eqFieldS_c r.fs hl) (f1 (ar rfl rfl) (f1 (ar rfl rfl) f0)) ?_
  (conv => whnf)
  refine brm_ne' (fun h => absurd rfl h) (fun _ => ?_)
  (conv => whnf)
  exact vfin_bool rfl
theorem eqObject_c (o : Obj) (hl : o.fs.length ≤ 2097152) (hl' : o.r.fs.length ≤ 2097152) : VC Tryd.prog 20 [o.rd, o.rd] (.val (.bool true)) := by
  refine VC.intro hΘ Tryd.func20 rfl rfl Tryd.ntmps20 rfl rfl rfl fun B hB => ?_
  (conv => whnf)
  refine brm_ne' (fun h => absurd rfl h) (fun _ => ?_)
  (conv => whnf)
  refine vcallS_intro0 rfl (eqFieldS_c o.fs hl) (f1 (ar rfl rfl) (f1 (ar rfl rfl) f0)) ?_
  (conv => whnf)
  refine vcallS_intro0 rfl (eqResponse_c o.r hl') (f1 (fa (l1 (fv rfl) (l1 (fr rfl rfl) (l1 (fv rfl) l0)))) (f1 (fa (l1 (fv rfl) (l1 (fr rfl rfl) (l1 (fv rfl) l0)))) f0)) ?_
  (conv => whnf)
  refine brm_ne (fun h => absurd rfl h) (fun _ => ?_)
  (conv => whnf)
  refine brm_ne (fun h => absurd rfl h) (fun _ => ?_)
  (conv => whnf)
  refine brm_ne (fun h => absurd rfl h) (fun _ => ?_)
  (conv => whnf)
  exact vfin_bool rfl

/-! #### marks -/
theorem markResponse_c (st : Int) (bd : ByteArray) (xs : List (List C)) (n : Int) (hx : xs.length ≤ 1000000000) (hn : 0 ≤ n) (hn' : n ≤ 4611686010000000000) (h2 : ∀ x ∈ xs, x.length = 2) :
    VCm Tryd.prog 23 [.a [.v (.val (.int .i64 st)), .m 2 xs, .v (.val (.string bd))], .v (.val (.int .i64 n))] [] (.val (.int .i64 (n + 2 * xs.length))) [[none, some (2, encM n xs.length), none], []] [] := by
  refine VCm.introL0 hΘ [(.bx 2 1, .sl 1000000 0 1)] Tryd.func23 rfl rfl Tryd.ntmps23 rfl rfl rfl rfl fun B hB hs hl => ?_
  obtain ⟨u0, u1, rfl⟩ : ∃ u0 u1, hs = [u0, u1] := by
    match hs, hl with
    | [a, b], _ => exact ⟨a, b, rfl⟩
  (conv => whnf)
  refine vcallS_introM (pb := []) rfl (markFieldS_c xs n hx hn hn' h2) ⟨⟨rfl, rfl⟩, ⟨rfl, av rfl, rfl⟩, trivial⟩ trivial rfl ?_
  (conv => whnf)
  exact ⟨vfin_int rfl, ⟨⟨rfl, vfinE_intro rfl, trivial⟩, trivial, trivial⟩, trivial⟩
theorem markObject_c (key bd : ByteArray) (st ak gt ep : Int) (xs ys : List (List C)) (n : Int) (hx : xs.length ≤ 1000000000) (hy : ys.length ≤ 1000000000) (hn : 0 ≤ n) (hn' : n ≤ 4611686000000000000) (h2 : ∀ x ∈ xs, x.length = 2) (h2' : ∀ x ∈ ys, x.length = 2) :
    VCm Tryd.prog 22 [.a [.v (.val (.string key)), .m 2 xs, .v (.val (.int .i64 st)), .m 2 ys, .v (.val (.string bd)), .v (.val (.int .i64 ak)), .v (.val (.int .i64 gt)), .v (.val (.int .i64 ep))], .v (.val (.int .i64 n))] []
      (.val (.int .i64 (n + 2 * xs.length + 2 * ys.length))) [[none, some (2, encM n xs.length), none, some (2, encM (n + 2 * xs.length) ys.length), none, none, none, none], []] [] := by
  refine VCm.introL0 hΘ [(.bx 2 1, .sl 1000000 0 1), (.bx 2 3, .sl 1000000 0 3)] Tryd.func22 rfl rfl Tryd.ntmps22 rfl rfl rfl rfl fun B hB hs hl => ?_
  obtain ⟨u0, u1, rfl⟩ : ∃ u0 u1, hs = [u0, u1] := by
    match hs, hl with
    | [a, b], _ => exact ⟨a, b, rfl⟩
  (conv => whnf)
  refine vcallS_introM (pb := []) rfl (markFieldS_c xs n hx hn (by omega) h2) ⟨⟨rfl, rfl⟩, ⟨rfl, av rfl, rfl⟩, trivial⟩ trivial rfl ?_
  (conv => whnf)
  refine vcallS_introM (pb := []) rfl (markResponse_c st bd ys (n + 2 * xs.length) hy (by omega) (by omega) h2') ⟨⟨⟨rfl, fv rfl, rfl⟩, ⟨rfl, rfl⟩, ⟨rfl, fv rfl, rfl⟩, trivial⟩, ⟨rfl, av rfl, rfl⟩, trivial⟩ trivial rfl ?_
  (conv => whnf)
  exact ⟨vfin_int rfl, ⟨⟨rfl, vfinE_intro rfl, rfl, vfinE_intro rfl, trivial⟩, trivial, trivial⟩, trivial⟩
theorem heldResponse_c (st : Int) (bd : ByteArray) (k : Nat) (n : Int) (hx : k ≤ 1000000000) (hn : 0 ≤ n) (hn' : n ≤ 4611686010000000000) :
    VC Tryd.prog 57 [.agg [.val (.int .i64 st), .rd none (.sl true 2 (encM n k)), .val (.string bd)], .val (.int .i64 n)] (.val (.int .i64 (n + 2 * k))) := by
  refine VC.intro hΘ Tryd.func57 rfl rfl Tryd.ntmps57 rfl rfl rfl fun B hB => ?_
  (conv => whnf)
  refine vcallS_intro0 rfl (heldFieldS_c k n hx hn hn') (f1 (ar rfl rfl) (f1 (av rfl) f0)) ?_
  (conv => whnf)
  refine brm_p (fun h => absurd h (by omega)) (fun _ => ?_)
  (conv => whnf)
  exact vfin_int rfl
theorem heldObject_c (key bd : ByteArray) (st ak gt ep : Int) (k m : Nat) (n : Int) (hx : k ≤ 1000000000) (hy : m ≤ 1000000000) (hn : 0 ≤ n) (hn' : n ≤ 4611686000000000000) :
    VC Tryd.prog 24 [.agg [.val (.string key), .rd none (.sl true 2 (encM n k)), .val (.int .i64 st), .rd none (.sl true 2 (encM (n + 2 * k) m)), .val (.string bd), .val (.int .i64 ak), .val (.int .i64 gt), .val (.int .i64 ep)], .val (.int .i64 n)]
      (.val (.int .i64 (n + 2 * k + 2 * m))) := by
  refine VC.intro hΘ Tryd.func24 rfl rfl Tryd.ntmps24 rfl rfl rfl fun B hB => ?_
  (conv => whnf)
  refine vcallS_intro0 rfl (heldFieldS_c k n hx hn (by omega)) (f1 (ar rfl rfl) (f1 (av rfl) f0)) ?_
  (conv => whnf)
  refine brm_p (fun h => absurd h (by omega)) (fun _ => ?_)
  (conv => whnf)
  refine vcallS_intro0 rfl (heldResponse_c st bd m (n + 2 * k) hy (by omega) (by omega)) (f1 (fa (l1 (fv rfl) (l1 (fr rfl rfl) (l1 (fv rfl) l0)))) (f1 (av rfl) f0)) ?_
  (conv => whnf)
  refine brm_p (fun h => absurd h (by omega)) (fun _ => ?_)
  (conv => whnf)
  exact vfin_int rfl
end Go.Proofs.YteihhmonnbeekaaDoor
namespace Go.Proofs.YteihhmonnbeekaaDoor
open Go Go.Proofs.YteihhmonnbeekaaDoor.Vs

/-! #### what is an object -/
def grB (b : UInt8) : Bool := decide (33 ≤ b.toNat) && decide (b.toNat ≤ 126)
def keyOk (l : List UInt8) : Bool := l.all grB && decide (l.length ≤ 500)
def inR (x lo hi : Int) : Bool := decide (lo ≤ x) && decide (x ≤ hi)
def bareSt (x : Int) : Bool := x == 204 || x == 304
def lenN : ByteArray := ⟨#[99, 111, 110, 116, 101, 110, 116, 45, 108, 101, 110, 103, 116, 104]⟩
def codN : ByteArray := ⟨#[116, 114, 97, 110, 115, 102, 101, 114, 45, 101, 110, 99, 111, 100, 105, 110, 103]⟩
def hasF (n : ByteArray) (xs : List Fd) : Bool := decide (hitsOf n xs ≠ [])
def msgF (xs : List Fd) : Bool := (fieldsOk xs && !hasF lenN xs) && !hasF codN xs
def Rsp.good (r : Rsp) : Bool := ((inR r.st 200 599 && msgF r.fs) && decide ((sb r.bd).length ≤ 4000)) && (!bareSt r.st || sb r.bd == [])
def Obj.good (o : Obj) : Bool := (((((keyOk (sb o.key) && fieldsOk o.fs) && o.r.good) && inR o.asked 0 253402300799) && inR o.got 0 253402300799) && decide (o.asked ≤ o.got)) && inR o.ep 0 100000

theorem l1In_c (x lo hi : Int) : VC Tryd.prog 82 [.val (.int .i64 x), .val (.int .i64 lo), .val (.int .i64 hi)] (.val (.bool (inR x lo hi))) := by
  refine VC.intro hΘ Tryd.func82 rfl rfl Tryd.ntmps82 rfl rfl rfl fun B hB => ?_
  (conv => whnf)
  repeat' first
    | (refine brm_intro (fun _ => ?_) (fun _ => ?_) <;> (conv => whnf))
    | refine vfin_bool (Bool.eq_iff_iff.2 ?_)
  all_goals (simp [inR] at *; try omega)
theorem within_c (x lo hi : Int) : VC Tryd.prog 87 [.val (.int .i64 x), .val (.int .i64 lo), .val (.int .i64 hi)] (.val (.bool (inR x lo hi))) := by
  refine VC.intro hΘ Tryd.func87 rfl rfl Tryd.ntmps87 rfl rfl rfl fun B hB => ?_
  (conv => whnf)
  repeat' first
    | (refine brm_intro (fun _ => ?_) (fun _ => ?_) <;> (conv => whnf))
    | refine vfin_bool (Bool.eq_iff_iff.2 ?_)
  all_goals (simp [inR] at *; try omega)
theorem l10Moment_c (x : Int) : VC Tryd.prog 81 [.val (.int .i64 x)] (.val (.bool (inR x 0 253402300799))) := by
  refine VC.intro hΘ Tryd.func81 rfl rfl Tryd.ntmps81 rfl rfl rfl fun B hB => ?_
  (conv => whnf)
  refine vcallS_intro0 rfl (l1In_c x 0 253402300799) (f1 (av rfl) (f1 (av rfl) (f1 (av rfl) f0))) ?_
  (conv => whnf)
  exact vfin_bool rfl
theorem isMoment_c (x : Int) : VC Tryd.prog 86 [.val (.int .i64 x)] (.val (.bool (inR x 0 253402300799))) := by
  refine VC.intro hΘ Tryd.func86 rfl rfl Tryd.ntmps86 rfl rfl rfl fun B hB => ?_
  (conv => whnf)
  refine vcallS_intro0 rfl (within_c x 0 253402300799) (f1 (av rfl) (f1 (av rfl) (f1 (av rfl) f0))) ?_
  (conv => whnf)
  exact vfin_bool rfl
theorem isEpoch_c (x : Int) : VC Tryd.prog 88 [.val (.int .i64 x)] (.val (.bool (inR x 0 100000))) := by
  refine VC.intro hΘ Tryd.func88 rfl rfl Tryd.ntmps88 rfl rfl rfl fun B hB => ?_
  (conv => whnf)
  refine vcallS_intro0 rfl (within_c x 0 100000) (f1 (av rfl) (f1 (av rfl) (f1 (av rfl) f0))) ?_
  (conv => whnf)
  exact vfin_bool rfl
theorem isStatus_c (x : Int) : VC Tryd.prog 89 [.val (.int .i64 x)] (.val (.bool (inR x 200 599))) := by
  refine VC.intro hΘ Tryd.func89 rfl rfl Tryd.ntmps89 rfl rfl rfl fun B hB => ?_
  (conv => whnf)
  refine vcallS_intro0 rfl (within_c x 200 599) (f1 (av rfl) (f1 (av rfl) (f1 (av rfl) f0))) ?_
  (conv => whnf)
  exact vfin_bool rfl
theorem l6Bare_c (x : Int) : VC Tryd.prog 84 [.val (.int .i64 x)] (.val (.bool (bareSt x))) := by
  refine VC.intro hΘ Tryd.func84 rfl rfl Tryd.ntmps84 rfl rfl rfl fun B hB => ?_
  (conv => whnf)
  repeat' first
    | (refine brm_intro (fun _ => ?_) (fun _ => ?_) <;> (conv => whnf))
    | refine vfin_bool (Bool.eq_iff_iff.2 ?_)
  all_goals (simp [bareSt] at *; try omega)
theorem isBare_c (x : Int) : VC Tryd.prog 91 [.val (.int .i64 x)] (.val (.bool (bareSt x))) := by
  refine VC.intro hΘ Tryd.func91 rfl rfl Tryd.ntmps91 rfl rfl rfl fun B hB => ?_
  (conv => whnf)
  repeat' first
    | (refine brm_intro (fun _ => ?_) (fun _ => ?_) <;> (conv => whnf))
    | refine vfin_bool (Bool.eq_iff_iff.2 ?_)
  all_goals (simp [bareSt] at *; try omega)
theorem graphicFn_c (b : UInt8) : VC Tryd.prog 110 [.val (.int .u8 b.toNat)] (.val (.bool (grB b))) := by
  refine VC.intro hΘ Tryd.func110 rfl rfl Tryd.ntmps110 rfl rfl rfl fun B hB => ?_
  (conv => whnf)
  repeat' first
    | (refine brm_intro (fun _ => ?_) (fun _ => ?_) <;> (conv => whnf))
    | refine vfin_bool (Bool.eq_iff_iff.2 ?_)
  all_goals (simp [grB] at *; try omega)
theorem isGraphic_c (s : ByteArray) (hs : (sb s).length ≤ 140737488355328) : VC Tryd.prog 85 [.val (.string s)] (.val (.bool ((sb s).all grB))) := by
  refine VC.intro hΘ Tryd.func85 rfl rfl Tryd.ntmps85 rfl rfl rfl fun B hB => ?_
  (conv => whnf)
  refine vcallS_intro0 rfl (all_c 110 grB graphicFn_c s hs) (f1 (av rfl) (f1 (av rfl) f0)) ?_
  (conv => whnf)
  exact vfin_bool rfl
theorem l10Key_c (s : ByteArray) (hs : (sb s).length ≤ 140737488355328) : VC Tryd.prog 80 [.val (.string s)] (.val (.bool (keyOk (sb s)))) := by
  refine VC.intro hΘ Tryd.func80 rfl rfl Tryd.ntmps80 rfl rfl rfl fun B hB => ?_
  (conv => whnf)
  refine vloop_intro hΘ hB (ι := Nat) (fun i => ⟨[(0, .val (.string s)), (3, .val (.int .i64 i))], []⟩) (fun i => i ≤ (sb s).length ∧ ((sb s).drop i).all grB = (sb s).all grB) (fun i => (sb s).length - i) 0
    ⟨⟨.inr rfl, .inr rfl, trivial⟩, trivial⟩ ⟨by omega, rfl⟩ ?_
  rintro i ⟨k1, k2⟩
  (conv => whnf)
  refine brm_p (fun h => ?_) (fun h => ?_) <;> (conv => whnf)
  · obtain ⟨b, hg, _, hd⟩ := drop_at (xs := sb s) (i := i) (by omega)
    rw [hd, List.all_cons] at k2
    have hb := byteAt_get hg
    refine vix_intro i rfl (by omega) ?_
    (conv => whnf)
    rw [hb]
    refine brm_p (fun h1 => ?_) (fun h1 => ?_) <;> (conv => whnf)
    · refine vfin_bool ?_
      have : grB b = false := by simp [grB]; omega
      rw [this, Bool.false_and] at k2
      rw [keyOk, ← k2, Bool.false_and]
    refine vix_intro i rfl (by omega) ?_
    (conv => whnf)
    rw [hb]
    refine brm_p (fun h2 => ?_) (fun h2 => ?_) <;> (conv => whnf)
    · refine vfin_bool ?_
      have : grB b = false := by simp [grB]; omega
      rw [this, Bool.false_and] at k2
      rw [keyOk, ← k2, Bool.false_and]
    · have : grB b = true := by simp [grB]; omega
      rw [this, Bool.true_and] at k2
      exact ⟨i + 1, ⟨⟨.inr rfl, .inr (vint_eq (wrap_succ (by omega))), trivial⟩, trivial⟩, ⟨by omega, k2⟩, by omega⟩
  · refine vfin_bool ?_
    have : (sb s).drop i = [] := List.drop_eq_nil_of_le (by omega)
    rw [this] at k2
    rw [keyOk, ← k2]
    simp
    omega
theorem l6Fields_c (m : Nat) (xs : List Fd) (hx : ∀ x ∈ xs, szOk x) (hv : ∀ x ∈ xs, (sb x.2).length ≤ m) (hl : xs.length * (m + 2) ≤ 4222124650659900) (hl9 : xs.length ≤ 140737488355328) : VC Tryd.prog 83 [rdF xs] (.val (.bool (msgF xs))) := by
  refine VC.intro hΘ Tryd.func83 rfl rfl Tryd.ntmps83 rfl rfl rfl fun B hB => ?_
  (conv => whnf)
  have c1 := l4GetM_c m xs lenN hx hv (by decide) hl hl9
  have c2 := l4GetM_c m xs codN hx hv (by decide) hl hl9
  unfold getV at c1 c2
  unfold msgF hasF
  generalize decide (hitsOf lenN xs ≠ []) = b1 at c1 ⊢
  generalize decide (hitsOf codN xs ≠ []) = b2 at c2 ⊢
  generalize Lib.join (hitsOf lenN xs) comma = J1 at c1
  generalize Lib.join (hitsOf codN xs) comma = J2 at c2
  refine vcallS_intro0 rfl c1 (f1 (ar rfl rfl) (f1 (av rfl) f0)) ?_
  (conv => whnf)
  refine vcallS_intro0 rfl c2 (f1 (ar rfl rfl) (f1 (av rfl) f0)) ?_
  (conv => whnf)
  refine call_bb rfl (fieldsOkS_c xs hx hl9) (f1 (ar rfl rfl) f0) (fun h => ?_) (fun h => ?_) <;> (conv => whnf)
  · cases b1 <;> (conv => whnf)
    · exact vfin_bool (by rw [h]; rfl)
    · exact vfin_bool (by rw [h]; rfl)
  · exact vfin_bool (by rw [h]; rfl)
theorem hasF_no {n : ByteArray} {xs : List Fd} : hasF n xs = false ↔ ∀ p ∈ xs, sameN n p = false := by
  unfold hasF hitsOf
  simp only [decide_eq_false_iff_not, ne_eq, Decidable.not_not, List.map_eq_nil_iff, List.filter_eq_nil_iff, beq_iff_eq, sameN, beq_eq_false_iff_ne]
  exact ⟨fun h p hp e => h p hp e.symm, fun h p hp e => h p hp e.symm⟩
theorem own_len (xs : List Fd) : (((withoutF [lenN, codN] xs).length : Int) == (xs.length : Int)) = (!hasF lenN xs && !hasF codN xs) := by
  rw [Bool.eq_iff_iff]
  simp only [beq_iff_eq, Int.natCast_inj, Bool.and_eq_true, Bool.not_eq_true', hasF_no]
  unfold withoutF
  rw [List.length_filter_eq_length_iff]
  simp only [List.any_cons, List.any_nil, Bool.or_false, Bool.not_eq_true', Bool.or_eq_false_iff]
  exact ⟨fun h => ⟨fun p hp => (h p hp).1, fun p hp => (h p hp).2⟩, fun h p hp => ⟨h.1 p hp, h.2 p hp⟩⟩
theorem areOwn_c (xs : List Fd) (hx : ∀ x ∈ xs, szOk x) (hl9 : xs.length ≤ 140737488355328) : VC Tryd.prog 90 [rdF xs] (.val (.bool (msgF xs))) := by
  refine VC.intro hΘ Tryd.func90 rfl rfl Tryd.ntmps90 rfl rfl rfl fun B hB => ?_
  (conv => whnf)
  refine call_bb rfl (fieldsOkI_c xs hx hl9) (f1 (ar rfl rfl) f0) (fun h => ?_) (fun h => ?_) <;> (conv => whnf)
  · have hl : xs.length ≤ 30 := by
      simp only [fieldsOk, Bool.and_eq_true, decide_eq_true_eq] at h; exact h.1
    refine vcallS_intro0 rfl (withoutI_c xs [lenN, codN] hx (by intro n hn; simp only [List.mem_cons, List.not_mem_nil, or_false] at hn; rcases hn with rfl | rfl <;> decide) (by omega) (by decide)) (f1 (ar rfl rfl) (f1 (ah rfl rfl rfl) f0)) ?_
    (conv => whnf)
    refine vfin_bool ?_
    rw [List.length_map, List.length_map, own_len, msgF, h, Bool.true_and]
  · exact vfin_bool (by rw [msgF, h]; rfl)
theorem responseOkS_c (r : Rsp) (m : Nat) (hr : r.ok) (hv : ∀ x ∈ r.fs, (sb x.2).length ≤ m) (hl : r.fs.length * (m + 2) ≤ 4222124650659900) : VC Tryd.prog 53 [r.rd] (.val (.bool r.good)) := by
  refine VC.intro hΘ Tryd.func53 rfl rfl Tryd.ntmps53 rfl rfl rfl fun B hB => ?_
  (conv => whnf)
  refine call_bb rfl (l1In_c r.st 200 599) (f1 (av rfl) (f1 (av rfl) (f1 (av rfl) f0))) (fun h => ?_) (fun h => ?_) <;> (conv => whnf)
  rotate_left
  · exact vfin_bool (by rw [Rsp.good, h]; rfl)
  refine call_bb rfl (l6Fields_c m r.fs hr.1.2 hv hl hr.1.1) (f1 (ar rfl rfl) f0) (fun h1 => ?_) (fun h1 => ?_) <;> (conv => whnf)
  rotate_left
  · exact vfin_bool (by rw [Rsp.good, h, h1]; rfl)
  refine brm_p (fun h2 => ?_) (fun h2 => ?_) <;> (conv => whnf)
  rotate_left
  · exact vfin_bool (by rw [Rsp.good]; simp; omega)
  have e2 : decide ((sb r.bd).length ≤ 4000) = true := by simp; omega
  refine call_bb rfl (l6Bare_c r.st) (f1 (av rfl) f0) (fun h3 => ?_) (fun h3 => ?_) <;> (conv => whnf)
  · exact vfin_bool (by rw [Rsp.good, h, h1, e2, h3]; rfl)
  · exact vfin_bool (by rw [Rsp.good, h, h1, e2, h3]; rfl)
theorem responseOkI_c (r : Rsp) (hr : r.ok) : VC Tryd.prog 55 [r.rd] (.val (.bool r.good)) := by
  refine VC.intro hΘ Tryd.func55 rfl rfl Tryd.ntmps55 rfl rfl rfl fun B hB => ?_
  (conv => whnf)
  refine call_bb rfl (isStatus_c r.st) (f1 (av rfl) f0) (fun h => ?_) (fun h => ?_) <;> (conv => whnf)
  rotate_left
  · exact vfin_bool (by rw [Rsp.good, h]; rfl)
  refine call_bb rfl (areOwn_c r.fs hr.1.2 hr.1.1) (f1 (ar rfl rfl) f0) (fun h1 => ?_) (fun h1 => ?_) <;> (conv => whnf)
  rotate_left
  · exact vfin_bool (by rw [Rsp.good, h, h1]; rfl)
  refine brm_p (fun h2 => ?_) (fun h2 => ?_) <;> (conv => whnf)
  rotate_left
  · exact vfin_bool (by rw [Rsp.good]; simp; omega)
  have e2 : decide ((sb r.bd).length ≤ 4000) = true := by simp; omega
  refine brm_intro (fun h4 => ?_) (fun h4 => ?_) <;> (conv => whnf)
  · have h4 : (sb r.bd == []) = true := h4
    exact vfin_bool (by rw [Rsp.good, h, h1, e2, h4]; simp)
  have h4 : (sb r.bd == []) = false := h4
  refine call_bb rfl (isBare_c r.st) (f1 (av rfl) f0) (fun h3 => ?_) (fun h3 => ?_) <;> (conv => whnf)
  · exact vfin_bool (by rw [Rsp.good, h, h1, e2, h3, h4]; rfl)
  · exact vfin_bool (by rw [Rsp.good, h, h1, e2, h3, h4]; rfl)
set_option maxRecDepth 20000 in
theorem objectOkS_c (o : Obj) (m : Nat) (hr : o.ok) (hv : ∀ x ∈ o.r.fs, (sb x.2).length ≤ m) (hl : o.r.fs.length * (m + 2) ≤ 4222124650659900) : VC Tryd.prog 52 [o.rd] (.val (.bool o.good)) := by
  refine VC.intro hΘ Tryd.func52 rfl rfl Tryd.ntmps52 rfl rfl rfl fun B hB => ?_
  (conv => whnf)
  refine call_bb rfl (l10Key_c o.key hr.1) (f1 (av rfl) f0) (fun h => ?_) (fun h => ?_) <;> (conv => whnf)
  rotate_left
  · exact vfin_bool (by rw [Obj.good, h]; rfl)
  refine call_bb rfl (fieldsOkS_c o.fs hr.2.1.2 hr.2.1.1) (f1 (ar rfl rfl) f0) (fun h1 => ?_) (fun h1 => ?_) <;> (conv => whnf)
  rotate_left
  · exact vfin_bool (by rw [Obj.good, h, h1]; rfl)
  refine call_bb rfl (responseOkS_c o.r m hr.2.2 hv hl) (f1 (fa (l1 (fv rfl) (l1 (fr rfl rfl) (l1 (fv rfl) l0)))) f0) (fun h2 => ?_) (fun h2 => ?_) <;> (conv => whnf)
  rotate_left
  · exact vfin_bool (by rw [Obj.good, h, h1, h2]; rfl)
  refine call_bb rfl (l10Moment_c o.asked) (f1 (av rfl) f0) (fun h3 => ?_) (fun h3 => ?_) <;> (conv => whnf)
  rotate_left
  · exact vfin_bool (by rw [Obj.good, h, h1, h2, h3]; rfl)
  refine call_bb rfl (l10Moment_c o.got) (f1 (av rfl) f0) (fun h4 => ?_) (fun h4 => ?_) <;> (conv => whnf)
  rotate_left
  · exact vfin_bool (by rw [Obj.good, h, h1, h2, h3, h4]; rfl)
  refine brm_intro (fun h5 => ?_) (fun h5 => ?_) <;> (conv => whnf)
  rotate_left
  · exact vfin_bool (by rw [Obj.good, h, h1, h2, h3, h4, h5]; rfl)
  refine call_bb rfl (l1In_c o.ep 0 100000) (f1 (av rfl) (f1 (av rfl) (f1 (av rfl) f0))) (fun h6 => ?_) (fun h6 => ?_) <;> (conv => whnf)
  · exact vfin_bool (by rw [Obj.good, h, h1, h2, h3, h4, h5, h6]; rfl)
  · exact vfin_bool (by rw [Obj.good, h, h1, h2, h3, h4, h5, h6]; rfl)
theorem good_of (o : Obj) : o.good = ((((((decide ((sb o.key).length ≤ 500) && (sb o.key).all grB) && fieldsOk o.fs) && o.r.good) && inR o.got 0 253402300799) && inR o.asked 0 o.got) && inR o.ep 0 100000) := by
  unfold Obj.good keyOk
  rw [Bool.eq_iff_iff]
  simp only [Bool.and_eq_true, decide_eq_true_eq, inR]
  constructor
  · rintro ⟨⟨⟨⟨⟨⟨⟨a, b⟩, c⟩, d⟩, e1, e2⟩, f1, f2⟩, g⟩, i1, i2⟩
    exact ⟨⟨⟨⟨⟨⟨b, a⟩, c⟩, d⟩, f1, f2⟩, e1, g⟩, i1, i2⟩
  · rintro ⟨⟨⟨⟨⟨⟨b, a⟩, c⟩, d⟩, f1, f2⟩, e1, g⟩, i1, i2⟩
    exact ⟨⟨⟨⟨⟨⟨⟨a, b⟩, c⟩, d⟩, e1, by omega⟩, f1, f2⟩, g⟩, i1, i2⟩
set_option maxRecDepth 20000 in
theorem objectOkI_c (o : Obj) (hr : o.ok) : VC Tryd.prog 54 [o.rd] (.val (.bool o.good)) := by
  rw [good_of]
  refine VC.intro hΘ Tryd.func54 rfl rfl Tryd.ntmps54 rfl rfl rfl fun B hB => ?_
  (conv => whnf)
  refine brm_p (fun h0 => ?_) (fun h0 => ?_) <;> (conv => whnf)
  rotate_left
  · exact vfin_bool (by have : decide ((sb o.key).length ≤ 500) = false := by simp; omega
                        rw [this]; rfl)
  have e0 : decide ((sb o.key).length ≤ 500) = true := by simp; omega
  rw [e0]
  refine call_bb rfl (isGraphic_c o.key hr.1) (f1 (av rfl) f0) (fun h => ?_) (fun h => ?_) <;> (conv => whnf)
  rotate_left
  · exact vfin_bool (by rw [h]; rfl)
  refine call_bb rfl (fieldsOkI_c o.fs hr.2.1.2 hr.2.1.1) (f1 (ar rfl rfl) f0) (fun h1 => ?_) (fun h1 => ?_) <;> (conv => whnf)
  rotate_left
  · exact vfin_bool (by rw [h, h1]; rfl)
  refine call_bb rfl (responseOkI_c o.r hr.2.2) (f1 (fa (l1 (fv rfl) (l1 (fr rfl rfl) (l1 (fv rfl) l0)))) f0) (fun h2 => ?_) (fun h2 => ?_) <;> (conv => whnf)
  rotate_left
  · exact vfin_bool (by rw [h, h1, h2]; rfl)
  refine call_bb rfl (isMoment_c o.got) (f1 (av rfl) f0) (fun h3 => ?_) (fun h3 => ?_) <;> (conv => whnf)
  rotate_left
  · exact vfin_bool (by rw [h, h1, h2, h3]; rfl)
  refine call_bb rfl (within_c o.asked 0 o.got) (f1 (av rfl) (f1 (av rfl) (f1 (av rfl) f0))) (fun h4 => ?_) (fun h4 => ?_) <;> (conv => whnf)
  rotate_left
  · exact vfin_bool (by rw [h, h1, h2, h3, h4]; rfl)
  refine call_bb rfl (isEpoch_c o.ep) (f1 (av rfl) f0) (fun h5 => ?_) (fun h5 => ?_) <;> (conv => whnf)
  · exact vfin_bool (by rw [h, h1, h2, h3, h4, h5]; rfl)
  · exact vfin_bool (by rw [h, h1, h2, h3, h4, h5]; rfl)
end Go.Proofs.YteihhmonnbeekaaDoor
namespace Go.Proofs.YteihhmonnbeekaaDoor
open Go Go.Proofs.YteihhmonnbeekaaDoor.Vs

/-! #### Renewed -/
def addF (acc : List Fd) (f : Fd) : List Fd := withoutF [f.1] acc ++ [f]
def addAll (rs xs : List Fd) : List Fd := rs.foldl addF xs
theorem addAll_mem : ∀ {rs xs : List Fd} {p : Fd}, p ∈ addAll rs xs → p ∈ rs ∨ p ∈ xs
  | [], xs, p, h => .inr h
  | f :: r, xs, p, h => by
    rcases addAll_mem (rs := r) (xs := addF xs f) h with h | h
    · exact .inl (by simp [h])
    · rcases List.mem_append.1 h with h | h
      · exact .inr (withoutF_mem h)
      · simp only [List.mem_singleton] at h; exact .inl (by simp [h])
theorem addAll_len : ∀ (rs xs : List Fd), (addAll rs xs).length ≤ xs.length + rs.length
  | [], xs => Nat.le_refl _
  | f :: r, xs => by
    have := addAll_len r (addF xs f)
    have h2 := withoutF_le [f.1] xs
    have e : addAll (f :: r) xs = addAll r (addF xs f) := rfl
    rw [e]
    simp only [addF, List.length_append, List.length_cons, List.length_nil] at this ⊢
    omega
theorem addAll_take {rs xs : List Fd} {i : Nat} {f : Fd} (h : rs[i]? = some f) : addAll (rs.take (i + 1)) xs = withoutF [f.1] (addAll (rs.take i) xs) ++ [f] := by
  unfold addAll
  rw [List.take_add_one, h, List.foldl_append]; rfl
def zeroObj : Obj := ⟨⟨⟨[]⟩⟩, [], ⟨0, [], ⟨⟨[]⟩⟩⟩, 0, 0, 0⟩
def renewO (o : Obj) (r : Rsp) (a g : Int) : Obj := ⟨o.key, o.fs, ⟨o.r.st, addAll r.fs o.r.fs, o.r.bd⟩, a, g, o.ep⟩
def renewOk (o : Obj) (r : Rsp) (a g : Int) : Bool := ((o.good && r.good) && r.st == 304) && (renewO o r a g).good
def renewRes (o : Obj) (r : Rsp) (a g : Int) : Obj := if renewOk o r a g then renewO o r a g else zeroObj
def renewV (o : Obj) (b : Bool) : V := .tup [o.ow, .val (.bool b)]
theorem good_fs {o : Obj} (h : o.good = true) : fieldsOk o.fs = true ∧ fieldsOk o.r.fs = true := by
  simp only [Obj.good, Rsp.good, msgF, Bool.and_eq_true] at h
  exact ⟨h.1.1.1.1.1.2, h.1.1.1.1.2.1.1.2.1.1⟩
theorem goodR_fs {r : Rsp} (h : r.good = true) : fieldsOk r.fs = true := by
  simp only [Rsp.good, msgF, Bool.and_eq_true] at h
  exact h.1.1.2.1.1
theorem fieldsOk_len {xs : List Fd} (h : fieldsOk xs = true) : xs.length ≤ 30 := by
  simp only [fieldsOk, Bool.and_eq_true, decide_eq_true_eq] at h; exact h.1
theorem fieldsOk_val {xs : List Fd} (h : fieldsOk xs = true) : ∀ x ∈ xs, (sb x.2).length ≤ 400 := by
  intro x hx
  simp only [fieldsOk, Bool.and_eq_true, decide_eq_true_eq, List.all_eq_true, fieldOk, visibleOk] at h
  exact (h.2 x hx).1.2.1
theorem renew_len (o : Obj) (r : Rsp) (a g : Int) : (renewRes o r a g).fs.length ≤ 30 ∧ (renewRes o r a g).r.fs.length ≤ 30 := by
  unfold renewRes
  split
  · rename_i h
    simp only [renewOk, Bool.and_eq_true] at h
    exact ⟨fieldsOk_len (good_fs h.2).1, fieldsOk_len (good_fs h.2).2⟩
  · exact ⟨Nat.zero_le _, Nat.zero_le _⟩
theorem renew_no {o : Obj} {r : Rsp} {a g : Int} (h : renewOk o r a g = false) : renewRes o r a g = zeroObj := by simp [renewRes, h]
theorem renew_yes {o : Obj} {r : Rsp} {a g : Int} (h : renewOk o r a g = true) : renewRes o r a g = renewO o r a g := by simp [renewRes, h]
/-- the zero object, as the program makes it -/
theorem fin_zero : vfin (.tup [.agg [.val (.string ⟨⟨[]⟩⟩), nilV, .val (.int .i64 0), nilV, .val (.string ⟨⟨[]⟩⟩), .val (.int .i64 0), .val (.int .i64 0), .val (.int .i64 0)], .val (.bool false)]) (renewV zeroObj false) :=
  vfin_wk (wk_tup ⟨.inl (.inr ⟨_, _, rfl, rfl, ⟨.inr rfl, .inl wk_nil1, .inr rfl, .inl wk_nil1, .inr rfl, .inr rfl, .inr rfl, .inr rfl, trivial⟩⟩), .inr rfl, trivial⟩)

theorem ownFields_c (xs : List Fd) (hl : xs.length ≤ 1000000000) : VC Tryd.prog 92 [rdF xs] (owF xs) := by
  refine VC.intro hΘ Tryd.func92 rfl rfl Tryd.ntmps92 rfl rfl rfl fun B hB => ?_
  (conv => whnf)
  refine vreq_intro (by intro c hc; obtain ⟨p, _, rfl⟩ := List.mem_map.1 hc; intro y hy; simp [encF] at hy; rcases hy with rfl | rfl <;> exact ⟨_, rfl⟩) ?_
  (conv => whnf)
  refine vreq_intro (app_ok (by rw [List.length_map]; show 0 + xs.length ≤ _; omega) rfl) ?_
  (conv => whnf)
  exact vfin_own rfl
set_option maxRecDepth 100000 in
theorem ownObj_c (o : Obj) (hl : o.fs.length ≤ 1000000000) (hl' : o.r.fs.length ≤ 1000000000) : VC Tryd.prog 56 [o.rd] o.ow := by
  refine VC.intro hΘ Tryd.func56 rfl rfl Tryd.ntmps56 rfl rfl rfl fun B hB => ?_
  (conv => whnf)
  refine vdrawG_intro hΘ hB mixed 8 rfl rfl ?_
  (conv => whnf)
  refine vcallA_intro0 rfl (ownFields_c o.fs hl) (f1 (ar rfl rfl) f0) ?_
  (conv => whnf)
  refine vcallA_intro0 rfl (ownFields_c o.r.fs hl') (f1 (ar rfl rfl) f0) ?_
  (conv => whnf)
  refine ⟨rfl, ?_⟩
  (conv => whnf)
  exact vfin_agg rfl
end Go.Proofs.YteihhmonnbeekaaDoor
namespace Go.Proofs.YteihhmonnbeekaaDoor
open Go Go.Proofs.YteihhmonnbeekaaDoor.Vs

set_option maxRecDepth 100000 in
theorem renewedI_c (o : Obj) (r : Rsp) (a g : Int) (ho : o.ok) (hr : r.ok) : VC Tryd.prog 19 [o.rd, r.rd, .val (.int .i64 a), .val (.int .i64 g)] (renewV (renewRes o r a g) (renewOk o r a g)) := by
  refine VC.intro hΘ Tryd.func19 rfl rfl Tryd.ntmps19 rfl rfl rfl fun B hB => ?_
  (conv => whnf)
  refine call_bb rfl (objectOkI_c o ho) (f1 (fa (l1 (fv rfl) (l1 (fr rfl rfl) (l1 (fv rfl) (l1 (fr rfl rfl) (l1 (fv rfl) (l1 (fv rfl) (l1 (fv rfl) (l1 (fv rfl) l0))))))))) f0) (fun h1 => ?_) (fun h1 => ?_) <;> (conv => whnf)
  rotate_left
  · have e : renewOk o r a g = false := by simp [renewOk, h1]
    rw [renew_no e, e]
    exact fin_zero
  refine call_bb rfl (responseOkI_c r hr) (f1 (fa (l1 (fv rfl) (l1 (fr rfl rfl) (l1 (fv rfl) l0)))) f0) (fun h2 => ?_) (fun h2 => ?_) <;> (conv => whnf)
  rotate_left
  · have e : renewOk o r a g = false := by simp [renewOk, h2]
    rw [renew_no e, e]
    exact fin_zero
  refine brm_ne (fun h3 => ?_) (fun h3 => ?_) <;> (conv => whnf)
  · have e : renewOk o r a g = false := by simp [renewOk, h3]
    rw [renew_no e, e]
    exact fin_zero
  have hof := good_fs h1
  have hrf := goodR_fs h2
  have l1' := fieldsOk_len hof.1
  have l2' := fieldsOk_len hof.2
  have l3' := fieldsOk_len hrf
  refine vcallS_intro0 rfl (ownObj_c o (by omega) (by omega)) (f1 (fa (l1 (fv rfl) (l1 (fr rfl rfl) (l1 (fv rfl) (l1 (fr rfl rfl) (l1 (fv rfl) (l1 (fv rfl) (l1 (fv rfl) (l1 (fv rfl) l0))))))))) f0) ?_
  (conv => whnf)
  refine vloop_intro hΘ hB (ι := Nat) (fun i => ⟨[(2, .val (.int .i64 a)), (3, .val (.int .i64 g)), (8, .ptr 8 0), (10, .ptr 10 0), (30, .rd none (.sl true 2 (r.fs.map encF))), (31, .val (.int .i64 (r.fs.map encF).length)), (32, .val (.int .i64 i))],
    [(8, [.val (.string ⟨⟨[]⟩⟩), nilV, .val (.int .i64 0), nilV, .val (.string ⟨⟨[]⟩⟩), .val (.int .i64 0), .val (.int .i64 0), .val (.int .i64 0)]),
     (10, [.val (.string o.key), .own 2 (o.fs.map encF), .val (.int .i64 o.r.st), .own 2 ((addAll (r.fs.take i) o.r.fs).map encF), .val (.string o.r.bd), .val (.int .i64 o.asked), .val (.int .i64 o.got), .val (.int .i64 o.ep)])]⟩)
    (fun i => i ≤ r.fs.length) (fun i => r.fs.length - i) 0
    ⟨⟨.inr rfl, .inr rfl, .inr rfl, .inr rfl, .inr rfl, .inr rfl, .inr rfl, trivial⟩, ⟨⟨.inr rfl, .inr rfl, .inr rfl, .inr rfl, .inr rfl, .inr rfl, .inr rfl, .inr rfl, trivial⟩, ⟨.inr rfl, .inr rfl, .inr rfl, .inr rfl, .inr rfl, .inr rfl, .inr rfl, .inr rfl, trivial⟩, trivial⟩⟩ (Nat.zero_le _) ?_
  intro i k1
  (conv => whnf)
  rw [List.length_map]
  have hal := addAll_len (r.fs.take i) o.r.fs
  have hal2 : (r.fs.take i).length ≤ 30 := by rw [List.length_take]; omega
  have hsz : ∀ x ∈ addAll (r.fs.take i) o.r.fs, szOk x := by
    intro x hx
    rcases addAll_mem hx with h | h
    · exact hr.1.2 x (List.mem_of_mem_take h)
    · exact ho.2.2.1.2 x h
  refine brm_p (fun h => ?_) (fun h => ?_) <;> (conv => whnf)
  · obtain ⟨f, hg, hm, hd⟩ := drop_at (xs := r.fs) (i := i) (by omega)
    refine vat_intro i (encF f) rfl (map_at hg) ?_
    (conv => whnf)
    refine vdrawG_intro hΘ hB mixed 9 rfl rfl ?_
    (conv => whnf)
    refine vcallA_intro0 rfl (withoutI_c (addAll (r.fs.take i) o.r.fs) [f.1] hsz (by intro n hn; simp only [List.mem_singleton] at hn; subst hn; exact (hr.1.2 f hm).1) (by omega) (by show 1 ≤ _; omega)) (f1 (ah rfl rfl rfl) (f1 (ah rfl rfl rfl) f0)) ?_
    (conv => whnf)
    refine ⟨rfl, ?_⟩
    (conv => whnf)
    have hwl := withoutF_le [f.1] (addAll (r.fs.take i) o.r.fs)
    refine vreq_intro (by rw [List.length_map]; show ((withoutF [f.1] (addAll (r.fs.take i) o.r.fs)).length + 1) * 33 ≤ _; omega) ?_
    (conv => whnf)
    refine ⟨i + 1, ⟨⟨.inr rfl, .inr rfl, .inr rfl, .inr rfl, .inr rfl, .inr rfl, .inr (vint_eq (wrap_succ (by omega))), trivial⟩, ⟨⟨.inr rfl, .inr rfl, .inr rfl, .inr rfl, .inr rfl, .inr rfl, .inr rfl, .inr rfl, trivial⟩, ⟨.inr rfl, .inr rfl, .inr rfl, .inr (vown_eq ?_), .inr rfl, .inr rfl, .inr rfl, .inr rfl, trivial⟩, trivial⟩⟩, by omega, by omega⟩
    rw [addAll_take hg, List.map_append]; rfl
  · have hi : r.fs.take i = r.fs := List.take_of_length_le (by omega)
    rw [hi] at hsz hal hal2
    rw [hi]
    have hok : (renewO o r a g).ok := ⟨ho.1, ho.2.1, ⟨⟨by show (addAll r.fs o.r.fs).length ≤ _; omega, hsz⟩, ho.2.2.2⟩⟩
    refine call_bb rfl (objectOkI_c (renewO o r a g) hok) (f1 (fa (l1 (fv rfl) (l1 (fh rfl rfl rfl) (l1 (fv rfl) (l1 (fh rfl rfl rfl) (l1 (fv rfl) (l1 (fv rfl) (l1 (fv rfl) (l1 (fv rfl) l0))))))))) f0) (fun h4 => ?_) (fun h4 => ?_) <;> (conv => whnf)
    · have e : renewOk o r a g = true := by simp [renewOk, h1, h2, h3, h4]
      rw [renew_yes e, e]
      exact vfin_tup2 rfl rfl
    · have e : renewOk o r a g = false := by simp [renewOk, h4]
      rw [renew_no e, e]
      exact fin_zero
set_option maxRecDepth 100000 in
theorem renewedS_c (o : Obj) (r : Rsp) (a g : Int) (ho : o.ok) (hr : r.ok) (hv : ∀ x ∈ o.r.fs, (sb x.2).length ≤ 1048576) (hl : o.r.fs.length ≤ 1048576) (hv2 : ∀ x ∈ r.fs, (sb x.2).length ≤ 1048576) (hl2 : r.fs.length ≤ 1048576) :
    VC Tryd.prog 16 [o.rd, r.rd, .val (.int .i64 a), .val (.int .i64 g)] (renewV (renewRes o r a g) (renewOk o r a g)) := by
  refine VC.intro hΘ Tryd.func16 rfl rfl Tryd.ntmps16 rfl rfl rfl fun B hB => ?_
  (conv => whnf)
  refine call_bb rfl (objectOkS_c o 1048576 ho hv (Nat.le_trans (Nat.mul_le_mul_right _ hl) (by decide))) (f1 (fa (l1 (fv rfl) (l1 (fr rfl rfl) (l1 (fv rfl) (l1 (fr rfl rfl) (l1 (fv rfl) (l1 (fv rfl) (l1 (fv rfl) (l1 (fv rfl) l0))))))))) f0) (fun h1 => ?_) (fun h1 => ?_) <;> (conv => whnf)
  rotate_left
  · have e : renewOk o r a g = false := by simp [renewOk, h1]
    rw [renew_no e, e]
    exact fin_zero
  refine call_bb rfl (responseOkS_c r 1048576 hr hv2 (Nat.le_trans (Nat.mul_le_mul_right _ hl2) (by decide))) (f1 (fa (l1 (fv rfl) (l1 (fr rfl rfl) (l1 (fv rfl) l0)))) f0) (fun h2 => ?_) (fun h2 => ?_) <;> (conv => whnf)
  rotate_left
  · have e : renewOk o r a g = false := by simp [renewOk, h2]
    rw [renew_no e, e]
    exact fin_zero
  refine brm_ne (fun h3 => ?_) (fun h3 => ?_) <;> (conv => whnf)
  · have e : renewOk o r a g = false := by simp [renewOk, h3]
    rw [renew_no e, e]
    exact fin_zero
  have hof := good_fs h1
  have hrf := goodR_fs h2
  have l1' := fieldsOk_len hof.1
  have l2' := fieldsOk_len hof.2
  have l3' := fieldsOk_len hrf
  have flatF : ∀ (xs : List Fd), ∀ c ∈ xs.map encF, ∀ y ∈ c, ∃ x, y = C.v x := by
    intro xs c hc; obtain ⟨p, _, rfl⟩ := List.mem_map.1 hc; intro y hy; simp [encF] at hy; rcases hy with rfl | rfl <;> exact ⟨_, rfl⟩
  refine vreq_intro (flatF o.fs) ?_
  (conv => whnf)
  refine vreq_intro (app_ok (by rw [List.length_map]; show 0 + o.fs.length ≤ _; omega) rfl) ?_
  (conv => whnf)
  refine vreq_intro (flatF o.r.fs) ?_
  (conv => whnf)
  refine vreq_intro (app_ok (by rw [List.length_map]; show 0 + o.r.fs.length ≤ _; omega) rfl) ?_
  (conv => whnf)
  refine vloop_intro hΘ hB (ι := Nat) (fun i => ⟨[(2, .val (.int .i64 a)), (3, .val (.int .i64 g)), (4, .ptr 4 0), (5, .ptr 5 0), (8, .ptr 8 0), (10, .ptr 10 0), (11, .own 2 ((addAll (r.fs.take i) o.r.fs).map encF)), (12, .val (.int .i64 i))],
    [(4, [.val (.string o.key), .rd none (.sl true 2 (o.fs.map encF)), .val (.int .i64 o.r.st), .rd none (.sl true 2 (o.r.fs.map encF)), .val (.string o.r.bd), .val (.int .i64 o.asked), .val (.int .i64 o.got), .val (.int .i64 o.ep)]),
     (5, [.val (.int .i64 r.st), .rd none (.sl true 2 (r.fs.map encF)), .val (.string r.bd)]),
     (8, [.val (.string ⟨⟨[]⟩⟩), nilV, .val (.int .i64 0), nilV, .val (.string ⟨⟨[]⟩⟩), .val (.int .i64 0), .val (.int .i64 0), .val (.int .i64 0)]),
     (10, [.val (.string o.key), .own 2 (o.fs.map encF), .val (.int .i64 o.r.st), .rd none (.sl true 2 (o.r.fs.map encF)), .val (.string o.r.bd), .val (.int .i64 o.asked), .val (.int .i64 o.got), .val (.int .i64 o.ep)])]⟩)
    (fun i => i ≤ r.fs.length) (fun i => r.fs.length - i) 0
    ⟨⟨.inr rfl, .inr rfl, .inr rfl, .inr rfl, .inr rfl, .inr rfl, .inr rfl, .inr rfl, trivial⟩, ⟨⟨.inr rfl, .inr rfl, .inr rfl, .inr rfl, .inr rfl, .inr rfl, .inr rfl, .inr rfl, trivial⟩, ⟨.inr rfl, .inr rfl, .inr rfl, trivial⟩, ⟨.inr rfl, .inr rfl, .inr rfl, .inr rfl, .inr rfl, .inr rfl, .inr rfl, .inr rfl, trivial⟩, ⟨.inr rfl, .inr rfl, .inr rfl, .inr rfl, .inr rfl, .inr rfl, .inr rfl, .inr rfl, trivial⟩, trivial⟩⟩ (Nat.zero_le _) ?_
  intro i k1
  (conv => whnf)
  rw [List.length_map]
  have hal := addAll_len (r.fs.take i) o.r.fs
  have hal2 : (r.fs.take i).length ≤ 30 := by rw [List.length_take]; omega
  have hsz : ∀ x ∈ addAll (r.fs.take i) o.r.fs, szOk x := by
    intro x hx
    rcases addAll_mem hx with h | h
    · exact hr.1.2 x (List.mem_of_mem_take h)
    · exact ho.2.2.1.2 x h
  refine brm_p (fun h => ?_) (fun h => ?_) <;> (conv => whnf)
  · obtain ⟨f, hg, hm, hd⟩ := drop_at (xs := r.fs) (i := i) (by omega)
    refine vdrawG_intro hΘ hB mixed 14 rfl rfl ?_
    (conv => whnf)
    refine vat_intro i (encF f) rfl (map_at hg) ?_
    (conv => whnf)
    refine vcallA_intro0 rfl (l4Without_c (addAll (r.fs.take i) o.r.fs) f.1 hsz (hr.1.2 f hm).1 (by omega)) (f1 (ah rfl rfl rfl) (f1 (av rfl) f0)) ?_
    (conv => whnf)
    refine vat_intro i (encF f) rfl (map_at hg) ?_
    (conv => whnf)
    refine ⟨rfl, ?_⟩
    (conv => whnf)
    have hwl := withoutF_le [f.1] (addAll (r.fs.take i) o.r.fs)
    refine vreq_intro (by rw [List.length_map]; show ((withoutF [f.1] (addAll (r.fs.take i) o.r.fs)).length + 1) * 33 ≤ _; omega) ?_
    (conv => whnf)
    refine ⟨i + 1, ⟨⟨.inr rfl, .inr rfl, .inr rfl, .inr rfl, .inr rfl, .inr rfl, .inr (vown_eq ?_), .inr (vint_eq (wrap_succ (by omega))), trivial⟩, ⟨⟨.inr rfl, .inr rfl, .inr rfl, .inr rfl, .inr rfl, .inr rfl, .inr rfl, .inr rfl, trivial⟩, ⟨.inr rfl, .inr rfl, .inr rfl, trivial⟩, ⟨.inr rfl, .inr rfl, .inr rfl, .inr rfl, .inr rfl, .inr rfl, .inr rfl, .inr rfl, trivial⟩, ⟨.inr rfl, .inr rfl, .inr rfl, .inr rfl, .inr rfl, .inr rfl, .inr rfl, .inr rfl, trivial⟩, trivial⟩⟩, by omega, by omega⟩
    rw [addAll_take hg, List.map_append]; rfl
  · have hi : r.fs.take i = r.fs := List.take_of_length_le (by omega)
    rw [hi] at hsz hal hal2
    rw [hi]
    have hok : (renewO o r a g).ok := ⟨ho.1, ho.2.1, ⟨⟨by show (addAll r.fs o.r.fs).length ≤ _; omega, hsz⟩, ho.2.2.2⟩⟩
    have hv4 : ∀ x ∈ (renewO o r a g).r.fs, (sb x.2).length ≤ 1048576 := by
      intro x hx
      rcases addAll_mem hx with h | h
      · exact hv2 x h
      · exact hv x h
    have hl4 : (renewO o r a g).r.fs.length ≤ 1048576 := by show (addAll r.fs o.r.fs).length ≤ _; omega
    refine call_bb rfl (objectOkS_c (renewO o r a g) 1048576 hok hv4 (Nat.le_trans (Nat.mul_le_mul_right _ hl4) (by decide))) (f1 (fa (l1 (fv rfl) (l1 (fh rfl rfl rfl) (l1 (fv rfl) (l1 (fh rfl rfl rfl) (l1 (fv rfl) (l1 (fv rfl) (l1 (fv rfl) (l1 (fv rfl) l0))))))))) f0) (fun h4 => ?_) (fun h4 => ?_) <;> (conv => whnf)
    · have e : renewOk o r a g = true := by simp [renewOk, h1, h2, h3, h4]
      rw [renew_yes e, e]
      exact vfin_tup2 rfl rfl
    · have e : renewOk o r a g = false := by simp [renewOk, h4]
      rw [renew_no e, e]
      exact fin_zero
end Go.Proofs.YteihhmonnbeekaaDoor
