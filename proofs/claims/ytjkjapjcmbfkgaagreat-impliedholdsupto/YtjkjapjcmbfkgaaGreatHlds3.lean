/-
  Part 3 of 8 of a proof.
-/
import Derived.Test.YtjkjapjcmbfkgaaGreatHlds2
import Derived.Orders
import Derived.Below
import Derived.Laws.AppendOwn
import Derived.Laws.MakeOwn
import Derived.Laws.CopyRow
import Derived.Laws.Rows
import Derived.Laws.Cells
import Derived.Tactics
import Derived.Laws.BitsLemmas
import Derived.Test.YtjkjapjcmbfkgaaGreatProg

/-
  Facts about the seat's types.
-/
namespace Go.Proofs.YtjkjapjcmbfkgaaGreat.Vm
open Go Go.RowKit
theorem ty1 : tyOf Tryz.prog 1 = ⟨.func, 1, 8, true, [.nilfn]⟩ := by kernel_rfl
theorem ty2 : tyOf Tryz.prog 2 = ⟨.int .i64, 1, 8, true, [.int .i64 0]⟩ := by kernel_rfl
theorem ty3 : tyOf Tryz.prog 3 = ⟨.int .i64, 1, 8, true, [.int .i64 0]⟩ := by kernel_rfl
theorem ty4 : tyOf Tryz.prog 4 = ⟨.bool, 1, 1, true, [.bool false]⟩ := by kernel_rfl
theorem ty5 : tyOf Tryz.prog 5 = ⟨.int .u8, 1, 1, true, [.int .u8 0]⟩ := by kernel_rfl
theorem ty9 : tyOf Tryz.prog 9 = ⟨.str, 1, 16, true, [.str (ByteArray.mk #[])]⟩ := by kernel_rfl
theorem ty19 : tyOf Tryz.prog 19 = ⟨.struct [(0, 17)], 1, 8, true, [.nilp]⟩ := by kernel_rfl
theorem ty20 : tyOf Tryz.prog 20 = ⟨.iface, 1, 16, true, [.nilif]⟩ := by kernel_rfl
theorem ty21 : tyOf Tryz.prog 21 = ⟨.int .i32, 1, 4, true, [.int .i32 0]⟩ := by kernel_rfl
theorem ty22 : tyOf Tryz.prog 22 = ⟨.slice 54, 1, 24, true, [.nils]⟩ := by kernel_rfl
theorem ty23 : tyOf Tryz.prog 23 = ⟨.slice 54, 1, 24, true, [.nils]⟩ := by kernel_rfl
theorem ty24 : tyOf Tryz.prog 24 = ⟨.slice 114, 1, 24, true, [.nils]⟩ := by kernel_rfl
theorem ty25 : tyOf Tryz.prog 25 = ⟨.slice 114, 1, 24, true, [.nils]⟩ := by kernel_rfl
theorem ty26 : tyOf Tryz.prog 26 = ⟨.struct [(0, 4), (1, 25)], 2, 32, true, [.bool false, .nils]⟩ := by kernel_rfl
theorem ty27 : tyOf Tryz.prog 27 = ⟨.struct [(0, 4), (1, 25)], 2, 32, true, [.bool false, .nils]⟩ := by kernel_rfl
theorem ty28 : tyOf Tryz.prog 28 = ⟨.struct [(0, 27), (2, 25)], 3, 56, true, [.bool false, .nils, .nils]⟩ := by kernel_rfl
theorem ty29 : tyOf Tryz.prog 29 = ⟨.struct [(0, 27), (2, 25)], 3, 56, true, [.bool false, .nils, .nils]⟩ := by kernel_rfl
theorem ty30 : tyOf Tryz.prog 30 = ⟨.struct [(0, 9), (1, 23), (2, 29), (5, 4)], 6, 104, true, [.str (ByteArray.mk #[]), .nils, .bool false, .nils, .nils, .bool false]⟩ := by kernel_rfl
theorem ty31 : tyOf Tryz.prog 31 = ⟨.struct [(0, 9), (1, 23), (2, 29), (5, 4)], 6, 104, true, [.str (ByteArray.mk #[]), .nils, .bool false, .nils, .nils, .bool false]⟩ := by kernel_rfl
theorem ty32 : tyOf Tryz.prog 32 = ⟨.slice 31, 1, 24, true, [.nils]⟩ := by kernel_rfl
theorem ty33 : tyOf Tryz.prog 33 = ⟨.func, 1, 8, true, [.nilfn]⟩ := by kernel_rfl
theorem ty34 : tyOf Tryz.prog 34 = ⟨.slice 91, 1, 24, true, [.nils]⟩ := by kernel_rfl
theorem ty35 : tyOf Tryz.prog 35 = ⟨.func, 1, 8, true, [.nilfn]⟩ := by kernel_rfl
theorem ty36 : tyOf Tryz.prog 36 = ⟨.func, 1, 8, true, [.nilfn]⟩ := by kernel_rfl
theorem ty37 : tyOf Tryz.prog 37 = ⟨.func, 1, 8, true, [.nilfn]⟩ := by kernel_rfl
theorem ty38 : tyOf Tryz.prog 38 = ⟨.struct [(0, 3), (1, 23)], 2, 32, true, [.int .i64 0, .nils]⟩ := by kernel_rfl
theorem ty39 : tyOf Tryz.prog 39 = ⟨.struct [(0, 3), (1, 23)], 2, 32, true, [.int .i64 0, .nils]⟩ := by kernel_rfl
theorem ty40 : tyOf Tryz.prog 40 = ⟨.slice 62, 1, 24, true, [.nils]⟩ := by kernel_rfl
theorem ty41 : tyOf Tryz.prog 41 = ⟨.func, 1, 8, true, [.nilfn]⟩ := by kernel_rfl
theorem ty42 : tyOf Tryz.prog 42 = ⟨.slice 49, 1, 24, true, [.nils]⟩ := by kernel_rfl
theorem ty43 : tyOf Tryz.prog 43 = ⟨.func, 1, 8, true, [.nilfn]⟩ := by kernel_rfl
theorem ty44 : tyOf Tryz.prog 44 = ⟨.func, 1, 8, true, [.nilfn]⟩ := by kernel_rfl
theorem ty45 : tyOf Tryz.prog 45 = ⟨.struct [(0, 29), (3, 29)], 6, 112, true, [.bool false, .nils, .nils, .bool false, .nils, .nils]⟩ := by kernel_rfl
theorem ty46 : tyOf Tryz.prog 46 = ⟨.struct [(0, 29), (3, 29)], 6, 112, true, [.bool false, .nils, .nils, .bool false, .nils, .nils]⟩ := by kernel_rfl
theorem ty47 : tyOf Tryz.prog 47 = ⟨.slice 65, 1, 24, true, [.nils]⟩ := by kernel_rfl
theorem ty48 : tyOf Tryz.prog 48 = ⟨.struct [(0, 3), (1, 4), (2, 46), (8, 47)], 9, 152, true, [.int .i64 0, .bool false, .bool false, .nils, .nils, .bool false, .nils, .nils, .nils]⟩ := by kernel_rfl
theorem ty49 : tyOf Tryz.prog 49 = ⟨.struct [(0, 3), (1, 4), (2, 46), (8, 47)], 9, 152, true, [.int .i64 0, .bool false, .bool false, .nils, .nils, .bool false, .nils, .nils, .nils]⟩ := by kernel_rfl
theorem ty50 : tyOf Tryz.prog 50 = ⟨.func, 1, 8, true, [.nilfn]⟩ := by kernel_rfl
theorem ty51 : tyOf Tryz.prog 51 = ⟨.func, 1, 8, true, [.nilfn]⟩ := by kernel_rfl
theorem ty52 : tyOf Tryz.prog 52 = ⟨.func, 1, 8, true, [.nilfn]⟩ := by kernel_rfl
theorem ty53 : tyOf Tryz.prog 53 = ⟨.struct [(0, 3), (1, 29)], 4, 64, true, [.int .i64 0, .bool false, .nils, .nils]⟩ := by kernel_rfl
theorem ty54 : tyOf Tryz.prog 54 = ⟨.struct [(0, 3), (1, 29)], 4, 64, true, [.int .i64 0, .bool false, .nils, .nils]⟩ := by kernel_rfl
theorem ty55 : tyOf Tryz.prog 55 = ⟨.int .i64, 1, 8, true, [.int .i64 0]⟩ := by kernel_rfl
theorem ty57 : tyOf Tryz.prog 57 = ⟨.func, 1, 8, true, [.nilfn]⟩ := by kernel_rfl
theorem ty58 : tyOf Tryz.prog 58 = ⟨.func, 1, 8, true, [.nilfn]⟩ := by kernel_rfl
theorem ty59 : tyOf Tryz.prog 59 = ⟨.struct [(0, 4), (1, 46), (7, 3)], 8, 128, true, [.bool false, .bool false, .nils, .nils, .bool false, .nils, .nils, .int .i64 0]⟩ := by kernel_rfl
theorem ty60 : tyOf Tryz.prog 60 = ⟨.struct [(0, 4), (1, 46), (7, 3)], 8, 128, true, [.bool false, .bool false, .nils, .nils, .bool false, .nils, .nils, .int .i64 0]⟩ := by kernel_rfl
theorem ty61 : tyOf Tryz.prog 61 = ⟨.struct [(0, 60), (8, 60)], 16, 256, true, [.bool false, .bool false, .nils, .nils, .bool false, .nils, .nils, .int .i64 0, .bool false, .bool false, .nils, .nils, .bool false, .nils, .nils, .int .i64 0]⟩ := by kernel_rfl
theorem ty62 : tyOf Tryz.prog 62 = ⟨.struct [(0, 60), (8, 60)], 16, 256, true, [.bool false, .bool false, .nils, .nils, .bool false, .nils, .nils, .int .i64 0, .bool false, .bool false, .nils, .nils, .bool false, .nils, .nils, .int .i64 0]⟩ := by kernel_rfl
theorem ty63 : tyOf Tryz.prog 63 = ⟨.func, 1, 8, true, [.nilfn]⟩ := by kernel_rfl
theorem ty64 : tyOf Tryz.prog 64 = ⟨.struct [(0, 3), (1, 29)], 4, 64, true, [.int .i64 0, .bool false, .nils, .nils]⟩ := by kernel_rfl
theorem ty65 : tyOf Tryz.prog 65 = ⟨.struct [(0, 3), (1, 29)], 4, 64, true, [.int .i64 0, .bool false, .nils, .nils]⟩ := by kernel_rfl
theorem ty66 : tyOf Tryz.prog 66 = ⟨.func, 1, 8, true, [.nilfn]⟩ := by kernel_rfl
theorem ty67 : tyOf Tryz.prog 67 = ⟨.func, 1, 8, true, [.nilfn]⟩ := by kernel_rfl
theorem ty68 : tyOf Tryz.prog 68 = ⟨.func, 1, 8, true, [.nilfn]⟩ := by kernel_rfl
theorem ty69 : tyOf Tryz.prog 69 = ⟨.func, 1, 8, true, [.nilfn]⟩ := by kernel_rfl
theorem ty70 : tyOf Tryz.prog 70 = ⟨.func, 1, 8, true, [.nilfn]⟩ := by kernel_rfl
theorem ty71 : tyOf Tryz.prog 71 = ⟨.func, 1, 8, true, [.nilfn]⟩ := by kernel_rfl
theorem ty72 : tyOf Tryz.prog 72 = ⟨.func, 1, 8, true, [.nilfn]⟩ := by kernel_rfl
theorem ty73 : tyOf Tryz.prog 73 = ⟨.func, 1, 8, true, [.nilfn]⟩ := by kernel_rfl
theorem ty74 : tyOf Tryz.prog 74 = ⟨.func, 1, 8, true, [.nilfn]⟩ := by kernel_rfl
theorem ty76 : tyOf Tryz.prog 76 = ⟨.slice 24, 1, 24, true, [.nils]⟩ := by kernel_rfl
theorem ty77 : tyOf Tryz.prog 77 = ⟨.func, 1, 8, true, [.nilfn]⟩ := by kernel_rfl
theorem ty78 : tyOf Tryz.prog 78 = ⟨.func, 1, 8, true, [.nilfn]⟩ := by kernel_rfl
theorem ty79 : tyOf Tryz.prog 79 = ⟨.func, 1, 8, true, [.nilfn]⟩ := by kernel_rfl
theorem ty80 : tyOf Tryz.prog 80 = ⟨.func, 1, 8, true, [.nilfn]⟩ := by kernel_rfl
theorem ty81 : tyOf Tryz.prog 81 = ⟨.func, 1, 8, true, [.nilfn]⟩ := by kernel_rfl
theorem ty82 : tyOf Tryz.prog 82 = ⟨.func, 1, 8, true, [.nilfn]⟩ := by kernel_rfl
theorem ty83 : tyOf Tryz.prog 83 = ⟨.func, 1, 8, true, [.nilfn]⟩ := by kernel_rfl
theorem ty84 : tyOf Tryz.prog 84 = ⟨.slice 46, 1, 24, true, [.nils]⟩ := by kernel_rfl
theorem ty85 : tyOf Tryz.prog 85 = ⟨.func, 1, 8, true, [.nilfn]⟩ := by kernel_rfl
theorem ty86 : tyOf Tryz.prog 86 = ⟨.func, 1, 8, true, [.nilfn]⟩ := by kernel_rfl
theorem ty87 : tyOf Tryz.prog 87 = ⟨.func, 1, 8, true, [.nilfn]⟩ := by kernel_rfl
theorem ty88 : tyOf Tryz.prog 88 = ⟨.func, 1, 8, true, [.nilfn]⟩ := by kernel_rfl
theorem ty89 : tyOf Tryz.prog 89 = ⟨.func, 1, 8, true, [.nilfn]⟩ := by kernel_rfl
theorem ty90 : tyOf Tryz.prog 90 = ⟨.slice 3, 1, 24, true, [.nils]⟩ := by kernel_rfl
theorem ty91 : tyOf Tryz.prog 91 = ⟨.slice 3, 1, 24, true, [.nils]⟩ := by kernel_rfl
theorem ty92 : tyOf Tryz.prog 92 = ⟨.arr 2 3, 2, 16, true, [.int .i64 0, .int .i64 0]⟩ := by kernel_rfl
theorem ty93 : tyOf Tryz.prog 93 = ⟨.func, 1, 8, true, [.nilfn]⟩ := by kernel_rfl
theorem ty94 : tyOf Tryz.prog 94 = ⟨.struct [(0, 9), (1, 23), (2, 4), (3, 4), (4, 4), (5, 29)], 8, 104, true, [.str (ByteArray.mk #[]), .nils, .bool false, .bool false, .bool false, .bool false, .nils, .nils]⟩ := by kernel_rfl
theorem ty95 : tyOf Tryz.prog 95 = ⟨.struct [(0, 9), (1, 23), (2, 4), (3, 4), (4, 4), (5, 29)], 8, 104, true, [.str (ByteArray.mk #[]), .nils, .bool false, .bool false, .bool false, .bool false, .nils, .nils]⟩ := by kernel_rfl
theorem ty96 : tyOf Tryz.prog 96 = ⟨.func, 1, 8, true, [.nilfn]⟩ := by kernel_rfl
theorem ty97 : tyOf Tryz.prog 97 = ⟨.func, 1, 8, true, [.nilfn]⟩ := by kernel_rfl
theorem ty98 : tyOf Tryz.prog 98 = ⟨.func, 1, 8, true, [.nilfn]⟩ := by kernel_rfl
theorem ty99 : tyOf Tryz.prog 99 = ⟨.struct [(0, 40)], 1, 24, true, [.nils]⟩ := by kernel_rfl
theorem ty100 : tyOf Tryz.prog 100 = ⟨.struct [(0, 40)], 1, 24, true, [.nils]⟩ := by kernel_rfl
theorem ty101 : tyOf Tryz.prog 101 = ⟨.func, 1, 8, true, [.nilfn]⟩ := by kernel_rfl
theorem ty102 : tyOf Tryz.prog 102 = ⟨.struct [(0, 23), (1, 29)], 4, 80, true, [.nils, .bool false, .nils, .nils]⟩ := by kernel_rfl
theorem ty103 : tyOf Tryz.prog 103 = ⟨.struct [(0, 23), (1, 29)], 4, 80, true, [.nils, .bool false, .nils, .nils]⟩ := by kernel_rfl
theorem ty105 : tyOf Tryz.prog 105 = ⟨.func, 1, 8, true, [.nilfn]⟩ := by kernel_rfl
theorem ty107 : tyOf Tryz.prog 107 = ⟨.func, 1, 8, true, [.nilfn]⟩ := by kernel_rfl
theorem ty108 : tyOf Tryz.prog 108 = ⟨.func, 1, 8, true, [.nilfn]⟩ := by kernel_rfl
theorem ty109 : tyOf Tryz.prog 109 = ⟨.func, 1, 8, true, [.nilfn]⟩ := by kernel_rfl
theorem ty110 : tyOf Tryz.prog 110 = ⟨.func, 1, 8, true, [.nilfn]⟩ := by kernel_rfl
theorem ty111 : tyOf Tryz.prog 111 = ⟨.func, 1, 8, true, [.nilfn]⟩ := by kernel_rfl
theorem ty112 : tyOf Tryz.prog 112 = ⟨.func, 1, 8, true, [.nilfn]⟩ := by kernel_rfl
theorem ty113 : tyOf Tryz.prog 113 = ⟨.func, 1, 8, true, [.nilfn]⟩ := by kernel_rfl
theorem ty114 : tyOf Tryz.prog 114 = ⟨.int .u32, 1, 4, true, [.int .u32 0]⟩ := by kernel_rfl
theorem ty115 : tyOf Tryz.prog 115 = ⟨.func, 1, 8, true, [.nilfn]⟩ := by kernel_rfl
theorem ty116 : tyOf Tryz.prog 116 = ⟨.func, 1, 8, true, [.nilfn]⟩ := by kernel_rfl
theorem ty117 : tyOf Tryz.prog 117 = ⟨.func, 1, 8, true, [.nilfn]⟩ := by kernel_rfl
theorem ty118 : tyOf Tryz.prog 118 = ⟨.func, 1, 8, true, [.nilfn]⟩ := by kernel_rfl
theorem ty119 : tyOf Tryz.prog 119 = ⟨.func, 1, 8, true, [.nilfn]⟩ := by kernel_rfl
theorem ty121 : tyOf Tryz.prog 121 = ⟨.func, 1, 8, true, [.nilfn]⟩ := by kernel_rfl
theorem ty122 : tyOf Tryz.prog 122 = ⟨.func, 1, 8, true, [.nilfn]⟩ := by kernel_rfl
theorem ty123 : tyOf Tryz.prog 123 = ⟨.func, 1, 8, true, [.nilfn]⟩ := by kernel_rfl
theorem ty125 : tyOf Tryz.prog 125 = ⟨.func, 1, 8, true, [.nilfn]⟩ := by kernel_rfl
theorem ty126 : tyOf Tryz.prog 126 = ⟨.struct [(0, 3), (1, 9), (2, 23), (3, 4), (4, 46)], 10, 168, true, [.int .i64 0, .str (ByteArray.mk #[]), .nils, .bool false, .bool false, .nils, .nils, .bool false, .nils, .nils]⟩ := by kernel_rfl
theorem ty127 : tyOf Tryz.prog 127 = ⟨.struct [(0, 3), (1, 9), (2, 23), (3, 4), (4, 46)], 10, 168, true, [.int .i64 0, .str (ByteArray.mk #[]), .nils, .bool false, .bool false, .nils, .nils, .bool false, .nils, .nils]⟩ := by kernel_rfl
theorem ty128 : tyOf Tryz.prog 128 = ⟨.func, 1, 8, true, [.nilfn]⟩ := by kernel_rfl
theorem ty129 : tyOf Tryz.prog 129 = ⟨.func, 1, 8, true, [.nilfn]⟩ := by kernel_rfl
theorem ty130 : tyOf Tryz.prog 130 = ⟨.func, 1, 8, true, [.nilfn]⟩ := by kernel_rfl
theorem ty131 : tyOf Tryz.prog 131 = ⟨.func, 1, 8, true, [.nilfn]⟩ := by kernel_rfl
theorem ty132 : tyOf Tryz.prog 132 = ⟨.func, 1, 8, true, [.nilfn]⟩ := by kernel_rfl
theorem ty133 : tyOf Tryz.prog 133 = ⟨.func, 1, 8, true, [.nilfn]⟩ := by kernel_rfl
theorem ty134 : tyOf Tryz.prog 134 = ⟨.func, 1, 8, true, [.nilfn]⟩ := by kernel_rfl
theorem ty135 : tyOf Tryz.prog 135 = ⟨.func, 1, 8, true, [.nilfn]⟩ := by kernel_rfl
theorem ty136 : tyOf Tryz.prog 136 = ⟨.func, 1, 8, true, [.nilfn]⟩ := by kernel_rfl
theorem ty137 : tyOf Tryz.prog 137 = ⟨.func, 1, 8, true, [.nilfn]⟩ := by kernel_rfl
theorem ty138 : tyOf Tryz.prog 138 = ⟨.func, 1, 8, true, [.nilfn]⟩ := by kernel_rfl
theorem ty139 : tyOf Tryz.prog 139 = ⟨.func, 1, 8, true, [.nilfn]⟩ := by kernel_rfl
theorem ty141 : tyOf Tryz.prog 141 = ⟨.func, 1, 8, true, [.nilfn]⟩ := by kernel_rfl
theorem ty142 : tyOf Tryz.prog 142 = ⟨.func, 1, 8, true, [.nilfn]⟩ := by kernel_rfl
theorem ty144 : tyOf Tryz.prog 144 = ⟨.int .u64, 1, 8, true, [.int .u64 0]⟩ := by kernel_rfl
theorem ty145 : tyOf Tryz.prog 145 = ⟨.func, 1, 8, true, [.nilfn]⟩ := by kernel_rfl
theorem ty146 : tyOf Tryz.prog 146 = ⟨.func, 1, 8, true, [.nilfn]⟩ := by kernel_rfl
theorem ty147 : tyOf Tryz.prog 147 = ⟨.func, 1, 8, true, [.nilfn]⟩ := by kernel_rfl
theorem ty148 : tyOf Tryz.prog 148 = ⟨.func, 1, 8, true, [.nilfn]⟩ := by kernel_rfl
theorem ty149 : tyOf Tryz.prog 149 = ⟨.func, 1, 8, true, [.nilfn]⟩ := by kernel_rfl
theorem ty150 : tyOf Tryz.prog 150 = ⟨.func, 1, 8, true, [.nilfn]⟩ := by kernel_rfl
theorem ty151 : tyOf Tryz.prog 151 = ⟨.func, 1, 8, true, [.nilfn]⟩ := by kernel_rfl
theorem ty153 : tyOf Tryz.prog 153 = ⟨.func, 1, 8, true, [.nilfn]⟩ := by kernel_rfl
theorem ty155 : tyOf Tryz.prog 155 = ⟨.func, 1, 8, true, [.nilfn]⟩ := by kernel_rfl
theorem ty156 : tyOf Tryz.prog 156 = ⟨.func, 1, 8, true, [.nilfn]⟩ := by kernel_rfl
theorem ty157 : tyOf Tryz.prog 157 = ⟨.func, 1, 8, true, [.nilfn]⟩ := by kernel_rfl
theorem ty158 : tyOf Tryz.prog 158 = ⟨.func, 1, 8, true, [.nilfn]⟩ := by kernel_rfl
theorem ty159 : tyOf Tryz.prog 159 = ⟨.func, 1, 8, true, [.nilfn]⟩ := by kernel_rfl
theorem ty160 : tyOf Tryz.prog 160 = ⟨.func, 1, 8, true, [.nilfn]⟩ := by kernel_rfl
theorem ty164 : tyOf Tryz.prog 164 = ⟨.func, 1, 8, true, [.nilfn]⟩ := by kernel_rfl
theorem ty165 : tyOf Tryz.prog 165 = ⟨.func, 1, 8, true, [.nilfn]⟩ := by kernel_rfl
theorem ty166 : tyOf Tryz.prog 166 = ⟨.func, 1, 8, true, [.nilfn]⟩ := by kernel_rfl
theorem ty167 : tyOf Tryz.prog 167 = ⟨.func, 1, 8, true, [.nilfn]⟩ := by kernel_rfl
theorem ty168 : tyOf Tryz.prog 168 = ⟨.func, 1, 8, true, [.nilfn]⟩ := by kernel_rfl
theorem ty169 : tyOf Tryz.prog 169 = ⟨.func, 1, 8, true, [.nilfn]⟩ := by kernel_rfl
theorem ty170 : tyOf Tryz.prog 170 = ⟨.func, 1, 8, true, [.nilfn]⟩ := by kernel_rfl
theorem ty175 : tyOf Tryz.prog 175 = ⟨.func, 1, 8, true, [.nilfn]⟩ := by kernel_rfl
theorem ty177 : tyOf Tryz.prog 177 = ⟨.func, 1, 8, true, [.nilfn]⟩ := by kernel_rfl
theorem ty179 : tyOf Tryz.prog 179 = ⟨.iface, 1, 16, true, [.nilif]⟩ := by kernel_rfl
theorem ty180 : tyOf Tryz.prog 180 = ⟨.iface, 1, 16, true, [.nilif]⟩ := by kernel_rfl
theorem ty181 : tyOf Tryz.prog 181 = ⟨.ptr 198, 1, 8, true, [.nilp]⟩ := by kernel_rfl
theorem ty182 : tyOf Tryz.prog 182 = ⟨.func, 1, 8, true, [.nilfn]⟩ := by kernel_rfl
theorem ty188 : tyOf Tryz.prog 188 = ⟨.func, 1, 8, true, [.nilfn]⟩ := by kernel_rfl
theorem ty191 : tyOf Tryz.prog 191 = ⟨.func, 1, 8, true, [.nilfn]⟩ := by kernel_rfl
theorem ty197 : tyOf Tryz.prog 197 = ⟨.struct [(0, 9)], 1, 16, true, [.str (ByteArray.mk #[])]⟩ := by kernel_rfl
theorem ty198 : tyOf Tryz.prog 198 = ⟨.struct [(0, 9)], 1, 16, true, [.str (ByteArray.mk #[])]⟩ := by kernel_rfl
abbrev sT := And.intro (And.intro (And.intro (And.intro (And.intro (And.intro (And.intro @ty1 @ty2) (And.intro @ty3 @ty4)) (And.intro (And.intro @ty5 @ty9) (And.intro @ty19 (And.intro @ty20 @ty21)))) (And.intro (And.intro (And.intro @ty22 @ty23) (And.intro @ty24 (And.intro @ty25 @ty26))) (And.intro (And.intro @ty27 @ty28) (And.intro @ty29 (And.intro @ty30 @ty31))))) (And.intro (And.intro (And.intro (And.intro @ty32 @ty33) (And.intro @ty34 @ty35)) (And.intro (And.intro @ty36 @ty37) (And.intro @ty38 (And.intro @ty39 @ty40)))) (And.intro (And.intro (And.intro @ty41 @ty42) (And.intro @ty43 (And.intro @ty44 @ty45))) (And.intro (And.intro @ty46 @ty47) (And.intro @ty48 (And.intro @ty49 @ty50)))))) (And.intro (And.intro (And.intro (And.intro (And.intro @ty51 @ty52) (And.intro @ty53 @ty54)) (And.intro (And.intro @ty55 @ty57) (And.intro @ty58 (And.intro @ty59 @ty60)))) (And.intro (And.intro (And.intro @ty61 @ty62) (And.intro @ty63 (And.intro @ty64 @ty65))) (And.intro (And.intro @ty66 @ty67) (And.intro @ty68 (And.intro @ty69 @ty70))))) (And.intro (And.intro (And.intro (And.intro @ty71 @ty72) (And.intro @ty73 (And.intro @ty74 @ty76))) (And.intro (And.intro @ty77 @ty78) (And.intro @ty79 (And.intro @ty80 @ty81)))) (And.intro (And.intro (And.intro @ty82 @ty83) (And.intro @ty84 (And.intro @ty85 @ty86))) (And.intro (And.intro @ty87 @ty88) (And.intro @ty89 (And.intro @ty90 @ty91))))))) (And.intro (And.intro (And.intro (And.intro (And.intro (And.intro @ty92 @ty93) (And.intro @ty94 @ty95)) (And.intro (And.intro @ty96 @ty97) (And.intro @ty98 (And.intro @ty99 @ty100)))) (And.intro (And.intro (And.intro @ty101 @ty102) (And.intro @ty103 (And.intro @ty105 @ty107))) (And.intro (And.intro @ty108 @ty109) (And.intro @ty110 (And.intro @ty111 @ty112))))) (And.intro (And.intro (And.intro (And.intro @ty113 @ty114) (And.intro @ty115 (And.intro @ty116 @ty117))) (And.intro (And.intro @ty118 @ty119) (And.intro @ty121 (And.intro @ty122 @ty123)))) (And.intro (And.intro (And.intro @ty125 @ty126) (And.intro @ty127 (And.intro @ty128 @ty129))) (And.intro (And.intro @ty130 @ty131) (And.intro @ty132 (And.intro @ty133 @ty134)))))) (And.intro (And.intro (And.intro (And.intro (And.intro @ty135 @ty136) (And.intro @ty137 @ty138)) (And.intro (And.intro @ty139 @ty141) (And.intro @ty142 (And.intro @ty144 @ty145)))) (And.intro (And.intro (And.intro @ty146 @ty147) (And.intro @ty148 (And.intro @ty149 @ty150))) (And.intro (And.intro @ty151 @ty153) (And.intro @ty155 (And.intro @ty156 @ty157))))) (And.intro (And.intro (And.intro (And.intro @ty158 @ty159) (And.intro @ty160 (And.intro @ty164 @ty165))) (And.intro (And.intro @ty166 @ty167) (And.intro @ty168 (And.intro @ty169 @ty170)))) (And.intro (And.intro (And.intro @ty175 @ty177) (And.intro @ty179 (And.intro @ty180 @ty181))) (And.intro (And.intro @ty182 @ty188) (And.intro @ty191 (And.intro @ty197 @ty198)))))))
theorem mixed : Tryz.prog.follows .mixedOrders = true := by kernel_rfl
end Go.Proofs.YtjkjapjcmbfkgaaGreat.Vm

/-
  Regions whose order is open, and whose last operations stand behind all others: those are done in the text's order (appends, calls that make slices).
-/
namespace Go.Proofs.YtjkjapjcmbfkgaaGreat.Vm
open Go
set_option linter.unusedVariables false
set_option linter.unusedSimpArgs false

def depsOf (o : Oper) : List Nat := (o.after.toList.filter (Region.binds .any)).map (·.on)
def reach (ops : Array Oper) : Nat → List Nat → List Nat
  | 0, R => R
  | k + 1, R => reach ops k (if R.contains k then R ++ ((ops[k]?).map depsOf).getD [] else R)
theorem reach_listed {ops : Array Oper} {listed : Array Bool} (hcl : ∀ k o, ops[k]? = some o → listed.getD k false = true → ∀ e ∈ o.after, Region.binds .any e = true → listed.getD e.on false = true) :
    ∀ (k : Nat) (R : List Nat), (∀ x ∈ R, listed.getD x false = true) → ∀ x ∈ reach ops k R, listed.getD x false = true
  | 0, R, h, x, hx => h x hx
  | k + 1, R, h, x, hx => by
    refine reach_listed hcl k _ (fun y hy => ?_) x hx
    split at hy
    · rename_i hk
      rcases List.mem_append.1 hy with hy | hy
      · exact h y hy
      · cases ho : ops[k]? with
        | none => rw [ho] at hy; simp at hy
        | some o =>
          rw [ho] at hy
          simp only [Option.map_some, Option.getD_some, depsOf, List.mem_map, List.mem_filter] at hy
          obtain ⟨e, ⟨he, hb⟩, rfl⟩ := hy
          exact hcl k o ho (h k (by simpa using hk)) e (by simpa using he) hb
    · exact h y hy
def splitOk (ops : Array Oper) (L : List (Nat × Nat)) (m : Nat) : Bool :=
  decide (m < ops.size) &&
  ((List.range ops.size).all fun k => ((ops[k]?).map fun o => o.after.all fun e => !Region.binds .any e || decide (e.on < k)).getD true) &&
  ((List.range m).all fun k => (List.range k).all fun j => pairOk ops L j k) &&
  ((List.range m).all fun j => (reach ops m (((ops[m]?).map depsOf).getD [])).contains j) &&
  ((List.range ops.size).all fun k => decide (k ≤ m) || ((ops[k]?).map fun o => ordered o (k - 1)).getD true)
theorem splitOk_at {ops : Array Oper} {L : List (Nat × Nat)} {m : Nat} (h : splitOk ops L m = true) : m < ops.size ∧
    (∀ k o, ops[k]? = some o → ∀ e ∈ o.after, Region.binds .any e = true → e.on < k) ∧
    (∀ k o, k < m → ops[k]? = some o → ∀ j x, j < k → ops[j]? = some x → ordered o j = true ∨ (Oper.apart ops x o = true ∧ (memOk x o = true ∨ (j, k) ∈ L))) ∧
    (∀ o, ops[m]? = some o → ∀ listed : Array Bool, (∀ k o, ops[k]? = some o → listed.getD k false = true → ∀ e ∈ o.after, Region.binds .any e = true → listed.getD e.on false = true) → (∀ e ∈ o.after, Region.binds .any e = true → listed.getD e.on false = true) → ∀ j, j < m → listed.getD j false = true) ∧
    (∀ k o, m < k → ops[k]? = some o → ordered o (k - 1) = true) := by
  unfold splitOk at h
  simp only [Bool.and_eq_true, decide_eq_true_eq] at h
  obtain ⟨⟨⟨⟨h1, h2⟩, h3⟩, h4⟩, h5⟩ := h
  refine ⟨h1, fun k o ho e he hb => ?_, fun k o hk ho j x hj hx => ?_, fun o ho listed hcl hd j hj => ?_, fun k o hk ho => ?_⟩
  · have hks : k < ops.size := (Array.getElem?_eq_some_iff.1 ho).1
    have := List.all_eq_true.1 h2 k (by simpa using hks)
    rw [ho] at this
    simp only [Option.map_some, Option.getD_some, Array.all_eq_true_iff_forall_mem] at this
    have := this e he
    rw [hb] at this
    simpa using this
  · have := List.all_eq_true.1 (List.all_eq_true.1 h3 k (by simpa using hk)) j (by simpa using hj)
    unfold pairOk at this
    rw [hx, ho] at this
    simpa using this
  · have := List.all_eq_true.1 h4 j (by simpa using hj)
    rw [ho] at this
    refine reach_listed hcl m _ (fun x hx => ?_) j (by simpa using this)
    simp only [Option.map_some, Option.getD_some, depsOf, List.mem_map, List.mem_filter] at hx
    obtain ⟨e, ⟨he, hb⟩, rfl⟩ := hx
    exact hd e (by simpa using he) hb
  · have hks : k < ops.size := (Array.getElem?_eq_some_iff.1 ho).1
    have := List.all_eq_true.1 h5 k (by simpa using hks)
    rw [ho] at this
    simp only [Option.map_some, Option.getD_some, Bool.or_eq_true, decide_eq_true_eq] at this
    exact this.resolve_left (by omega)

section
variable {P : Program} {pins : List Nat} {ops : Array Oper}
structure GoodM (P : Program) (pins : List Nat) (ops : Array Oper) (L : List (Nat × Nat)) (m : Nat) (fs : List Eff) (s0 : St) : Prop where
  len : fs.length = m
  does : ∀ k f o, fs[k]? = some f → ops[k]? = some o → Does P pins ops o f (Dst (fun i => decide (i < k)) 0 fs s0)
  sep : ∀ j k f g, (j, k) ∈ L → fs[j]? = some f → fs[k]? = some g → sepP (f.rd, f.wi) (g.rd, g.wi)

theorem anyM_sound {L : List (Nat × Nat)} {fs : List Eff} {s0 : St} {fr : Fr} {Q : Exit → Act → World → Prop} (hp : fr.pins = pins) {m : Nat} (hok : splitOk ops L m = true) (hg : GoodM P pins ops L m fs s0) (H : ∀ (fuel : Nat) (listed : Array Bool) (a : Act) (w : World) (ρ : Pl), listed.size = ops.size → (∀ j, j < ops.size → listed.getD j false = decide (j < m)) → unl listed ops.size ≤ fuel → Rep fr ρ (Dst (fun _ => true) 0 fs s0) a w → wpAny P .any ops Q fuel listed a w) :
    ∀ (fuel : Nat) (listed : Array Bool) (a : Act) (w : World) (ρ : Pl), listed.size = ops.size → (∀ k o, ops[k]? = some o → listed.getD k false = true → ∀ e ∈ o.after, Region.binds .any e = true → listed.getD e.on false = true) → (∀ j, m ≤ j → listed.getD j false = false) →
      unl listed ops.size ≤ fuel → Rep fr ρ (Dst (fun i => listed.getD i false) 0 fs s0) a w → wpAny P .any ops Q fuel listed a w := by
  have gd : ∀ (listed : Array Bool) (i : Nat), listed.size = ops.size → i < ops.size → listed.getD i true = listed.getD i false := by
    intro listed i hs hi
    have : i < listed.size := by omega
    simp [this]
  obtain ⟨hm, hdeps, hpairs, hreach, hchain⟩ := splitOk_at hok
  have emp : ∀ (listed : Array Bool), listed.size = ops.size → Region.ready .any ops listed = [] → ∀ j, j < ops.size → listed.getD j false = true := by
    intro listed hs hr
    have key : ∀ n j, j < n → j < ops.size → listed.getD j false = true := by
      intro n
      induction n with
      | zero => intro j hj; omega
      | succ n ih =>
        intro j hj hjs
        cases hl : listed.getD j false with
        | true => rfl
        | false =>
          exfalso
          have ho : ops[j]? = some ops[j] := Array.getElem?_eq_getElem hjs
          have : j ∈ Region.ready .any ops listed := by
            rw [mem_ready]
            refine ⟨by rw [gd listed j hs hjs]; exact hl, _, ho, fun e he hb => ?_⟩
            have := hdeps j _ ho e he hb
            exact ih e.on (by omega) (by omega)
          rw [hr] at this
          cases this
    exact fun j hj => key (j + 1) j (by omega) hj
  have full : ∀ (fuel : Nat) (listed : Array Bool) (a : Act) (w : World) (ρ : Pl), listed.size = ops.size → (∀ j, m ≤ j → listed.getD j false = false) → (∀ j, j < m → listed.getD j false = true) → unl listed ops.size ≤ fuel → Rep fr ρ (Dst (fun i => listed.getD i false) 0 fs s0) a w → wpAny P .any ops Q fuel listed a w := by
    intro fuel listed a w ρ hs h1 h2 hu hr
    refine H fuel listed a w ρ hs (fun j _ => ?_) hu ?_
    · by_cases hj : j < m
      · rw [h2 j hj]; simp [hj]
      · rw [h1 j (by omega)]; simp; omega
    · rw [Dst_congr (S := fun _ => true) (S' := fun i => listed.getD i false)]
      · exact hr
      · intro j hj
        rw [hg.len] at hj
        simp only [Nat.zero_add]
        exact (h2 j hj).symm
  intro fuel
  induction fuel with
  | zero =>
    intro listed a w ρ hs hcl hup hu hrep
    exfalso
    have hmf := hup m (Nat.le_refl _)
    have : 0 < unl listed ops.size := by
      unfold unl
      rw [List.countP_pos_iff]
      exact ⟨m, by simpa using hm, by rw [gd listed m hs hm, hmf]; rfl⟩
    omega
  | succ fuel ih =>
    intro listed a w ρ hs hcl hup hu hrep
    by_cases hall : ∀ j, j < m → listed.getD j false = true
    · exact full _ listed a w ρ hs hup hall hu hrep
    refine ⟨fun hr => absurd (emp listed hs hr m hm) (by rw [hup m (Nat.le_refl _)]; simp), fun k hk => ?_⟩
    rw [mem_ready] at hk
    obtain ⟨hk1, o, ho, hdep⟩ := hk
    have hks : k < ops.size := (Array.getElem?_eq_some_iff.1 ho).1
    have hk0 : listed.getD k false = false := by rw [← gd listed k hs hks]; exact hk1
    have hkm : k < m := by
      rcases Nat.lt_trichotomy k m with h | h | h
      · exact h
      · subst h
        exact absurd (hreach o ho listed hcl hdep) hall
      · exfalso
        have h1 := hchain k o h ho
        unfold ordered at h1
        rw [Array.any_eq_true'] at h1
        obtain ⟨e, he, hb⟩ := h1
        simp only [Bool.and_eq_true, beq_iff_eq] at hb
        have h2 := hdep e he hb.1
        rw [hb.2, hup (k - 1) (by omega)] at h2
        cases h2
    have hkl : k < listed.size := by omega
    obtain ⟨f, hf⟩ : ∃ f, fs[k]? = some f := ⟨_, List.getElem?_eq_getElem (by rw [hg.len]; exact hkm)⟩
    obtain ⟨hd1, hd2, hd3, hd4⟩ := hg.does k f o hf ho
    have hlisted : ∀ j, ordered o j = true → listed.getD j false = true := by
      intro j hj
      unfold ordered at hj
      rw [Array.any_eq_true'] at hj
      obtain ⟨e, he, hb⟩ := hj
      simp only [Bool.and_eq_true, beq_iff_eq] at hb
      rw [← hb.2]
      exact hdep e he hb.1
    have hopen : ∀ j x, ops[j]? = some x → ordered x k = true → listed.getD j false = false := by
      intro j x hx hj
      cases hl : listed.getD j false with
      | false => rfl
      | true =>
        exfalso
        unfold ordered at hj
        rw [Array.any_eq_true'] at hj
        obtain ⟨e, he, hb⟩ := hj
        simp only [Bool.and_eq_true, beq_iff_eq] at hb
        have := hcl j x hx hl e he hb.1
        rw [hb.2, hk0] at this
        cases this
    -- whoever else is about: apart, or on the right side
    have rel : ∀ j g x, j ≠ k → fs[j]? = some g → ops[j]? = some x → (listed.getD j false = decide (j < k)) ∨
        ((∀ t, g.dst = some t → t ∉ o.looksAt ops) ∧ (∀ d, g.dst = some d → f.dst ≠ some d) ∧ (∀ i, g.wi = some i → f.rd ≠ some i ∧ f.wi ≠ some i)) := by
      intro j g x hjk hgj hxj
      obtain ⟨hx1, hx2, hx3, _⟩ := hg.does j g x hgj hxj
      rcases Nat.lt_or_gt_of_ne hjk with hlt | hgt
      · rcases hpairs k o hkm ho j x hlt hxj with h1 | ⟨h1, h2⟩
        · exact .inl (by rw [hlisted j h1]; simp [hlt])
        · right
          obtain ⟨a1, a2, a3⟩ := Oper.apart_spec h1
          refine ⟨fun t ht => a1 t (hx1 ▸ ht), fun d hd => by rw [hd1]; exact a2 d (hx1 ▸ hd), fun i hi => ?_⟩
          rcases h2 with h2 | h2
          · have hxw : Op.mw x.op = true := hx3 (by rw [hi]; simp)
            unfold memOk at h2
            rw [hxw] at h2
            simp only [Bool.true_and, Bool.not_or, Bool.and_eq_true, Bool.not_eq_true'] at h2
            refine ⟨fun hr => ?_, fun hr => ?_⟩
            · have := hd2 (by rw [hr]; simp)
              rw [this] at h2; exact absurd h2.1.1 (by simp)
            · have := hd3 (by rw [hr]; simp)
              rw [this] at h2; exact absurd h2.1.2 (by simp)
          · have h3 := (hg.sep j k g f h2 hgj hf).1
            simp only [hi] at h3
            rcases h3 with h3 | h3
            · cases h3
            · exact ⟨fun h => h3.1 h.symm, fun h => h3.2 h.symm⟩
      · have hjm : j < m := by
          have := (List.getElem?_eq_some_iff.1 hgj).1
          rwa [hg.len] at this
        rcases hpairs j x hjm hxj k o hgt ho with h1 | ⟨h1, h2⟩
        · exact .inl (by rw [hopen j x hxj h1]; simp; omega)
        · right
          obtain ⟨a1, a2, a3⟩ := Oper.apart_spec h1
          refine ⟨fun t ht => a3 t (hx1 ▸ ht), fun d hd hfd => a2 d (hd1 ▸ hfd) (hx1 ▸ hd), fun i hi => ?_⟩
          rcases h2 with h2 | h2
          · have hxw : Op.mw x.op = true := hx3 (by rw [hi]; simp)
            unfold memOk at h2
            rw [hxw] at h2
            simp only [Bool.or_true, Bool.and_true, Bool.not_or, Bool.and_eq_true, Bool.not_eq_true'] at h2
            refine ⟨fun hr => ?_, fun hr => ?_⟩
            · have := hd2 (by rw [hr]; simp)
              rw [this] at h2; exact absurd h2.2 (by simp)
            · have := hd3 (by rw [hr]; simp)
              rw [this] at h2; exact absurd h2.1 (by simp)
          · obtain ⟨h4, h3⟩ := hg.sep k j f g h2 hf hgj
            simp only [hi] at h3 h4
            refine ⟨fun h => ?_, fun h => ?_⟩
            · rcases h3 with h3 | h3
              · cases h3
              · exact h3 h.symm
            · rcases h4 with h4 | h4
              · rw [h] at h4; cases h4
              · exact h4.2 h
    have opAt : ∀ j g, fs[j]? = some g → ∃ x, ops[j]? = some x := fun j g hj => by
      have : j < fs.length := (List.getElem?_eq_some_iff.1 hj).1
      exact ⟨_, Array.getElem?_eq_getElem (by rw [hg.len] at this; omega)⟩
    have henv : ∀ t ∈ o.looksAt ops, (Dst (fun i => listed.getD i false) 0 fs s0).env[t]? = (Dst (fun i => decide (i < k)) 0 fs s0).env[t]? := by
      intro t ht
      refine Dst_env fs 0 s0 s0 rfl fun j g hj hd => ?_
      simp only [Nat.zero_add]
      by_cases hjk : j = k
      · subst hjk; rw [hk0]; simp
      · obtain ⟨x, hx⟩ := opAt j g hj
        rcases rel j g x hjk hj hx with h1 | h1
        · exact h1
        · exact absurd ht (h1.1 t hd)
    have hhp : ∀ i, f.rd = some i ∨ f.wi = some i → (Dst (fun i => listed.getD i false) 0 fs s0).hp[i]? = (Dst (fun i => decide (i < k)) 0 fs s0).hp[i]? := by
      intro i hi
      refine Dst_hp fs 0 s0 s0 rfl fun j g hj hd => ?_
      simp only [Nat.zero_add]
      by_cases hjk : j = k
      · subst hjk; rw [hk0]; simp
      · obtain ⟨x, hx⟩ := opAt j g hj
        rcases rel j g x hjk hj hx with h1 | h1
        · exact h1
        · obtain ⟨h2, h3⟩ := h1.2.2 i hd
          rcases hi with hi | hi
          · exact absurd hi h2
          · exact absurd hi h3
    have hins : Dst (fun i => (listed.setIfInBounds k true).getD i false) 0 fs s0 = f.app (Dst (fun i => listed.getD i false) 0 fs s0) := by
      refine Dst_insert fs k 0 s0 hf (by simpa using hk0) (by simp [hkl]) (fun j hj => ?_) fun j g hj hgj hS => ?_
      · simp only [Nat.zero_add]
        exact getD_set_ne false (Ne.symm hj)
      · simp only [Nat.zero_add] at hS
        obtain ⟨x, hx⟩ := opAt j g hgj
        rcases rel j g x (by omega) hgj hx with h1 | h1
        · rw [h1] at hS; simp at hS; omega
        · exact ⟨fun d hd hgd => h1.2.1 d hgd hd, fun i hi hgi => (h1.2.2 i hgi).2 hi⟩
    have next : ∀ a' w', Ends fr (· = f.app (Dst (fun i => listed.getD i false) 0 fs s0)) a' w' → wpAny P .any ops Q fuel (listed.setIfInBounds k true) a' w' := by
      rintro a' w' ⟨s', ρ', rfl, hrep'⟩
      refine ih _ a' w' ρ' (by simpa using hs) ?_ ?_ ?_ (by rw [hins]; exact hrep')
      · intro j x hx hl e he hb
        by_cases hjk : j = k
        · subst hjk
          rw [ho] at hx
          cases hx
          exact getD_set_true (hdep e he hb)
        · rw [getD_set_ne false (Ne.symm hjk)] at hl
          exact getD_set_true (hcl j x hx hl e he hb)
      · intro j hj
        rw [getD_set_ne false (by omega)]
        exact hup j hj
      · have : unl (listed.setIfInBounds k true) ops.size < unl listed ops.size := by
          refine countP_lt (fun i hi h => ?_) ⟨k, by simpa using hks, by rw [hk1]; rfl, by simp [hkl]⟩
          by_cases hik : i = k
          · subst hik; simp [hkl] at h
          · rw [getD_set_ne true (Ne.symm hik)] at h; exact h
        omega
    unfold wpOp
    rw [ho]
    simp only
    rcases hd4 with ⟨hw, hfit⟩ | ⟨hw, hfe⟩
    · rw [← wantB_congr henv] at hw
      rw [if_pos (wantB_sound hrep.env hw)]
      refine .inl (Oper.wp_mono next (hfit _ _ (fun x hx => ?_) hhp fr ρ a w Q hp hrep))
      cases x with
      | tmp t =>
        simp only [ev, List.getD_eq_getElem?_getD]
        rw [henv t (List.mem_append_left _ (List.mem_filterMap.2 ⟨.tmp t, hx, rfl⟩))]
      | _ => rfl
    · rw [← wantB_congr henv] at hw
      rw [if_neg (by rw [wantB_sound hrep.env hw]; simp)]
      refine next _ _ ⟨_, ρ, rfl, ?_⟩
      have := hrep.put o.dst (x := .und) (v := undef) (by simp only [Rp])
      rw [hfe]
      exact this


/-- The operations from the m-th on, in the text's order. -/
theorem chain_sound {fr : Fr} (hp : fr.pins = pins) {L : List (Nat × Nat)} {m : Nat} (hok : splitOk ops L m = true) {K : St → Prop} {Q : Exit → Act → World → Prop} (hQ : ∀ a w, Ends fr K a w → Q .normal a w) :
    ∀ (rest : List Oper) (i : Nat), m ≤ i → ops.toList.drop i = rest → ∀ (fuel : Nat) (listed : Array Bool) (s : St) (a : Act) (w : World) (ρ : Pl), listed.size = ops.size → (∀ j, j < ops.size → listed.getD j false = decide (j < i)) → unl listed ops.size ≤ fuel →
      Rep fr ρ s a w → opsW P pins ops rest s K → wpAny P .any ops Q fuel listed a w := by
  obtain ⟨hm, hdeps, hpairs, hreach, hchain⟩ := splitOk_at hok
  have gd : ∀ (listed : Array Bool) (i : Nat), listed.size = ops.size → i < ops.size → listed.getD i true = listed.getD i false := by
    intro listed i hs hi
    have : i < listed.size := by omega
    simp [this]
  intro rest
  induction rest with
  | nil =>
    intro i hi hrest fuel listed s a w ρ hs hl hu hr hk
    have hsz : ops.size ≤ i := by
      have := congrArg List.length hrest
      simp at this
      omega
    have hnone : Region.ready .any ops listed = [] := by
      refine List.eq_nil_iff_forall_not_mem.2 fun k hk => ?_
      rw [mem_ready] at hk
      obtain ⟨h1, o, ho, _⟩ := hk
      have hks : k < ops.size := (Array.getElem?_eq_some_iff.1 ho).1
      rw [gd listed k hs hks, hl k hks] at h1
      simp at h1
      omega
    have hq : Q .normal a w := hQ a w ⟨s, ρ, hk, hr⟩
    cases fuel with
    | zero => exact ⟨hnone, hq⟩
    | succ fuel => exact ⟨fun _ => hq, fun k hk => by rw [hnone] at hk; cases hk⟩
  | cons o rest ih =>
    intro i hi hrest fuel listed s a w ρ hs hl hu hr hk
    have his : i < ops.size := by
      rcases Nat.lt_or_ge i ops.size with h | h
      · exact h
      · rw [List.drop_eq_nil_of_le (by simpa using h)] at hrest
        cases hrest
    have hoi : ops[i]? = some o := by
      have h1 : (ops.toList.drop i)[0]? = some o := by rw [hrest]; rfl
      rw [List.getElem?_drop] at h1
      simpa using h1
    have hnext : ops.toList.drop (i + 1) = rest := by
      have h1 : (ops.toList.drop i).drop 1 = rest := by rw [hrest]; rfl
      rw [List.drop_drop] at h1
      exact h1
    have hil : i < listed.size := by omega
    have hli : listed.getD i true = false := by rw [gd listed i hs his, hl i his]; simp
    have hlt : unl (listed.setIfInBounds i true) ops.size < unl listed ops.size := by
      refine countP_lt (fun j hj h => ?_) ⟨i, by simpa using his, by rw [hli]; rfl, by simp [hil]⟩
      by_cases hik : j = i
      · subst hik; simp [hil] at h
      · rw [getD_set_ne true (Ne.symm hik)] at h; exact h
    cases fuel with
    | zero => omega
    | succ fuel =>
    have hl' : ∀ j, j < ops.size → (listed.setIfInBounds i true).getD j false = decide (j < i + 1) := by
      intro j hj
      by_cases hji : j = i
      · subst hji; simp [hil]
      · rw [getD_set_ne false (Ne.symm hji), hl j hj]
        simp only [decide_eq_decide]
        omega
    have go : ∀ (s' : St) (a' : Act) (w' : World) (ρ' : Pl), Rep fr ρ' s' a' w' → opsW P pins ops rest s' K → wpAny P .any ops Q fuel (listed.setIfInBounds i true) a' w' :=
      fun s' a' w' ρ' hr' hk' => ih (i + 1) (by omega) hnext fuel _ s' a' w' ρ' (by simpa using hs) hl' (by omega) hr' hk'
    refine ⟨fun hn => ?_, fun k hkr => ?_⟩
    · exfalso
      have : i ∈ Region.ready .any ops listed := by
        rw [mem_ready]
        refine ⟨hli, o, hoi, fun e he hb => ?_⟩
        have := hdeps i o hoi e he hb
        rw [hl e.on (by omega)]
        simpa using this
      rw [hn] at this
      cases this
    · have hki : k = i := by
        rw [mem_ready] at hkr
        obtain ⟨h1, x, hx, hd⟩ := hkr
        have hks : k < ops.size := (Array.getElem?_eq_some_iff.1 hx).1
        rw [gd listed k hs hks, hl k hks] at h1
        have hik : i ≤ k := by simpa using h1
        rcases Nat.lt_or_ge i k with h | h
        · exfalso
          have h2 := hchain k x (by omega) hx
          unfold ordered at h2
          rw [Array.any_eq_true'] at h2
          obtain ⟨e, he, hb⟩ := h2
          simp only [Bool.and_eq_true, beq_iff_eq] at hb
          have h3 := hd e he hb.1
          rw [hb.2, hl (k - 1) (by omega)] at h3
          simp at h3
          omega
        · omega
      subst hki
      unfold wpOp
      rw [hoi]
      simp only
      unfold opsW at hk
      have step : ∀ (hw : Region.wanted o (yielded ops a.tmps) = true), (opW P pins o s fun s' => opsW P pins ops rest s' K) → (if Region.wanted o (yielded ops a.tmps) = true then o.wp P a w (wpAny P .any ops Q fuel (listed.setIfInBounds k true)) Q ∨ (o.asks P a w ∧ LetsOut Q) else wpAny P .any ops Q fuel (listed.setIfInBounds k true) (a.put o.dst undef) w) := by
        intro hw hk
        rw [if_pos hw]
        refine .inl (Oper.wp_mono (fun a' w' he => ?_) (opW_sound (Q := Q) hp hr hk))
        obtain ⟨s', ρ', h2, h3⟩ := he
        exact go s' a' w' ρ' h3 h2
      have skip : ∀ (hw : Region.wanted o (yielded ops a.tmps) = false), opsW P pins ops rest (s.ret o.dst .und) K → (if Region.wanted o (yielded ops a.tmps) = true then o.wp P a w (wpAny P .any ops Q fuel (listed.setIfInBounds k true)) Q ∨ (o.asks P a w ∧ LetsOut Q) else wpAny P .any ops Q fuel (listed.setIfInBounds k true) (a.put o.dst undef) w) := by
        intro hw hk
        rw [if_neg (by rw [hw]; simp)]
        exact go _ _ w ρ (hr.put o.dst (x := .und) (v := undef) (by simp only [Rp])) hk
      split at hk
      · rename_i hg
        exact step (by simp [Region.wanted, hg]) hk
      · rename_i j want hg
        obtain ⟨g1, g2⟩ := guard_sound (ops := ops) hr.env j
        split at hk
        · rename_i b hb
          have hy := g1 b hb
          by_cases hbw : b = want
          · have h1 := hk.1 hbw
            rw [← hbw, known_eq hb] at h1
            exact step (by simp [Region.wanted, hg, hy, hbw]) h1
          · have hb2 : b = !want := by cases b <;> cases want <;> simp_all
            have h2 := hk.2 hb2
            rw [← hb2, known_eq hb] at h2
            refine skip ?_ h2
            rw [hb2] at hy
            simp [Region.wanted, hg, hy]
        · rename_i hb
          have hy := g2 hb
          exact skip (by simp [Region.wanted, hg, hy]) hk
        · exact hk.elim

theorem W_regionS (hm : P.follows .mixedOrders = true) {i : Nat} {Q : Exit → St → Prop} {s : St} (m : Nat) (L : List (Nat × Nat)) (hok : splitOk ops L m = true) (h : regV P ops L (ops.toList.take m) s [] fun s' => opsW P pins ops (ops.toList.drop m) s' (Q .normal)) : W P pins (.region i ops true) Q s := by
  intro fr ρ a w hp hr
  obtain ⟨fs, h1, h2, h3, h4⟩ := regV_steps (pins := pins) _ _ _ h
  have hms := (splitOk_at hok).1
  have hlen : fs.length = m := by
    rw [h1, List.length_take, Array.length_toList]; omega
  have hg : GoodM P pins ops L m fs s := by
    refine ⟨hlen, fun k f o hk ho => h2 k f o hk ?_, fun j k f g hj hf hg => ?_⟩
    · have hkm : k < m := by have := (List.getElem?_eq_some_iff.1 hk).1; omega
      rw [List.getElem?_take, if_pos hkm]
      simpa using ho
    · have := h3 (j, k) hj
      simp only [List.nil_append, List.getElem?_map, hf, hg, Option.map_some] at this
      exact this
  refine wp_region_any hm (anyM_sound (fr := fr) hp hok hg (fun fuel listed a' w' ρ' hs hl hu hr' => ?_) ops.size _ a _ ρ (by simp) ?_ ?_ ?_ ?_)
  · exact chain_sound hp hok (fun a w he => he) _ m (Nat.le_refl _) rfl fuel listed _ a' w' ρ' hs hl hu hr' h4
  · intro k o ho hl
    simp only [Array.getD_eq_getD_getElem?, Array.getElem?_replicate] at hl
    split at hl <;> simp at hl
  · intro j _
    simp only [Array.getD_eq_getD_getElem?, Array.getElem?_replicate]
    split <;> rfl
  · unfold unl
    refine Nat.le_trans List.countP_le_length (by simp)
  · have : Dst (fun i => (Array.replicate ops.size false).getD i false) 0 fs s = s := by
      rw [Dst_congr (S' := fun _ => false) _ _ _ (fun j _ => by
        simp only [Array.getD_eq_getD_getElem?, Array.getElem?_replicate]
        split <;> rfl)]
      have : ∀ (l : List Eff) (k : Nat), Dst (fun _ => false) k l s = s := by
        intro l
        induction l with
        | nil => intro k; rfl
        | cons g l ih => intro k; unfold Dst; simp [ih]
      exact this _ _
    rw [this]
    exact hr.heapEq rfl rfl rfl rfl
/-- What follows the first operations of such a region. -/
def thenO (P : Program) (pins : List Nat) (ops : Array Oper) (rest : List Oper) (K : St → Prop) : St → Prop := fun s' => opsW P pins ops rest s' K
theorem thenO_ap {rest : List Oper} {K : St → Prop} {s : St} : thenO P pins ops rest K s = opsW P pins ops rest s K := id rfl
theorem W_seqS (hm : P.follows .mixedOrders = true) {i : Nat} {Q : Exit → St → Prop} {y : Code} {s : St} (m : Nat) (L : List (Nat × Nat)) (hok : splitOk ops L m = true) (h : ∀ K : St → Prop, (∀ s, W P pins y Q s → K s) → regV P ops L (ops.toList.take m) s [] (thenO P pins ops (ops.toList.drop m) K)) : W P pins (.seq (.region i ops true) y) Q s :=
  W_seq (W_regionS hm m L hok (h (W P pins y Q) fun _ h => h))
theorem W_regS (hm : P.follows .mixedOrders = true) {i : Nat} {Q : Exit → St → Prop} {s : St} (m : Nat) (L : List (Nat × Nat)) (hok : splitOk ops L m = true) (h : ∀ K : St → Prop, (∀ s, Q .normal s → K s) → regV P ops L (ops.toList.take m) s [] (thenO P pins ops (ops.toList.drop m) K)) : W P pins (.region i ops true) Q s :=
  W_regionS hm m L hok (h (Q .normal) fun _ h => h)
end
end Go.Proofs.YtjkjapjcmbfkgaaGreat.Vm

/-
  Regions in the text's order: the first operations by their effects, the last ones as they come.
-/
namespace Go.Proofs.YtjkjapjcmbfkgaaGreat.Vm
open Go
set_option linter.unusedVariables false
set_option linter.unusedSimpArgs false
section
variable {P : Program} {pins : List Nat} {ops : Array Oper}
end
end Go.Proofs.YtjkjapjcmbfkgaaGreat.Vm

/-
  A nil cell of an object becomes the name of an object without rows; calls whose result is a window of the caller's object.
-/
namespace Go.Proofs.YtjkjapjcmbfkgaaGreat.Vm
open Go
set_option linter.unusedVariables false
set_option linter.unusedSimpArgs false

theorem Le_nilO {pins : List Nat} {e : List AV} {hp : List Ob} (i r c d : Nat) (T : TypeId) (k : Nat) (pf : Bool) {T0 : TypeId} {k0 : Nat} {rows : List (List AV)} {row : List AV} (hi : hp[i]? = some (.arr T0 k0 false rows)) (hrow : rows[r]? = some row) (hc : row[c]? = some .nils) (hd : hp[d]? = some .dead) :
    Le pins ⟨e, hp⟩ ⟨e, (hp.set d (.arr T k pf [])).set i (.arr T0 k0 false (rows.set r (row.set c (.sref d 0 0))))⟩ := by
  intro fr ρ a w hpins hr
  have hr' := hr.nilObj (d := d) hd T k pf
  have hid : i ≠ d := fun h => by rw [h, hd] at hi; cases hi
  have hil : i < hp.length := (List.getElem?_eq_some_iff.1 hi).1
  refine ⟨_, { hr' with heap := fun j => ?_ }⟩
  by_cases hj : j = i
  · subst hj
    have h0 := hr'.heap j
    rw [show (St.mk e (hp.set d (.arr T k pf []))).hp.getD j .dead = .arr T0 k0 false rows by
      simp only [List.getD_eq_getElem?_getD]
      rw [List.getElem?_set_ne (Ne.symm hid), hi]; rfl] at h0
    have hg : (St.mk e ((hp.set d (.arr T k pf [])).set j (.arr T0 k0 false (rows.set r (row.set c (.sref d 0 0)))))).hp.getD j .dead = .arr T0 k0 false (rows.set r (row.set c (.sref d 0 0))) := by
      simp [List.getD_eq_getElem?_getD, hil]
    rw [hg]
    match hp' : (ρ.put d (some .nil)) j, h0 with
    | none, h0 => exact h0.elim
    | some .nil, h0 =>
      have : rows = [] := h0
      rw [this] at hrow; cases hrow
    | some (.mapb b), h0 => exact h0.elim
    | some (.blk b s cap len), h0 =>
      obtain ⟨h1, h2, vss, rest, h3, h4, h5, h6, h7, h8⟩ := h0
      obtain ⟨vs, hv1, hv2⟩ := h4.get hrow
      obtain ⟨v, hv3, hv4⟩ := hv2.get hc
      simp only [Rp] at hv4
      have hsr : Rp w (Av fr.F (ρ.put d (some .nil))) (ρ.put d (some .nil)) (.sref d 0 0) v := by
        simp only [Rp]; exact .inl ⟨Pl.put_same _ _ _, by simp, by simp, hv4⟩
      have e1 : vs.set c v = vs := by
        obtain ⟨hlt, he⟩ := List.getElem?_eq_some_iff.1 hv3
        rw [← he, List.set_getElem_self]
      have e2 : vss.set r vs = vss := by
        obtain ⟨hlt, he⟩ := List.getElem?_eq_some_iff.1 hv1
        rw [← he, List.set_getElem_self]
      have h9 := hv2.set c hsr
      rw [e1] at h9
      have h10 := h4.set r h9
      rw [e2] at h10
      refine ⟨h1, by simpa using h2, vss, rest, h3, h10, ?_, h6, by simpa using h7, h8⟩
      intro x hx
      rcases List.mem_or_eq_of_mem_set hx with hx | rfl
      · exact h5 x hx
      · rw [List.length_set]; exact h5 row (List.mem_of_getElem? hrow)
  · have h0 := hr'.heap j
    have hg : (St.mk e ((hp.set d (.arr T k pf [])).set i (.arr T0 k0 false (rows.set r (row.set c (.sref d 0 0)))))).hp.getD j .dead = (St.mk e (hp.set d (.arr T k pf []))).hp.getD j .dead := by
      simp only [List.getD_eq_getElem?_getD]
      rw [List.getElem?_set_ne (Ne.symm hj)]
    rw [hg]
    exact h0

/-- A function that writes into its first argument's object, and may answer a window of it. -/
def Mut2 (P : Program) (g : FuncId) (T : TypeId) (k : Nat) (rows : List (List AV)) (off n : Nat) (rest : List AV) (R : AV → List (List AV) → Prop) : Prop :=
  ∃ fn c, P.funcs[g]? = some fn ∧ fn.body = some c ∧ 0 < fn.ntmps ∧ W P [0] c (mutQ2 P fn.results.toList T k R) ⟨.sref 0 off n :: AV.datas rest ++ List.replicate (fn.ntmps - (rest.length + 1)) .und, (List.replicate fn.ntmps .dead).set 0 (.arr T k true rows)⟩
theorem mut2_of_W {P : Program} {g : FuncId} {fn : Func} {c : Code} {T : TypeId} {k : Nat} {rows : List (List AV)} {off n : Nat} {rest : List AV} {R : AV → List (List AV) → Prop} (hf : P.funcs[g]? = some fn) (hb : fn.body = some c) {rs : List ResultVar} (hrs : fn.results.toList = rs) {nt : Nat} (hn : fn.ntmps = nt) (hn0 : 0 < nt)
    (h : W P [0] c (mutQ2 P rs T k R) ⟨.sref 0 off n :: AV.datas rest ++ List.replicate (nt - (rest.length + 1)) .und, (List.replicate nt .dead).set 0 (.arr T k true rows)⟩) : Mut2 P g T k rows off n rest R := by
  subst hrs; subst hn
  exact ⟨fn, c, hf, hb, hn0, h⟩
theorem call_mut2C {P : Program} {pins : List Nat} {g : FuncId} {s : St} {i off n : Nat} {rest : List AV} {T : TypeId} {k : Nat} {rows : List (List AV)} {R : AV → List (List AV) → Prop} (hm : Mut2 P g T k rows off n rest R) (hi : s.hp[i]? = some (.arr T k true rows)) (hpure : AV.pures rest = true)
    {K : AV → St → Prop} (hk : ∀ r rows', R r rows' → K (r.ren i) (s.seth i (.arr T k true rows'))) : CallOk P pins g (.sref i off n :: rest) s K := by
  obtain ⟨fn, c, hf, hb, hn0, h⟩ := hm
  exact call_mut2 hf hb rfl rfl hn0 hi hpure h hk
end Go.Proofs.YtjkjapjcmbfkgaaGreat.Vm

/-
  Natural numbers as limbs of 32 bits, the lowest first: plain laws.
-/
namespace Go.Proofs.YtjkjapjcmbfkgaaGreat.Vm
open Go
set_option linter.unusedVariables false
set_option linter.unusedSimpArgs false

def val : List Nat → Nat
  | [] => 0
  | x :: l => x + 4294967296 * val l
def Limbs (l : List Nat) : Prop := ∀ x ∈ l, x < 4294967296
def limbs (n : Nat) : List Nat := if h : n = 0 then [] else (n % 4294967296) :: limbs (n / 4294967296)
  termination_by n
  decreasing_by omega

/-- A number's limbs as Go data. -/
def cN (n : Nat) : AV := cNat (limbs n)
theorem limbs_zero : limbs 0 = [] := by unfold limbs; simp
theorem limbs_pos {n : Nat} (h : n ≠ 0) : limbs n = (n % 4294967296) :: limbs (n / 4294967296) := by
  conv => lhs; unfold limbs
  simp [h]
theorem limbs_limbs (n : Nat) : Limbs (limbs n) := by
  induction n using Nat.strongRecOn with
  | _ n ih =>
    by_cases h : n = 0
    · subst h; rw [limbs_zero]; intro x hx; cases hx
    · rw [limbs_pos h]
      intro x hx
      rcases List.mem_cons.1 hx with rfl | hx
      · omega
      · exact ih _ (by omega) x hx
theorem val_limbs (n : Nat) : val (limbs n) = n := by
  induction n using Nat.strongRecOn with
  | _ n ih =>
    by_cases h : n = 0
    · subst h; rw [limbs_zero]; rfl
    · rw [limbs_pos h, val, ih _ (by omega)]
      omega
theorem val_append (l m : List Nat) : val (l ++ m) = val l + 4294967296 ^ l.length * val m := by
  induction l with
  | nil => simp [val]
  | cons x l ih =>
    simp only [List.cons_append, val, ih, List.length_cons, Nat.pow_succ, Nat.mul_add]
    rw [Nat.mul_comm (4294967296 ^ l.length) 4294967296, Nat.mul_assoc, Nat.add_assoc]
theorem val_lt {l : List Nat} (h : Limbs l) : val l < 4294967296 ^ l.length := by
  induction l with
  | nil => simp [val]
  | cons x l ih =>
    have h1 := h x List.mem_cons_self
    have h2 := ih fun y hy => h y (List.mem_cons_of_mem _ hy)
    simp only [val, List.length_cons, Nat.pow_succ]
    omega
theorem val_zeros (n : Nat) : val (List.replicate n 0) = 0 := by
  induction n with
  | zero => rfl
  | succ n ih => simp [List.replicate_succ, val, ih]
theorem Limbs.tail {x : Nat} {l : List Nat} (h : Limbs (x :: l)) : Limbs l := fun y hy => h y (List.mem_cons_of_mem _ hy)
theorem Limbs.take {l : List Nat} (h : Limbs l) (n : Nat) : Limbs (l.take n) := fun y hy => h y (List.mem_of_mem_take hy)
theorem Limbs.drop {l : List Nat} (h : Limbs l) (n : Nat) : Limbs (l.drop n) := fun y hy => h y (List.mem_of_mem_drop hy)
theorem Limbs.append {l m : List Nat} (h : Limbs l) (h' : Limbs m) : Limbs (l ++ m) := fun y hy => by
  rcases List.mem_append.1 hy with hy | hy
  · exact h y hy
  · exact h' y hy
theorem Limbs.set {l : List Nat} (h : Limbs l) (i : Nat) {x : Nat} (hx : x < 4294967296) : Limbs (l.set i x) := fun y hy => by
  rcases List.mem_or_eq_of_mem_set hy with hy | rfl
  · exact h y hy
  · exact hx
theorem Limbs.rep (n : Nat) : Limbs (List.replicate n 0) := fun y hy => by
  rw [(List.mem_replicate.1 hy).2]; omega
theorem Limbs.getD {l : List Nat} (h : Limbs l) (i : Nat) : l.getD i 0 < 4294967296 := by
  rw [List.getD_eq_getElem?_getD]
  cases hi : l[i]? with
  | none => simp
  | some x => simpa using h x (List.mem_of_getElem? hi)

/-- The length without the noughts at the end. -/
def cutLen (l : List Nat) : Nat → Nat
  | 0 => 0
  | n + 1 => if l.getD n 0 = 0 then cutLen l n else n + 1
def trim (l : List Nat) : List Nat := l.take (cutLen l l.length)
theorem cutLen_le (l : List Nat) : ∀ n, cutLen l n ≤ n
  | 0 => Nat.le_refl _
  | n + 1 => by
    unfold cutLen
    split
    · exact Nat.le_succ_of_le (cutLen_le l n)
    · exact Nat.le_refl _
/-- A list whose last limb is no nought is its value's own. -/
theorem limbs_val {l : List Nat} (h : Limbs l) (hn : ∀ x, l.getLast? = some x → x ≠ 0) : limbs (val l) = l := by
  induction l with
  | nil => exact limbs_zero
  | cons x l ih =>
    have hx := h x List.mem_cons_self
    have hl : limbs (val l) = l := ih h.tail fun y hy => by
      cases l with
      | nil => cases hy
      | cons z l => exact hn y (by rw [List.getLast?_cons_cons]; exact hy)
    have hne : x + 4294967296 * val l ≠ 0 := by
      intro h0
      cases l with
      | nil => exact hn x rfl (by omega)
      | cons z l =>
        have : val (z :: l) = 0 := by omega
        rw [this, limbs_zero] at hl
        cases hl
    rw [val, limbs_pos hne]
    congr 1
    · omega
    · rw [show (x + 4294967296 * val l) / 4294967296 = val l by omega]
      exact hl
theorem take_cutLen (l : List Nat) : ∀ n, n ≤ l.length → (l.take n) = l.take (cutLen l n) ++ List.replicate (n - cutLen l n) 0 ∧ ∀ x, (l.take (cutLen l n)).getLast? = some x → x ≠ 0
  | 0, _ => by simp [cutLen]
  | n + 1, hn => by
    unfold cutLen
    have hlt : n < l.length := by omega
    have hg : l.getD n 0 = l[n] := by simp [List.getD_eq_getElem?_getD, hlt]
    split
    · rename_i h0
      obtain ⟨h1, h2⟩ := take_cutLen l n (by omega)
      refine ⟨?_, h2⟩
      have := cutLen_le l n
      rw [show n + 1 - cutLen l n = (n - cutLen l n) + 1 by omega, List.replicate_succ', ← List.append_assoc, ← h1, List.take_succ_eq_append_getElem hlt, ← hg, h0]
    · rename_i h0
      refine ⟨by simp, fun x hx => ?_⟩
      rw [List.take_succ_eq_append_getElem hlt] at hx
      rw [List.getLast?_append] at hx
      simp only [List.getLast?_singleton, Option.some_or, Option.some.injEq] at hx
      rw [← hx, ← hg]
      exact h0
theorem trim_eq {l : List Nat} (h : Limbs l) : trim l = limbs (val l) := by
  obtain ⟨h1, h2⟩ := take_cutLen l l.length (Nat.le_refl _)
  rw [List.take_length] at h1
  have h3 : val l = val (trim l) := by
    conv => lhs; rw [h1]
    rw [val_append, val_zeros]
    simp [trim]
  rw [h3]
  exact (limbs_val (h.take _) h2).symm
theorem limbs_eq_nil {n : Nat} : limbs n = [] ↔ n = 0 := by
  constructor
  · intro h
    by_cases h0 : n = 0
    · exact h0
    · rw [limbs_pos h0] at h; cases h
  · rintro rfl; exact limbs_zero
theorem limbs_length_le {n k : Nat} (h : n < 4294967296 ^ k) : (limbs n).length ≤ k := by
  induction k generalizing n with
  | zero => rw [show n = 0 by simpa using h, limbs_zero]; simp
  | succ k ih =>
    by_cases h0 : n = 0
    · subst h0; rw [limbs_zero]; simp
    · rw [limbs_pos h0, List.length_cons]
      have := ih (n := n / 4294967296) (by rw [Nat.pow_succ] at h; omega)
      omega
theorem trim_length (l : List Nat) : (trim l).length ≤ l.length := by
  unfold trim
  rw [List.length_take]
  exact Nat.min_le_right _ _
theorem limbs_val_length {l : List Nat} (h : Limbs l) : (limbs (val l)).length ≤ l.length := limbs_length_le (val_lt h)

theorem bit_and (a b : Nat) : (a &&& b) / 2 ^ 31 = (a / 2 ^ 31) &&& (b / 2 ^ 31) := by
  rw [← Nat.shiftRight_eq_div_pow, ← Nat.shiftRight_eq_div_pow, ← Nat.shiftRight_eq_div_pow, Nat.shiftRight_and_distrib]
theorem bit_or (a b : Nat) : (a ||| b) / 2 ^ 31 = (a / 2 ^ 31) ||| (b / 2 ^ 31) := by
  rw [← Nat.shiftRight_eq_div_pow, ← Nat.shiftRight_eq_div_pow, ← Nat.shiftRight_eq_div_pow, Nat.shiftRight_or_distrib]
theorem bit_xor (a b : Nat) : (a ^^^ b) / 2 ^ 31 = (a / 2 ^ 31) ^^^ (b / 2 ^ 31) := by
  rw [← Nat.shiftRight_eq_div_pow, ← Nat.shiftRight_eq_div_pow, ← Nat.shiftRight_eq_div_pow, Nat.shiftRight_xor_distrib]
theorem borrow {x y c d : Nat} (hx : x < 4294967296) (hy : y < 4294967296) (hc : c < 2) (hd : d = (x + 2 * 4294967296 - y - c) % 4294967296) :
    (((4294967295 - x) &&& y) ||| ((4294967295 - (x ^^^ y)) &&& d)) / 2 ^ 31 = if x < y + c then 1 else 0 := by
  have hxy : (x ^^^ y) < 4294967296 := Nat.xor_lt_two_pow (n := 32) hx hy
  have h1 := bit_xor x y
  rw [bit_or, bit_and, bit_and]
  have e1 : (4294967295 - x) / 2 ^ 31 = 1 - x / 2 ^ 31 := by omega
  have e2 : (4294967295 - (x ^^^ y)) / 2 ^ 31 = 1 - (x ^^^ y) / 2 ^ 31 := by omega
  rw [e1, e2, h1]
  have hX : x / 2 ^ 31 = 0 ∨ x / 2 ^ 31 = 1 := by omega
  have hY : y / 2 ^ 31 = 0 ∨ y / 2 ^ 31 = 1 := by omega
  have hD : d / 2 ^ 31 = 0 ∨ d / 2 ^ 31 = 1 := by omega
  rcases hX with hX | hX <;> rcases hY with hY | hY <;> rcases hD with hD | hD <;> rw [hX, hY, hD] <;> simp <;> omega

/-! ### digit by digit -/
theorem val_take_succ (l : List Nat) (i : Nat) : val (l.take (i + 1)) = val (l.take i) + 4294967296 ^ i * l.getD i 0 := by
  by_cases h : i < l.length
  · rw [List.take_succ_eq_append_getElem h, val_append, List.length_take, Nat.min_eq_left (by omega)]
    simp [val, List.getD_eq_getElem?_getD, h]
  · rw [List.take_of_length_le (by omega), List.take_of_length_le (by omega)]
    simp [List.getD_eq_getElem?_getD, show l.length ≤ i by omega]
theorem take_set_succ {l : List Nat} {i : Nat} (h : i < l.length) (d : Nat) : (l.set i d).take (i + 1) = l.take i ++ [d] := by
  rw [List.take_succ_eq_append_getElem (by simpa using h), List.take_set_of_le (Nat.le_refl _), List.getElem_set_self]
theorem val_take_set {l : List Nat} {i : Nat} (h : i < l.length) (d : Nat) : val ((l.set i d).take (i + 1)) = val (l.take i) + 4294967296 ^ i * d := by
  rw [take_set_succ h, val_append, List.length_take, Nat.min_eq_left (by omega)]
  simp [val]
theorem add_round {A X Y P x y c s k : Nat} (h : A + P * c = X + Y) (hs : s + 4294967296 * k = x + y + c) : (A + P * s) + P * 4294967296 * k = (X + P * x) + (Y + P * y) := by
  have h2 : P * (s + 4294967296 * k) = P * (x + y + c) := by rw [hs]
  simp only [Nat.mul_add] at h2
  rw [Nat.mul_assoc]
  omega

/-! ### order -/
def sgn (a b : Nat) : Int := if a < b then -1 else if b < a then 1 else 0
theorem limbs_mono {a b : Nat} (h : a ≤ b) : (limbs a).length ≤ (limbs b).length := by
  have := val_lt (limbs_limbs b)
  rw [val_limbs] at this
  exact limbs_length_le (Nat.lt_of_le_of_lt h this)
theorem val_split {l : List Nat} {i : Nat} (h : i < l.length) : val l = val (l.take i) + 4294967296 ^ i * (l.getD i 0 + 4294967296 * val (l.drop (i + 1))) := by
  conv => lhs; rw [← List.take_append_drop i l]
  rw [val_append, List.length_take, Nat.min_eq_left (by omega), List.drop_eq_getElem_cons h, val]
  simp [List.getD_eq_getElem?_getD, h]
theorem val_lt_of_top {l m : List Nat} {i : Nat} (hl : Limbs l) (h1 : i < l.length) (h2 : i < m.length) (hd : l.drop (i + 1) = m.drop (i + 1)) (hlt : l.getD i 0 < m.getD i 0) : val l < val m := by
  rw [val_split h1, val_split h2, hd]
  have h3 : val (l.take i) < 4294967296 ^ i := by
    have := val_lt (hl.take i)
    rwa [List.length_take, Nat.min_eq_left (by omega)] at this
  have h4 : 4294967296 ^ i * (l.getD i 0 + 4294967296 * val (m.drop (i + 1)) + 1) ≤ 4294967296 ^ i * (m.getD i 0 + 4294967296 * val (m.drop (i + 1))) := Nat.mul_le_mul_left _ (by omega)
  rw [Nat.mul_add, Nat.mul_one] at h4
  omega
theorem sub_round {A Y X P b s y x k : Nat} (h : A + Y = X + P * b) (hs : s + y + b = x + 4294967296 * k) : (A + P * s) + (Y + P * y) = (X + P * x) + P * 4294967296 * k := by
  have h2 : P * (s + y + b) = P * (x + 4294967296 * k) := by rw [hs]
  simp only [Nat.mul_add] at h2
  rw [Nat.mul_assoc]
  omega
theorem val_set {l : List Nat} {p : Nat} (h : p < l.length) (s : Nat) : val (l.set p s) + 4294967296 ^ p * l.getD p 0 = val l + 4294967296 ^ p * s := by
  have h1 := val_split h
  have h2 := val_split (l := l.set p s) (i := p) (by simpa using h)
  rw [List.take_set_of_le (Nat.le_refl _), List.drop_set_of_lt (by omega)] at h2
  have h3 : (l.set p s).getD p 0 = s := by simp [List.getD_eq_getElem?_getD, h]
  rw [h3] at h2
  rw [h1, h2, Nat.mul_add, Nat.mul_add]
  omega
theorem mul_round {v v' v0 P Q a V m s k old : Nat} (h : v + P * k = v0 + Q * a * V) (hset : v' + P * old = v + P * s) {k' : Nat} (hs : s + 4294967296 * k' = a * m + old + k) {M : Nat} (hP : P = Q * M) : v' + P * 4294967296 * k' = v0 + Q * a * (V + M * m) := by
  have h2 : P * (s + 4294967296 * k') = P * (a * m + old + k) := by rw [hs]
  simp only [Nat.mul_add] at h2 ⊢
  have h3 : Q * a * (M * m) = P * (a * m) := by rw [hP]; simp only [Nat.mul_assoc, Nat.mul_left_comm, Nat.mul_comm]
  rw [h3, Nat.mul_assoc P]
  omega

/-! ### a number in so many limbs -/
def padL (n v : Nat) : List Nat := limbs v ++ List.replicate (n - (limbs v).length) 0
theorem padL_eq {c : List Nat} (h : Limbs c) : padL c.length (val c) = c := by
  obtain ⟨h1, h2⟩ := take_cutLen c c.length (Nat.le_refl _)
  rw [List.take_length] at h1
  have h3 := trim_eq h
  unfold trim at h3
  have h4 := cutLen_le c c.length
  unfold padL
  rw [← h3, List.length_take, Nat.min_eq_left h4]
  exact h1.symm
theorem padL_of {c : List Nat} {n v : Nat} (h : Limbs c) (h1 : c.length = n) (h2 : val c = v) : c = padL n v := by
  rw [← h1, ← h2, padL_eq h]
theorem drop_set_self {l : List Nat} {i : Nat} (h : i < l.length) (d : Nat) : (l.set i d).drop i = d :: l.drop (i + 1) := by
  rw [List.drop_eq_getElem_cons (by simpa using h), List.getElem_set_self, List.drop_set_of_lt (by omega)]
theorem drop_getD {l : List Nat} {i : Nat} (h : i < l.length) : l.drop i = l.getD i 0 :: l.drop (i + 1) := by
  rw [List.drop_eq_getElem_cons h]
  simp [List.getD_eq_getElem?_getD, h]
end Go.Proofs.YtjkjapjcmbfkgaaGreat.Vm

/-
  One digit of a quotient: plain laws.
-/
namespace Go.Proofs.YtjkjapjcmbfkgaaGreat.Vm
open Go
set_option linter.unusedVariables false
set_option linter.unusedSimpArgs false

/-- A list with another one laid over it from off on. -/
def put (w : List Nat) (off : Nat) (c : List Nat) : List Nat := w.take off ++ c ++ w.drop (off + c.length)
theorem put_length {w c : List Nat} {off : Nat} (h : off + c.length ≤ w.length) : (put w off c).length = w.length := by
  simp only [put, List.length_append, List.length_take, List.length_drop]; omega
theorem put_getD {w c : List Nat} {off i : Nat} (h : off + c.length ≤ w.length) (hi : i < c.length) : (put w off c).getD (off + i) 0 = c.getD i 0 := by
  simp only [put, List.getD_eq_getElem?_getD, List.append_assoc]
  rw [List.getElem?_append_right (by simp; omega), List.getElem?_append_left (by simp; omega)]
  congr 2
  simp
  omega
theorem put_set {w c : List Nat} {off i : Nat} (h : off + c.length ≤ w.length) (hi : i < c.length) (d : Nat) : (put w off c).set (off + i) d = put w off (c.set i d) := by
  have h1 : (w.take off).length = off := by rw [List.length_take]; omega
  simp only [put, List.append_assoc, List.length_set]
  rw [List.set_append_right _ _ (by omega), h1, Nat.add_sub_cancel_left, List.set_append_left _ _ hi]
theorem put_self {w : List Nat} {off n : Nat} (h : off + n ≤ w.length) : put w off ((w.drop off).take n) = w := by
  have h1 : ((w.drop off).take n).length = n := by simp; omega
  simp only [put, h1]
  rw [← List.drop_drop, List.append_assoc, List.take_append_drop, List.take_append_drop]
theorem put_limbs {w c : List Nat} {off : Nat} (h : Limbs w) (hc : Limbs c) : Limbs (put w off c) := ((h.take _).append hc).append (h.drop _)
/-- What is known of the top of what is divided and of the divisor: T, a, V1, U3, q. -/
structure DigitH (q a x T z : Nat) : Prop where
  a0 : 2147483648 ≤ a
  a1 : a < 4294967296
  x1 : x < 4294967296
  z1 : z < 4294967296
  t1 : T < 18446744073709551616
  q1 : q < 4294967296
  g0 : T / a ≤ 4294967297
  qv : q * (a * 4294967296 + x) ≤ T * 4294967296 + z

theorem digit_start {q a x T z : Nat} (h : DigitH q a x T z) : q ≤ T / a := by
  have h1 := h.qv; have h2 := h.a0; have h3 := h.z1
  rw [Nat.le_div_iff_mul_le (by omega)]
  rw [Nat.mul_add, ← Nat.mul_assoc] at h1
  omega
theorem digit_step {q a x T z g r : Nat} (h : DigitH q a x T z) (hg : g * a + r = T) (hq : q ≤ g) (hc : 4294967296 ≤ g ∨ r * 4294967296 + z < g * x) : q ≤ g - 1 ∧ 0 < g ∧ (g - 1) * a + (r + a) = T := by
  have h1 := h.qv; have h2 := h.q1
  have hlt : q < g := by
    rcases hc with hc | hc
    · omega
    · refine Nat.lt_of_le_of_ne hq fun he => ?_
      subst he
      rw [Nat.mul_add, ← Nat.mul_assoc] at h1
      rw [← hg] at h1
      omega
  refine ⟨by omega, by omega, ?_⟩
  obtain ⟨m, rfl⟩ : ∃ m, g = m + 1 := ⟨g - 1, by omega⟩
  rw [Nat.add_mul] at hg
  simp only [Nat.add_sub_cancel]
  omega
theorem digit_done {q a x T z g r : Nat} (h : DigitH q a x T z) (hg : g * a + r = T) (hc : g * x ≤ r * 4294967296 + z) : g * (a * 4294967296 + x) ≤ T * 4294967296 + z := by
  rw [Nat.mul_add, ← Nat.mul_assoc, ← hg]
  omega
theorem digit_break {q a x T z g r : Nat} (h : DigitH q a x T z) (hg : g * a + r = T) (hT : T ≤ a * 4294967296 + 4294967295) (hr : 4294967296 ≤ r) : g < 4294967296 ∧ g * x ≤ r * 4294967296 + z := by
  have h0 := h.a0; have h1 := h.x1
  have hlt : g < 4294967296 := by
    refine Nat.lt_of_not_le fun hle => ?_
    have : 4294967296 * a ≤ g * a := Nat.mul_le_mul_right _ hle
    omega
  refine ⟨hlt, ?_⟩
  have : g * x ≤ 4294967296 * 4294967296 := Nat.mul_le_mul (by omega) (by omega)
  omega

theorem val_top {l : List Nat} {n : Nat} (h : l.length = n + 1) : val l = val (l.take n) + 4294967296 ^ n * l.getD n 0 := by
  rw [← val_take_succ, List.take_of_length_le (by omega)]

/-- The digit's facts, over any base. -/
theorem digit_core {B P a x y z y2 lv lu U V q : Nat} (hB : 4 ≤ B) (hP : 0 < P) (ha : B ≤ 2 * a) (a1 : a < B) (x1 : x < B) (z1 : z < B) (y1 : y < B) (hV : V = lv + P * (a * B + x)) (hU : U = lu + P * ((y2 * B + y) * B + z)) (l1 : lv < P) (l2 : lu < P) (hlt : U < B * V) (hq : U / V = q) :
    q < B ∧ (y2 * B + y) ≤ a * B + (B - 1) ∧ (y2 * B + y) / a ≤ B + 1 ∧ q * (a * B + x) ≤ (y2 * B + y) * B + z ∧ ∀ g, g < B → g * (a * B + x) ≤ (y2 * B + y) * B + z → q ≤ g → g = q ∨ g = q + 1 := by
  have hab : B ≤ a * B := Nat.le_mul_of_pos_left _ (by omega)
  have hvpos : 0 < V := by
    have : 0 < P * (a * B + x) := Nat.mul_pos hP (by omega)
    omega
  have hqu : q * V ≤ U := by rw [← hq]; exact Nat.div_mul_le_self _ _
  have hqu2 : U < (q + 1) * V := by
    have := Nat.lt_div_mul_add hvpos (a := U)
    rw [hq] at this
    rw [Nat.add_mul]; omega
  have hq1 : q < B := by
    rw [← hq]; exact Nat.div_lt_of_lt_mul (by rw [Nat.mul_comm]; exact hlt)
  clear hq
  have hVlt : V < P * (a * B + x + 1) := by rw [Nat.mul_add P _ 1, Nat.mul_one]; omega
  have hUlt : U < P * ((y2 * B + y) * B + z + 1) := by rw [Nat.mul_add P _ 1, Nat.mul_one]; omega
  have hT : (y2 * B + y) ≤ a * B + (B - 1) := by
    refine Nat.le_of_not_lt fun hh => ?_
    have h3 : a + 1 ≤ y2 := by
      refine Nat.lt_of_not_le fun h4 => ?_
      have : y2 * B ≤ a * B := Nat.mul_le_mul_right _ h4
      omega
    have h4 : (a + 1) * B ≤ y2 * B := Nat.mul_le_mul_right _ h3
    have h5 : a * B + x + 1 ≤ (a + 1) * B := by rw [Nat.add_mul]; omega
    have h6 : P * (a * B + x + 1) ≤ P * ((a + 1) * B) := Nat.mul_le_mul_left _ h5
    have h7 : (a + 1) * B * B ≤ (y2 * B + y) * B := Nat.mul_le_mul_right _ (by omega)
    have h8 : P * ((a + 1) * B * B) ≤ P * ((y2 * B + y) * B + z) := Nat.mul_le_mul_left _ (by omega)
    have h9 : B * V ≤ B * (P * ((a + 1) * B)) := Nat.mul_le_mul_left _ (by omega)
    have h10 : B * (P * ((a + 1) * B)) = P * ((a + 1) * B * B) := by rw [Nat.mul_comm B, Nat.mul_assoc P]
    omega
  generalize y2 * B + y = T at *
  refine ⟨hq1, hT, ?_, ?_, ?_⟩
  · have : T / a ≤ (a * B + (B - 1)) / a := Nat.div_le_div_right hT
    rw [Nat.mul_add_div (by omega)] at this
    have h6 : (B - 1) / a < 2 := by
      rw [Nat.div_lt_iff_lt_mul (by omega)]; omega
    omega
  · have h6 : q * (P * (a * B + x)) ≤ q * V := Nat.mul_le_mul_left _ (by omega)
    have h7 : P * (q * (a * B + x)) < P * (T * B + z + 1) := by
      have : P * (q * (a * B + x)) = q * (P * (a * B + x)) := by rw [← Nat.mul_assoc, Nat.mul_comm P q, Nat.mul_assoc]
      omega
    have := Nat.lt_of_mul_lt_mul_left h7
    omega
  · intro g hg hgv hqg
    have h6 : ¬ q + 2 ≤ g := by
      intro hge
      obtain ⟨k, rfl⟩ : ∃ k, g = k + 1 := ⟨g - 1, by omega⟩
      have h7 : (q + 1) * V ≤ k * V := Nat.mul_le_mul_right _ (by omega)
      have h8 : k * V ≤ k * (P * (a * B + x + 1)) := Nat.mul_le_mul_left _ (by omega)
      have h9 : k * (P * (a * B + x + 1)) = P * (k * (a * B + x) + k) := by
        rw [← Nat.mul_assoc, Nat.mul_comm k P, Nat.mul_assoc, Nat.mul_add k, Nat.mul_one]
      have h10 : P * (k * (a * B + x) + k) ≤ P * (T * B + z) := by
        refine Nat.mul_le_mul_left _ ?_
        rw [Nat.add_mul, Nat.one_mul] at hgv
        omega
      omega
    omega

theorem top3 (lu P B y2 y z : Nat) : lu + P * z + P * B * y + P * B * B * y2 = lu + P * ((y2 * B + y) * B + z) := by
  have h1 : P * ((y2 * B + y) * B) = P * B * y + P * B * B * y2 := by
    rw [Nat.add_mul, Nat.mul_add, Nat.add_comm]
    congr 1
    · rw [Nat.mul_comm y, Nat.mul_assoc]
    · rw [Nat.mul_assoc y2, Nat.mul_comm y2, ← Nat.mul_assoc, ← Nat.mul_assoc]
  rw [Nat.mul_add, h1]
  omega
/-- The digit's facts, of a divisor v of n = m + 2 limbs and of what is divided, u, of one limb more. -/
theorem digit_facts {u v : List Nat} {m : Nat} (hu : Limbs u) (hv : Limbs v) (hvl : v.length = m + 2) (hul : u.length = m + 3) (ha : 2147483648 ≤ v.getD (m + 1) 0) (hlt : val u < 4294967296 * val v) :
    DigitH (val u / val v) (v.getD (m + 1) 0) (v.getD m 0) (u.getD (m + 2) 0 * 4294967296 + u.getD (m + 1) 0) (u.getD m 0) ∧
    u.getD (m + 2) 0 * 4294967296 + u.getD (m + 1) 0 ≤ v.getD (m + 1) 0 * 4294967296 + 4294967295 ∧
    ∀ g, g < 4294967296 → g * (v.getD (m + 1) 0 * 4294967296 + v.getD m 0) ≤ (u.getD (m + 2) 0 * 4294967296 + u.getD (m + 1) 0) * 4294967296 + u.getD m 0 → val u / val v ≤ g → g = val u / val v ∨ g = val u / val v + 1 := by
  have e1 := val_top (l := v) (n := m + 1) hvl
  have e2 := val_take_succ v m
  have e3 := val_top (l := u) (n := m + 2) hul
  have e4 := val_take_succ u (m + 1)
  have e5 := val_take_succ u m
  have l1 : val (v.take m) < 4294967296 ^ m := by
    have := val_lt (hv.take m); rwa [List.length_take, Nat.min_eq_left (by omega)] at this
  have l2 : val (u.take m) < 4294967296 ^ m := by
    have := val_lt (hu.take m); rwa [List.length_take, Nat.min_eq_left (by omega)] at this
  have a1 := hv.getD (m + 1); have x1 := hv.getD m; have z1 := hu.getD m; have y1 := hu.getD (m + 1); have y2 := hu.getD (m + 2)
  rw [e2] at e1
  rw [e4, e5] at e3
  have hP : 0 < 4294967296 ^ m := Nat.pow_pos (by omega)
  have hv1 : val v = val (v.take m) + 4294967296 ^ m * (v.getD (m + 1) 0 * 4294967296 + v.getD m 0) := by
    rw [e1, Nat.pow_succ, Nat.mul_add, Nat.mul_comm (v.getD (m + 1) 0), Nat.mul_assoc]; omega
  have hu1 : val u = val (u.take m) + 4294967296 ^ m * ((u.getD (m + 2) 0 * 4294967296 + u.getD (m + 1) 0) * 4294967296 + u.getD m 0) := by
    rw [e3, Nat.pow_succ, Nat.pow_succ]
    exact top3 _ _ _ _ _ _
  obtain ⟨h1, h2, h3, h4, h5⟩ := digit_core (B := 4294967296) (by omega) hP (by omega) a1 x1 z1 y1 hv1 hu1 l1 l2 hlt rfl
  exact ⟨⟨ha, a1, x1, z1, by omega, h1, h3, h4⟩, h2, h5⟩

theorem digit_facts' {u v : List Nat} (hu : Limbs u) (hv : Limbs v) (hvl : 2 ≤ v.length) (hul : u.length = v.length + 1) (ha : 2147483648 ≤ v.getD (v.length - 1) 0) (hlt : val u < 4294967296 * val v) :
    DigitH (val u / val v) (v.getD (v.length - 1) 0) (v.getD (v.length - 2) 0) (u.getD v.length 0 * 4294967296 + u.getD (v.length - 1) 0) (u.getD (v.length - 2) 0) ∧
    u.getD v.length 0 * 4294967296 + u.getD (v.length - 1) 0 ≤ v.getD (v.length - 1) 0 * 4294967296 + 4294967295 ∧
    ∀ g, g < 4294967296 → g * (v.getD (v.length - 1) 0 * 4294967296 + v.getD (v.length - 2) 0) ≤ (u.getD v.length 0 * 4294967296 + u.getD (v.length - 1) 0) * 4294967296 + u.getD (v.length - 2) 0 → val u / val v ≤ g → g = val u / val v ∨ g = val u / val v + 1 := by
  obtain ⟨m, hm⟩ : ∃ m, v.length = m + 2 := ⟨v.length - 2, by omega⟩
  have e1 : v.length - 1 = m + 1 := by omega
  have e2 : v.length - 2 = m := by omega
  rw [e1] at ha ⊢
  rw [e2, hm]
  exact digit_facts hu hv hm (by omega) ha hlt

theorem or_add32 {a b : Nat} (h : b < 4294967296) : a * 2 ^ 32 ||| b = a * 4294967296 + b := by
  have := Nat.two_pow_add_eq_or_of_lt (i := 32) h a
  rw [Nat.mul_comm, ← this]
theorem digit_facts2 {u v : List Nat} (hu : Limbs u) (hv : Limbs v) (hvl : 2 ≤ v.length) (hul : u.length = v.length + 1) (ha : 2147483648 ≤ v.getD (v.length - 1) 0) (hlt : val u < 4294967296 * val v) :
    ∃ T q, q = val u / val v ∧ (u.getD v.length 0 * 2 ^ 32 ||| u.getD (v.length - 1) 0) = T ∧ T < 18446744073709551616 ∧ DigitH q (v.getD (v.length - 1) 0) (v.getD (v.length - 2) 0) T (u.getD (v.length - 2) 0) ∧
      (∀ g r, g * v.getD (v.length - 1) 0 + r = T → 4294967296 ≤ r → g < 4294967296 ∧ g * v.getD (v.length - 2) 0 ≤ r * 4294967296 + u.getD (v.length - 2) 0) ∧
      ∀ g r, g < 4294967296 → g * v.getD (v.length - 1) 0 + r = T → g * v.getD (v.length - 2) 0 ≤ r * 4294967296 + u.getD (v.length - 2) 0 → q ≤ g → g = q ∨ g = q + 1 := by
  obtain ⟨h1, h2, h3⟩ := digit_facts' hu hv hvl hul ha hlt
  have hor : (u.getD v.length 0 * 2 ^ 32 ||| u.getD (v.length - 1) 0) = u.getD v.length 0 * 4294967296 + u.getD (v.length - 1) 0 := or_add32 (hu.getD _)
  refine ⟨_, _, rfl, hor, h1.t1, h1, fun g r hg hr => digit_break h1 hg h2 hr, fun g r hgl hg hc hq => h3 g hgl (digit_done h1 hg hc) hq⟩

theorem getD_of_drop {c u : List Nat} {i : Nat} (h : c.drop i = u.drop i) : c.getD i 0 = u.getD i 0 := by
  have := congrArg (fun l => l.getD 0 0) h
  simpa [List.getD_eq_getElem?_getD] using this
theorem drop_set_next {c u : List Nat} {i : Nat} (h : c.drop i = u.drop i) (s : Nat) : (c.set i s).drop (i + 1) = u.drop (i + 1) := by
  rw [List.drop_set_of_lt (by omega), ← List.drop_drop, ← List.drop_drop, h]
theorem sub32_rel {x y b : Nat} (hx : x < 4294967296) (hy : y < 4294967296) (hb : b < 2) : (x + 2 * 4294967296 - y - b) % 4294967296 + y + b = x + 4294967296 * (if x < y + b then 1 else 0) := by
  split <;> omega
theorem sub32_lt {x y b : Nat} : (if x < y + b then 1 else 0) < 2 := by split <;> omega
theorem digit_back {F P k R : Nat} (h : F + P * k = R + P) (h1 : F < P) (h2 : R < P) : F = R := by
  rcases k with _ | _ | k
  · omega
  · omega
  · have : P * 2 ≤ P * (k + 1 + 1) := Nat.mul_le_mul_left _ (by omega)
    omega
theorem wrap_u32_add (n m : Nat) : IntKind.wrap .u32 ((n : Int) + (m : Int)) = (((n + m) % 4294967296 : Nat) : Int) := by
  rw [← Int.natCast_add, wrap_u32_nat]
theorem wrap_u64_pred {n : Nat} (h : 1 ≤ n) (h' : n < 18446744073709551616) : IntKind.wrap .u64 ((n : Int) - 1) = ((n - 1 : Nat) : Int) := by
  rw [wrap_u64 (by omega) (by omega)]; omega
theorem wrap_i64_m2 {n : Nat} (h : 2 ≤ n) (h' : n < 9223372036854775808) : IntKind.wrap .i64 ((n : Int) - 2) = ((n - 2 : Nat) : Int) := by
  rw [wrap_i64 (by omega) (by omega)]; omega
theorem put_len {w c : List Nat} {off : Nat} (h : off + c.length ≤ w.length) : (put w off c).length = w.length := put_length h
/-- The end of the digit: what is left, by whether the last limb borrowed. -/
theorem digit_left {U V g q C P b : Nat} (hP : C < P) (hb : b < 2) (h : C + g * V = U + P * b) (hq : q = U / V) (hV : 0 < V) (hVP : V ≤ P) (hg : g = q ∨ g = q + 1) :
    (b = 0 → g = U / V ∧ C = U % V) ∧ (b = 1 → g = U / V + 1 ∧ C + V = U % V + P) := by
  have h1 := Nat.div_add_mod U V
  have h2 := Nat.mod_lt U hV
  rw [← hq] at h1 ⊢
  rw [Nat.mul_comm] at h1
  rcases hg with rfl | rfl
  · refine ⟨fun hb => ⟨rfl, by subst hb; omega⟩, fun hb => ?_⟩
    subst hb; exfalso; omega
  · rw [Nat.add_mul, Nat.one_mul] at h
    refine ⟨fun hb => ?_, fun hb => ⟨rfl, by subst hb; omega⟩⟩
    subst hb; exfalso; omega
/-- One round of multiply and subtract. -/
theorem msub_round {A U V P g v u c b s b' c' t : Nat} (h : A + g * V = U + P * (c + b)) (ht : t + 4294967296 * c' = g * v + c) (hs : s + t + b = u + 4294967296 * b') : (A + P * s) + g * (V + P * v) = (U + P * u) + P * 4294967296 * (c' + b') := by
  have h2 : P * (s + t + b) = P * (u + 4294967296 * b') := by rw [hs]
  have h3 : P * (t + 4294967296 * c') = P * (g * v + c) := by rw [ht]
  simp only [Nat.mul_add] at h h2 h3 ⊢
  have h4 : g * (P * v) = P * (g * v) := by rw [← Nat.mul_assoc, Nat.mul_comm g, Nat.mul_assoc]
  rw [h4, Nat.mul_assoc P, Nat.mul_assoc P]
  omega
end Go.Proofs.YtjkjapjcmbfkgaaGreat.Vm

/-
  Rules for the simplifier, bundled.
-/
namespace Go.Proofs.YtjkjapjcmbfkgaaGreat.Vm
open Go Go.RowKit

set_option maxRecDepth 100000
abbrev sA := And.intro (And.intro (And.intro (And.intro (And.intro (And.intro (And.intro @List.foldl_cons.{0,0} @List.foldl_nil.{0,0}) (And.intro @List.flatten_cons.{0} @List.flatten_nil.{0})) (And.intro (And.intro @List.drop_zero.{0} @List.drop_nil.{0}) (And.intro @List.singleton_append.{0} @Option.isSome_some.{0}))) (And.intro (And.intro (And.intro @Int.natCast_one @Int.cast_ofNat_Int) (And.intro @cond_true.{0} @cond_true.{1})) (And.intro (And.intro @cond_false.{0} @cond_false.{1}) (And.intro @decide_true @decide_false)))) (And.intro (And.intro (And.intro (And.intro @Int.lt_irrefl @Nat.lt_irrefl) (And.intro @Option.bind_some.{0,0} @Option.map_none.{0,0})) (And.intro (And.intro @List.getD_cons_zero.{0} @List.getD_cons_succ.{0}) (And.intro @List.getD_nil.{0} @List.map_cons.{0,0}))) (And.intro (And.intro (And.intro @List.map_nil.{0,0} @List.append_nil.{0}) (And.intro @List.nil_append.{0} @List.cons_append.{0})) (And.intro (And.intro @unW_neg @unW_not) (And.intro @unW_xor @List.take_succ_cons.{0}))))) (And.intro (And.intro (And.intro (And.intro (And.intro @List.drop_succ_cons.{0} @List.take_zero.{0}) (And.intro @List.length_cons.{0} @List.length_nil.{0})) (And.intro (And.intro @List.headD_cons.{0} @List.all_cons.{0}) (And.intro @List.all_nil.{0} @List.getElem?_cons_zero.{0}))) (And.intro (And.intro (And.intro @List.getElem?_cons_succ.{0} @List.getElem?_toArray.{0}) (And.intro @Option.map_some.{0,0} @ne_eq.{0})) (And.intro (And.intro @ne_eq.{1} @not_false_eq_true) (And.intro @true_and @and_true)))) (And.intro (And.intro (And.intro (And.intro @and_self @or_true) (And.intro @true_or @or_self)) (And.intro (And.intro @if_true.{0} @if_true.{1}) (And.intro @if_false.{0} @if_false.{1}))) (And.intro (And.intro (And.intro @not_true_eq_false @Int.natCast_zero) (And.intro @decide_eq_true_eq @decide_eq_false_iff_not)) (And.intro (And.intro @gt_iff_lt.{0} @ge_iff_le.{0}) (And.intro @Int.natCast_pos (And.intro @Bool.true_and @Bool.and_true))))))) (And.intro (And.intro (And.intro (And.intro (And.intro (And.intro @List.not_mem_nil.{0} @implies_true.{0}) (And.intro @implies_true.{1} @forall_const.{0})) (And.intro (And.intro @forall_const.{1} @u32s_length) (And.intro @List.length_set.{0} @u32s_all))) (And.intro (And.intro (And.intro @u32s_getD @u32s_getD_set) (And.intro @u32s_take @u32s_drop)) (And.intro (And.intro @u32s_set @u32s_rep) (And.intro @u32s_one @toNat_natCast)))) (And.intro (And.intro (And.intro (And.intro @nat_lt_int @nat_le_int) (And.intro @nat_nonneg @wrap_i64_add)) (And.intro (And.intro @wrap_i64_one @wrap_i64_sub) (And.intro @wrap_i64_pred @wrap_i64_m2))) (And.intro (And.intro (And.intro @wrap_u32_add @put_getD) (And.intro @put_set @put_len)) (And.intro (And.intro @wrap_i64_nat @Int.toNat_zero) (And.intro @wrap_u64_nat @wrap_u64_add))))) (And.intro (And.intro (And.intro (And.intro (And.intro @wrap_u64_mul @wrap_u64_sub) (And.intro @wrap_u32_nat @wrap_u8_nat)) (And.intro (And.intro @fdiv_pow @tdiv_nat) (And.intro @tmod_nat @shl_u64))) (And.intro (And.intro (And.intro @shl_u32 @wrap_i64_32) (And.intro @min_u64 @min_u32)) (And.intro (And.intro @band_u32 @bor_u32) (And.intro @bxor_u32 @bor_u64)))) (And.intro (And.intro (And.intro (And.intro @bnot_u32 @wrap_u32_sub) (And.intro @List.forall_mem_cons.{0} @range0)) (And.intro (And.intro @range1 @range2) (And.intro @range3 @range4))) (And.intro (And.intro (And.intro @Nat.zero_add @Nat.add_zero) (And.intro @Bool.not_true @Bool.not_false)) (And.intro (And.intro @Bool.and_self @Bool.false_eq_true) (And.intro @forall_eq.{0} (And.intro @forall_eq.{1} @false_implies)))))))
abbrev sB := And.intro (And.intro (And.intro (And.intro (And.intro (And.intro (And.intro @retK_ap @retK2_ap) (And.intro @valK_ap (And.intro @wrK_ap @sethK_ap))) (And.intro (And.intro @atK_ap (And.intro @restV_ap @restO_ap)) (And.intro @opF_move (And.intro @opW_move @opF_assign)))) (And.intro (And.intro (And.intro @opW_assign @opF_pick) (And.intro @opW_pick (And.intro @opF_build @opW_build))) (And.intro (And.intro @opF_buildSlice (And.intro @opW_buildSlice @opF_load)) (And.intro @opW_load (And.intro @opF_store @opW_store))))) (And.intro (And.intro (And.intro (And.intro @opF_nilCheck @opW_nilCheck) (And.intro @opF_binOp (And.intro @opW_binOp @opF_unOp))) (And.intro (And.intro @opW_unOp (And.intro @opF_convert @opW_convert)) (And.intro @opF_slice (And.intro @opW_slice @opF_fieldAddr)))) (And.intro (And.intro (And.intro @opW_fieldAddr @opF_field) (And.intro @opW_field (And.intro @opF_indexAddr @opW_indexAddr))) (And.intro (And.intro @opF_index (And.intro @opW_index @opF_extract)) (And.intro @opW_extract (And.intro @opF_makeFunc @opW_makeFunc)))))) (And.intro (And.intro (And.intro (And.intro (And.intro @opF_len @opW_len) (And.intro @opW_append (And.intro @opW_copy @opW_makeSlice))) (And.intro (And.intro @opF_alloc (And.intro @opF_box @opW_alloc)) (And.intro @opW_box (And.intro @opF_call @opW_call)))) (And.intro (And.intro (And.intro @callF_fn @callW_fn) (And.intro @effW_free (And.intro @effW_guard @effH_tt))) (And.intro (And.intro @effH_ff (And.intro @effH_tf @effH_ft)) (And.intro @effH_und (And.intro @opsH_tt @opsH_ff))))) (And.intro (And.intro (And.intro (And.intro @opsH_tf @opsH_ft) (And.intro @opsH_und (And.intro @opsW_nil @opsW_free))) (And.intro (And.intro @opsW_guard (And.intro @regV_nil @regV_cons)) (And.intro @binW_add (And.intro @binW_sub @binW_mul)))) (And.intro (And.intro (And.intro @binW_and @binW_or) (And.intro @binW_xor (And.intro @binW_andNot @binW_eql))) (And.intro (And.intro @binW_neq (And.intro @binW_lss @binW_leq)) (And.intro @binW_gtr (And.intro @binW_geq @binW_quo))))))) (And.intro (And.intro (And.intro (And.intro (And.intro (And.intro @binW_rem @binW_shl) (And.intro @binW_shr (And.intro @binW_beql @binW_bneq))) (And.intro (And.intro @binW_seql (And.intro @binW_sneq @pickW_bool)) (And.intro @pickW_yes (And.intro @pickW_no @extractW_tup)))) (And.intro (And.intro (And.intro @nilCheckW_ptr @nilCheckW_ia) (And.intro @loadW_ia (And.intro @kOk_arr @loadW_ptr))) (And.intro (And.intro @loadO_arr (And.intro @storeF_ptr @storeW_ptr)) (And.intro @storeO_arr (And.intro @fieldAddrW_ia @fieldAddrW_ptr))))) (And.intro (And.intro (And.intro (And.intro @fieldW_agg @indexAddrW_sl) (And.intro @indexAddrW_sref (And.intro @indexAddrW_aptr @indexAddrW_aia))) (And.intro (And.intro @indexW_str (And.intro @lenW_str @lenW_sl)) (And.intro @lenW_sref (And.intro @lenW_nils @convW_int)))) (And.intro (And.intro (And.intro @convW_str @buildW_struct) (And.intro @litD_slice (And.intro @makeW_slice @ev_tmp))) (And.intro (And.intro @ev_const (And.intro @ev_global @ev_func)) (And.intro @evo_none (And.intro @evo_some @cst_int)))))) (And.intro (And.intro (And.intro (And.intro (And.intro @cst_bool @cst_str) (And.intro @cst_nils (And.intro @cst_nilp @cst_nilif))) (And.intro (And.intro @cst_nilfn (And.intro @cst_agg @buildW_arr)) (And.intro @indexW_arr (And.intro @thenO_ap @opW_clear)))) (And.intro (And.intro (And.intro @clearW_sref @clrO_arr) (And.intro @kill_any (And.intro @kill_und @kill_int))) (And.intro (And.intro @kill_bool (And.intro @kill_str @kill_nils)) (And.intro @kill_sl (And.intro @kill_ia @kill_nilp))))) (And.intro (And.intro (And.intro (And.intro @kill_nilif @kill_nilfn) (And.intro @kill_nilmp (And.intro @kill_gl @kill_sref))) (And.intro (And.intro @kill_ptr (And.intro @kill_agg @kill_tup)) (And.intro @kill_fn (And.intro @kill_ifc @kills_nil)))) (And.intro (And.intro (And.intro @kills_cons (And.intro @kill_dead @kill_arr)) (And.intro @kill_arrf (And.intro @appendW_eq @appR_sref))) (And.intro (And.intro @appR_nils (And.intro @appO_arr @rowsOf_sl)) (And.intro @rowsOf_nils (And.intro @rowsOf_sref @rowsO_arr)))))))
abbrev cB := And.intro @decide_eq_true_eq (And.intro @decide_eq_false_iff_not (And.intro @bne_iff_ne.{0} (And.intro @beq_iff_eq.{0} (And.intro @bne_eq_false_iff_eq.{0} (And.intro @beq_eq_false_iff_ne.{0} (And.intro @Nat.not_lt (And.intro @Nat.not_le (And.intro @Int.not_lt (And.intro @Int.not_le (And.intro @Bool.not_eq_true' @Bool.not_eq_false'))))))))))
structure Wr (p : Prop) : Prop where
  out : p
theorem aI {A B : Prop} (b : B) (a : A := by first | omega | (show AV.pures _ = true; rfl) | exact ⟨rfl, rfl⟩ | exact ⟨rfl, rfl, rfl⟩ | exact allLen_lit rfl | exact allOne_lit rfl | exact Or.inl rfl | exact Nat.le_refl _ | (simp only [sepP]; decide)) : A ∧ B := ⟨a, b⟩
theorem qG {G G' : Prop} (h : G') (e : G = G' := by conv => lhs; simp (disch := omega) only [thenW, blockW, cNat, cN, sgn, retR, newQ, newK, mutQ, mutQ2, AV.okR, resW, resV, asOne_one, asOne_two, asOne_three, view_sref, viewRef, List.getD_cons_zero, List.drop_zero, u32s_take, u32s_drop, view_sl, view_int, view_bool, view_str, view_nils, view_agg, view_tup, view_nilif, views_nil, views_cons, List.getD_cons_succ]) : G := e.mpr h
end Go.Proofs.YtjkjapjcmbfkgaaGreat.Vm

/-
  Natural numbers' limbs: trimmed, copied.
-/
namespace Go.Proofs.YtjkjapjcmbfkgaaGreat.Vm
open Go Go.RowKit
set_option maxRecDepth 100000
set_option linter.unusedVariables false
set_option linter.unusedSimpArgs false
theorem sNa {G G' : Prop} (h : G') (e : G = G' := by conv => lhs; simp (disch := omega) only [rowsOf, cNat, cN, St.ret, St.seth, Eff.app, Eff.wi, sepL, guardOf, St.known, objOf, List.set, sliceW, litW, copyW, lenOf, bnd, mxOk, ofCells, TI.isAgg, cellsOf, storable, AV.one, dead, laid, overlay, reduceCtorEq, Int.reduceLE, Int.reduceLT, Int.reduceSub, Int.reduceAdd, Nat.reduceMul, Int.reduceToNat, Nat.reducePow, Int.reduceNeg, Nat.reduceAdd, Nat.reduceLT, Nat.reduceLeDiff, sA, sB, sT]) : G := e.mpr h
theorem sNaX {G G' P : Prop} (p : P) (h : G') (e : P → G = G' := by intro p; conv => lhs; simp (disch := omega) only [rowsOf, cNat, cN, St.ret, St.seth, Eff.app, Eff.wi, sepL, guardOf, St.known, objOf, List.set, sliceW, litW, copyW, lenOf, bnd, mxOk, ofCells, TI.isAgg, cellsOf, storable, AV.one, dead, laid, overlay, reduceCtorEq, Int.reduceLE, Int.reduceLT, Int.reduceSub, Int.reduceAdd, Nat.reduceMul, Int.reduceToNat, Nat.reducePow, Int.reduceNeg, Nat.reduceAdd, Nat.reduceLT, Nat.reduceLeDiff, sA, sB, sT, p]) : G := (e p).mpr h
theorem aNa {G G' : Prop} (h : G') (f : Wr G' → G := by intro h; (repeat (first | (refine W_seqV fun K hK => ?_; (try (refine sNa ?_; try exact True.intro)); (repeat refine aI ?_); refine hK _ ?_; clear hK K) | (refine W_seqR fun K hK => ?_; (try (refine sNa ?_; try exact True.intro)); (repeat refine aI ?_); refine hK _ ?_; clear hK K) | (refine W_seqD mixed [] (by kernel_rfl) fun K hK => ?_; (try (refine sNa ?_; try exact True.intro)); (repeat refine aI ?_); refine hK _ ?_; clear hK K))); exact h.out) : G := f ⟨h⟩

set_option maxHeartbeats 1000000 in
theorem trim_ok (l : List Nat) (hl : l.length < 9223372036854775807) : Pure Tryz.prog 150 [cNat l] (· = cNat (trim l)) := by
  (refine pureW Tryz.func150 rfl (rs := [Go.ResultVar.tmp 2]) rfl (n := 21) rfl ?_; simp only [List.length_cons, List.length_nil, List.replicate, List.cons_append, List.nil_append])
  unfold cNat
  ((first | refine W_seqR ?_ | refine W_seq (W_seqR ?_)); intro K hK; (refine sNa ?_; try exact True.intro))
  ((repeat refine aI ?_); refine hK _ ?_; clear hK K)
  ((first | refine W_seqR ?_ | refine W_seq (W_seqR ?_)); intro K hK; (refine sNa ?_; try exact True.intro))
  ((repeat refine aI ?_); refine hK _ ?_; clear hK K)
  refine W_seq (W_block (W_loop (fun n : {n : Nat // n ≤ l.length ∧ cutLen l n = cutLen l l.length} => ⟨[.sl (u32s l), .any, .any, .int .i64 n.1, .any, .any, .any, .any, .any, .any, .any, .any, .any, .any, .any, .any, .any, .any, .any, .any, .any], _⟩) (fun n => n.1) ⟨l.length, Nat.le_refl _, rfl⟩ (Le_of ?_ rfl) fun n => ?_))
  · simp [leE]
  obtain ⟨n, hn, hc⟩ := n
  refine W_seq ?_
  dsimp only
  rcases Nat.eq_zero_or_pos n with rfl | hpos
  · ((first | refine W_seqR ?_ | refine W_seq (W_seqR ?_)); intro K hK; (refine sNa ?_; try exact True.intro))
    ((repeat refine aI ?_); refine hK _ ?_; clear hK K)
    refine W_cond rfl (fun h => ?_) (fun h => ?_)
    · simp at h
    refine W_exit ?_
    simp only [thenW, blockW, if_true]
    ((first | refine W_seqR ?_ | refine W_seq (W_seqR ?_)); intro K hK; (refine sNa ?_; try exact True.intro))
    ((repeat refine aI ?_); refine hK _ ?_; clear hK K)
    refine W_ret ?_
    (refine qG ?_; try exact True.intro)
    simp [trim, ← hc, cutLen, u32s]
  · ((first | refine W_seqR ?_ | refine W_seq (W_seqR ?_) | refine W_regR ?_); intro K hK; (refine sNaX hpos ?_; try exact True.intro))
    refine ⟨by omega, ?_⟩
    ((repeat refine aI ?_); refine hK _ ?_; clear hK K)
    refine W_cond rfl (fun h => ?_) (fun h => ?_)
    · refine W_skip (W_block (W_regR fun K hK => ?_))
      (refine sNa ?_; try exact True.intro)
      refine hK _ ⟨⟨n - 1, by omega, ?_⟩, Le_of ?_ rfl, ?_⟩
      · rw [← hc]
        obtain ⟨m, rfl⟩ : ∃ m, n = m + 1 := ⟨n - 1, by omega⟩
        simp at h
        simp only [cutLen, Nat.add_sub_cancel, List.getD_eq_getElem?_getD, h, if_true]
      · simp [leE]
      · simp; omega
    refine W_exit ?_
    simp only [thenW, blockW, if_true]
    ((first | refine W_seqR ?_ | refine W_seq (W_seqR ?_)); intro K hK; (refine sNa ?_; try exact True.intro))
    refine ⟨hn, ?_⟩
    ((repeat refine aI ?_); refine hK _ ?_; clear hK K)
    refine W_ret ?_
    (refine qG ?_; try exact True.intro)
    obtain ⟨m, rfl⟩ : ∃ m, n = m + 1 := ⟨n - 1, by omega⟩
    simp at h
    simp only [trim, ← hc, cutLen, List.getD_eq_getElem?_getD, h, if_false]

set_option maxHeartbeats 1000000 in
theorem own_ok (l : List Nat) (hl : l.length < 1099511627776) : Pure Tryz.prog 149 [cNat l] (· = cNat (trim l)) := by
  have htl := trim_length l
  (refine pureW Tryz.func149 rfl (rs := [Go.ResultVar.tmp 2]) rfl (n := 16) rfl ?_; simp only [List.length_cons, List.length_nil, List.replicate, List.cons_append, List.nil_append])
  unfold cNat
  ((first | refine W_seqR ?_ | refine W_seq (W_seqR ?_)); intro K hK; (refine sNa ?_; try exact True.intro))
  ((repeat refine aI ?_); refine hK _ ?_; clear hK K)
  ((first | refine W_seqR ?_ | refine W_seq (W_seqR ?_)); intro K hK; (refine sNa ?_; try exact True.intro))
  (refine ⟨by kernel_rfl, call_pure rfl (trim_ok l (by omega)) fun r hr => ?_⟩; subst hr; (refine sNa ?_; try exact True.intro))
  ((repeat refine aI ?_); refine hK _ ?_; clear hK K)
  refine W_seq ?_
  ((first | refine W_seqR ?_ | refine W_seq (W_seqR ?_)); intro K hK; (refine sNa ?_; try exact True.intro))
  ((repeat refine aI ?_); refine hK _ ?_; clear hK K)
  refine W_cond rfl (fun h => ?_) (fun h => ?_)
  · ((first | refine W_seqR ?_ | refine W_seq (W_seqR ?_)); intro K hK; (refine sNa ?_; try exact True.intro))
    ((repeat refine aI ?_); refine hK _ ?_; clear hK K)
    refine W_ret ?_
    (refine qG ?_; try exact True.intro)
    simp at h
    rw [h]
    rfl
  · refine W_skip ?_
    ((first | refine W_seqR ?_ | refine W_seq (W_seqR ?_)); intro K hK; (refine sNa ?_; try exact True.intro))
    refine ⟨by omega, by omega, ?_⟩
    ((repeat refine aI ?_); refine hK _ ?_; clear hK K)
    ((first | refine W_seqR ?_ | refine W_seq (W_seqR ?_)); intro K hK; (refine sNa ?_; try exact True.intro))
    refine ⟨by simp, ?_⟩
    ((repeat refine aI ?_); refine hK _ ?_; clear hK K)
    ((first | refine W_seqR ?_ | refine W_seq (W_seqR ?_)); intro K hK; (refine sNa ?_; try exact True.intro))
    ((repeat refine aI ?_); refine hK _ ?_; clear hK K)
    refine W_ret ?_
    (refine qG ?_; try exact True.intro)
    simp [u32s, List.take_of_length_le]
end Go.Proofs.YtjkjapjcmbfkgaaGreat.Vm

/-
  Natural numbers: small helpers.
-/
namespace Go.Proofs.YtjkjapjcmbfkgaaGreat.Vm
open Go Go.RowKit
set_option maxRecDepth 100000
set_option linter.unusedVariables false
set_option linter.unusedSimpArgs false

theorem own_ok' (l : List Nat) (h : Limbs l) (hl : l.length < 1099511627776) : Pure Tryz.prog 149 [cNat l] (· = cN (val l)) := by
  have := own_ok l hl
  rwa [trim_eq h] at this
theorem trim_ok' (l : List Nat) (h : Limbs l) (hl : l.length < 1099511627776) : Pure Tryz.prog 150 [cNat l] (· = cN (val l)) := by
  have := trim_ok l (by omega)
  rwa [trim_eq h] at this

set_option maxHeartbeats 1000000 in
theorem norm_ok (l : List Nat) (h : Limbs l) (hl : l.length < 1099511627776) : Pure Tryz.prog 165 [cNat l] (· = cN (val l)) := by
  (refine pureW Tryz.func165 rfl (rs := [Go.ResultVar.tmp 2]) rfl (n := 5) rfl ?_; simp only [List.length_cons, List.length_nil, List.replicate, List.cons_append, List.nil_append])
  (refine aNa ?_)
  ((first | refine W_seqR ?_ | refine W_seq (W_seqR ?_)); intro K hK; (refine sNa ?_; try exact True.intro))
  (refine ⟨by kernel_rfl, call_pure rfl (own_ok' l h hl) fun r hr => ?_⟩; subst hr; (refine sNa ?_; try exact True.intro))
  ((repeat refine aI ?_); refine hK _ ?_; clear hK K)
  refine W_ret ?_
  (refine qG ?_; try exact True.intro)

set_option maxHeartbeats 1000000 in
theorem add32_ok (x y c : Nat) (hx : x < 4294967296) (hy : y < 4294967296) (hc : c < 4294967296) : Pure Tryz.prog 175 [.int .u32 x, .int .u32 y, .int .u32 c] (· = .tup [.int .u32 ((x + y + c) % 4294967296 : Nat), .int .u32 ((x + y + c) / 4294967296 : Nat)]) := by
  (refine pureW Tryz.func175 rfl (rs := [Go.ResultVar.tmp 6, Go.ResultVar.tmp 7]) rfl (n := 22) rfl ?_; simp only [List.length_cons, List.length_nil, List.replicate, List.cons_append, List.nil_append])
  (refine aNa ?_)
  refine W_ret ?_
  (refine qG ?_; try exact True.intro)
  simp only [AV.tup.injEq, List.cons.injEq, AV.int.injEq, true_and, and_true]
  omega

set_option maxHeartbeats 1000000 in
theorem of_ok (n : Nat) (h : n < 18446744073709551616) : Pure Tryz.prog 121 [.int .u64 n] (· = cN n) := by
  have hv : val [n % 4294967296, n / 4294967296 % 4294967296] = n := by simp only [val]; omega
  have hl : Limbs [n % 4294967296, n / 4294967296 % 4294967296] := by
    intro x hx
    simp only [List.mem_cons, List.not_mem_nil, or_false] at hx
    omega
  have ho := own_ok' _ hl (by simp)
  rw [hv] at ho
  (refine pureW Tryz.func121 rfl (rs := [Go.ResultVar.tmp 2]) rfl (n := 10) rfl ?_; simp only [List.length_cons, List.length_nil, List.replicate, List.cons_append, List.nil_append])
  (refine aNa ?_)
  ((first | refine W_seqV ?_ | refine W_seq (W_seqV ?_) | refine W_regV ?_); intro K hK; (refine sNa ?_; try exact True.intro))
  refine ⟨⟨rfl, rfl⟩, ?_⟩
  ((repeat refine aI ?_); refine ⟨by kernel_rfl, rfl, _, ho, ?_⟩; (try (refine sNa ?_; try exact True.intro)); (repeat refine aI ?_))
  ((repeat refine aI ?_); refine hK _ ?_; clear hK K)
  refine W_ret ?_
  (refine qG ?_; try exact True.intro)

set_option maxHeartbeats 1000000 in
theorem sub32_ok (x y c : Nat) (hx : x < 4294967296) (hy : y < 4294967296) (hc : c < 2) : Pure Tryz.prog 174 [.int .u32 x, .int .u32 y, .int .u32 c] (· = .tup [.int .u32 ((x + 2 * 4294967296 - y - c) % 4294967296 : Nat), .int .u32 ((if x < y + c then 1 else 0 : Nat) : Int)]) := by
  have hxy : (x ^^^ y) < 4294967296 := Nat.xor_lt_two_pow (n := 32) hx hy
  have h1 : ((4294967295 - x) &&& y) < 4294967296 := Nat.lt_of_le_of_lt Nat.and_le_right hy
  have h2 : ∀ d, ((4294967295 - (x ^^^ y)) &&& d) < 4294967296 := fun d => Nat.lt_of_le_of_lt Nat.and_le_left (by omega)
  have h3 := h2 (((x + 4294967296 - y) % 4294967296 + 4294967296 - c) % 4294967296)
  have hb := borrow hx hy hc (d := ((x + 4294967296 - y) % 4294967296 + 4294967296 - c) % 4294967296) (by omega)
  (refine pureW Tryz.func174 rfl (rs := [Go.ResultVar.tmp 6, Go.ResultVar.tmp 7]) rfl (n := 25) rfl ?_; simp only [List.length_cons, List.length_nil, List.replicate, List.cons_append, List.nil_append])
  (refine aNa ?_)
  refine W_ret ?_
  (refine qG ?_; try exact True.intro)
  rw [hb]
  simp only [AV.tup.injEq, List.cons.injEq, AV.int.injEq, true_and, and_true]
  omega

set_option maxHeartbeats 1000000 in
theorem ncmp_ok (l m : List Nat) (hl : Limbs l) (hm : Limbs m) (h1 : l.length < 1099511627776) (h2 : m.length < 1099511627776) : Pure Tryz.prog 151 [cNat l, cNat m] (· = .int .i64 (sgn (val l) (val m))) := by
  have h3 := limbs_val_length hl
  have h4 := limbs_val_length hm
  (refine pureW Tryz.func151 rfl (rs := [Go.ResultVar.tmp 4]) rfl (n := 45) rfl ?_; simp only [List.length_cons, List.length_nil, List.replicate, List.cons_append, List.nil_append])
  (refine aNa ?_)
  ((first | refine W_seqV ?_ | refine W_seq (W_seqV ?_) | refine W_regV ?_); intro K hK; (refine sNa ?_; try exact True.intro))
  ((repeat refine aI ?_); refine ⟨by kernel_rfl, rfl, _, trim_ok' l hl h1, ?_⟩; (try (refine sNa ?_; try exact True.intro)); (repeat refine aI ?_))
  ((repeat refine aI ?_); refine ⟨by kernel_rfl, rfl, _, trim_ok' m hm h2, ?_⟩; (try (refine sNa ?_; try exact True.intro)); (repeat refine aI ?_))
  ((repeat refine aI ?_); refine hK _ ?_; clear hK K)
  (repeat' (first | (exfalso; simp at h; done) | refine W_block ?_ | (refine W_seqV fun K hK => ?_; (try (refine sNa ?_; try exact True.intro)); (repeat refine aI ?_); refine hK _ ?_; clear hK K) | (refine W_seqR fun K hK => ?_; (try (refine sNa ?_; try exact True.intro)); (repeat refine aI ?_); refine hK _ ?_; clear hK K) | (refine W_seqD mixed [] (by kernel_rfl) fun K hK => ?_; (try (refine sNa ?_; try exact True.intro)); (repeat refine aI ?_); refine hK _ ?_; clear hK K) | (refine W_regV fun K hK => ?_; (try (refine sNa ?_; try exact True.intro)); (repeat refine aI ?_); refine hK _ ?_; clear hK K) | (refine W_regR fun K hK => ?_; (try (refine sNa ?_; try exact True.intro)); (repeat refine aI ?_); refine hK _ ?_; clear hK K) | (refine W_regD mixed [] (by kernel_rfl) fun K hK => ?_; (try (refine sNa ?_; try exact True.intro)); (repeat refine aI ?_); refine hK _ ?_; clear hK K) | refine W_skip ?_ | (refine W_ret ?_; (refine qG ?_; try exact True.intro)) | (refine W_exit ?_; simp only [thenW, blockW, if_true, reduceCtorEq, if_false, Nat.reduceEqDiff]) | refine W_cond rfl (fun h => ?_) (fun h => ?_) | refine W_seq ?_))
  · have hlt : val l < val m := by
      refine Nat.lt_of_not_le fun hle => ?_
      have := limbs_mono hle
      simp at h
      omega
    simp [hlt]
  · have hlt : val m < val l := by
      refine Nat.lt_of_not_le fun hle => ?_
      have := limbs_mono hle
      simp at h
      rename_i h0
      simp at h0
      omega
    simp [hlt, Nat.lt_asymm hlt]
  · simp at h
    refine W_loop (fun i : {i : Nat // i ≤ (limbs (val l)).length ∧ (limbs (val l)).drop i = (limbs (val m)).drop i} => ⟨[.sl (u32s (limbs (val l))), .sl (u32s (limbs (val m))), .any, .any, .any, .int .i64 ((i.1 : Int) - 1), .any, .any, .any, .any, .any, .any, .any, .any, .any, .any, .any, .any, .any, .any, .any, .any, .any, .any, .any, .any, .any, .any, .any, .any, .any, .any, .any, .any, .any, .any, .any, .any, .any, .any, .any, .any, .any, .any, .any], _⟩) (fun i => i.1) ⟨(limbs (val l)).length, Nat.le_refl _, by rw [List.drop_eq_nil_of_le (Nat.le_refl _), List.drop_eq_nil_of_le (by omega)]⟩ (Le_of ?_ rfl) fun i => ?_
    · have := wrap_i64 (x := ((limbs (val l)).length : Int) - 1) (by omega) (by omega)
      simp [leE, this]
    obtain ⟨i, hi, hd⟩ := i
    dsimp only
    rcases i with _ | i
    · refine W_seq ?_
      ((first | refine W_seqV ?_ | refine W_seq (W_seqV ?_) | refine W_regV ?_); intro K hK; (refine sNa ?_; try exact True.intro))
      ((repeat refine aI ?_); refine hK _ ?_; clear hK K)
      (repeat' (first | (exfalso; simp at h; done) | refine W_block ?_ | (refine W_seqV fun K hK => ?_; (try (refine sNa ?_; try exact True.intro)); (repeat refine aI ?_); refine hK _ ?_; clear hK K) | (refine W_seqR fun K hK => ?_; (try (refine sNa ?_; try exact True.intro)); (repeat refine aI ?_); refine hK _ ?_; clear hK K) | (refine W_seqD mixed [] (by kernel_rfl) fun K hK => ?_; (try (refine sNa ?_; try exact True.intro)); (repeat refine aI ?_); refine hK _ ?_; clear hK K) | (refine W_regV fun K hK => ?_; (try (refine sNa ?_; try exact True.intro)); (repeat refine aI ?_); refine hK _ ?_; clear hK K) | (refine W_regR fun K hK => ?_; (try (refine sNa ?_; try exact True.intro)); (repeat refine aI ?_); refine hK _ ?_; clear hK K) | (refine W_regD mixed [] (by kernel_rfl) fun K hK => ?_; (try (refine sNa ?_; try exact True.intro)); (repeat refine aI ?_); refine hK _ ?_; clear hK K) | refine W_skip ?_ | (refine W_ret ?_; (refine qG ?_; try exact True.intro)) | (refine W_exit ?_; simp only [thenW, blockW, if_true, reduceCtorEq, if_false, Nat.reduceEqDiff]) | refine W_cond rfl (fun h => ?_) (fun h => ?_) | refine W_seq ?_))
      · have he : val l = val m := by
          rw [← val_limbs (val l), ← val_limbs (val m), show limbs (val l) = limbs (val m) from hd]
        simp [he]
    · have hj : ((i + 1 : Nat) : Int) - 1 = i := by omega
      rw [hj]
      have hi2 : i < (limbs (val m)).length := by omega
      have top := fun h => val_lt_of_top (i := i) (limbs_limbs (val l)) (by omega) hi2 hd h
      have top' := fun h => val_lt_of_top (i := i) (limbs_limbs (val m)) hi2 (by omega) hd.symm h
      rw [val_limbs, val_limbs] at top top'
      (repeat' (first | (exfalso; simp at h; done) | refine W_block ?_ | (refine W_seqV fun K hK => ?_; (try (refine sNa ?_; try exact True.intro)); (repeat refine aI ?_); refine hK _ ?_; clear hK K) | (refine W_seqR fun K hK => ?_; (try (refine sNa ?_; try exact True.intro)); (repeat refine aI ?_); refine hK _ ?_; clear hK K) | (refine W_seqD mixed [] (by kernel_rfl) fun K hK => ?_; (try (refine sNa ?_; try exact True.intro)); (repeat refine aI ?_); refine hK _ ?_; clear hK K) | (refine W_regV fun K hK => ?_; (try (refine sNa ?_; try exact True.intro)); (repeat refine aI ?_); refine hK _ ?_; clear hK K) | (refine W_regR fun K hK => ?_; (try (refine sNa ?_; try exact True.intro)); (repeat refine aI ?_); refine hK _ ?_; clear hK K) | (refine W_regD mixed [] (by kernel_rfl) fun K hK => ?_; (try (refine sNa ?_; try exact True.intro)); (repeat refine aI ?_); refine hK _ ?_; clear hK K) | refine W_skip ?_ | (refine W_ret ?_; (refine qG ?_; try exact True.intro)) | (refine W_exit ?_; simp only [thenW, blockW, if_true, reduceCtorEq, if_false, Nat.reduceEqDiff]) | refine W_cond rfl (fun h => ?_) (fun h => ?_) | refine W_seq ?_))
      · simp only [decide_eq_true_eq] at h
        simp [top h]
      · rename_i h0
        simp only [decide_eq_false_iff_not] at h
        simp only [bne_iff_ne, ne_eq] at h0
        have := top' (by omega)
        simp [this, Nat.lt_asymm this]
      · refine ⟨⟨i, by omega, ?_⟩, Le_of ?_ rfl, ?_⟩
        · have h5 : (limbs (val l)).getD i 0 = (limbs (val m)).getD i 0 := by simp only [bne_eq_false_iff_eq] at h; omega
          rw [List.drop_eq_getElem_cons (by omega), List.drop_eq_getElem_cons (i := i) hi2, hd]
          congr 1
          simpa [List.getD_eq_getElem?_getD, show i < (limbs (val l)).length by omega, hi2] using h5
        · simp only [leE, or_true, true_or, and_true, true_and]
          simp
          exact wrap_i64 (by omega) (by omega)
        · simp
end Go.Proofs.YtjkjapjcmbfkgaaGreat.Vm

/-
  Natural numbers: sum and difference.
-/
namespace Go.Proofs.YtjkjapjcmbfkgaaGreat.Vm
open Go Go.RowKit
set_option maxRecDepth 100000
set_option linter.unusedVariables false
set_option linter.unusedSimpArgs false

set_option maxHeartbeats 1000000 in
theorem nadd_ok (l m : List Nat) (hl : Limbs l) (hm : Limbs m) (h1 : l.length < 549755813888) (h2 : m.length < 549755813888) : Pure Tryz.prog 172 [cNat l, cNat m] (· = cN (val l + val m)) := by
  (refine pureW Tryz.func172 rfl (rs := [Go.ResultVar.tmp 4]) rfl (n := 54) rfl ?_; simp only [List.length_cons, List.length_nil, List.replicate, List.cons_append, List.nil_append])
  (refine aNa ?_)
  refine W_join (fun s' => ∃ l' m', Limbs l' ∧ Limbs m' ∧ l'.length < 549755813888 ∧ m'.length ≤ l'.length ∧ val l' + val m' = val l + val m ∧ Le [] s' ⟨[.sl (u32s l'), .sl (u32s m'), .any, .any, .any, .any, .any, .any, .any, .any, .any, .any, .any, .any, .any, .any, .any, .any, .any, .any, .any, .any, .any, .any, .any, .any, .any, .any, .any, .any, .any, .any, .any, .any, .any, .any, .any, .any, .any, .any, .any, .any, .any, .any, .any, .any, .any, .any, .any, .any, .any, .any, .any, .any], [.dead, .dead, .dead, .dead, .dead, .dead, .dead, .dead, .dead, .dead, .dead, .dead, .dead, .dead, .dead, .dead, .dead, .dead, .dead, .dead, .dead, .dead, .dead, .dead, .dead, .dead, .dead, .dead, .dead, .dead, .dead, .dead, .dead, .dead, .dead, .dead, .dead, .dead, .dead, .dead, .dead, .dead, .dead, .dead, .dead, .dead, .dead, .dead, .dead, .dead, .dead, .dead, .dead, .dead]⟩) ?_ ?_
  · (repeat' (first | (exfalso; simp at h; done) | refine W_block ?_ | (refine W_seqV fun K hK => ?_; (try (refine sNa ?_; try exact True.intro)); (repeat refine aI ?_); refine hK _ ?_; clear hK K) | (refine W_seqR fun K hK => ?_; (try (refine sNa ?_; try exact True.intro)); (repeat refine aI ?_); refine hK _ ?_; clear hK K) | (refine W_seqD mixed [] (by kernel_rfl) fun K hK => ?_; (try (refine sNa ?_; try exact True.intro)); (repeat refine aI ?_); refine hK _ ?_; clear hK K) | (refine W_regV fun K hK => ?_; (try (refine sNa ?_; try exact True.intro)); (repeat refine aI ?_); refine hK _ ?_; clear hK K) | (refine W_regR fun K hK => ?_; (try (refine sNa ?_; try exact True.intro)); (repeat refine aI ?_); refine hK _ ?_; clear hK K) | (refine W_regD mixed [] (by kernel_rfl) fun K hK => ?_; (try (refine sNa ?_; try exact True.intro)); (repeat refine aI ?_); refine hK _ ?_; clear hK K) | refine W_skip ?_ | (refine W_ret ?_; (refine qG ?_; try exact True.intro)) | (refine W_exit ?_; simp only [thenW, blockW, if_true, reduceCtorEq, if_false, Nat.reduceEqDiff]) | (refine W_cond rfl (fun h => ?_) (fun h => ?_) <;> (try simp only [cond_true, cond_false, ne_eq, cB] at h)) | refine W_seq ?_))
    · exact ⟨m, l, hm, hl, h2, by omega, by omega, Le_of (by simp [leE]) rfl⟩
    · exact ⟨l, m, hl, hm, h1, by omega, rfl, Le_of (by simp [leE]) rfl⟩
  clear hl hm h1 h2
  rintro s' ⟨l', m', hl, hm, h1, h2, hv, hle⟩
  rw [← hv]
  clear hv
  refine W.le ?_ hle
  clear hle l m
  (repeat' (first | (exfalso; simp at h; done) | refine W_block ?_ | (refine W_seqV fun K hK => ?_; (try (refine sNa ?_; try exact True.intro)); (repeat refine aI ?_); refine hK _ ?_; clear hK K) | (refine W_seqR fun K hK => ?_; (try (refine sNa ?_; try exact True.intro)); (repeat refine aI ?_); refine hK _ ?_; clear hK K) | (refine W_seqD mixed [] (by kernel_rfl) fun K hK => ?_; (try (refine sNa ?_; try exact True.intro)); (repeat refine aI ?_); refine hK _ ?_; clear hK K) | (refine W_regV fun K hK => ?_; (try (refine sNa ?_; try exact True.intro)); (repeat refine aI ?_); refine hK _ ?_; clear hK K) | (refine W_regR fun K hK => ?_; (try (refine sNa ?_; try exact True.intro)); (repeat refine aI ?_); refine hK _ ?_; clear hK K) | (refine W_regD mixed [] (by kernel_rfl) fun K hK => ?_; (try (refine sNa ?_; try exact True.intro)); (repeat refine aI ?_); refine hK _ ?_; clear hK K) | refine W_skip ?_ | (refine W_ret ?_; (refine qG ?_; try exact True.intro)) | (refine W_exit ?_; simp only [thenW, blockW, if_true, reduceCtorEq, if_false, Nat.reduceEqDiff]) | (refine W_cond rfl (fun h => ?_) (fun h => ?_) <;> (try simp only [cond_true, cond_false, ne_eq, cB] at h)) | refine W_seq ?_))
  refine W_loop (fun t : {t : Nat × List Nat × Nat // t.1 ≤ l'.length ∧ t.2.1.length = l'.length + 1 ∧ Limbs t.2.1 ∧ t.2.2 ≤ 1 ∧ val (t.2.1.take t.1) + 4294967296 ^ t.1 * t.2.2 = val (l'.take t.1) + val (m'.take t.1)} =>
      ⟨[.sl (u32s l'), .sl (u32s m'), .any, .any, .any, .sref 19 0 (l'.length + 1), .int .u32 t.1.2.2, .any, .any, .any, .any, .any, .any, .any, .any, .any, .any, .any, .any, .any, .any, .int .i64 l'.length, .int .i64 t.1.1, .any, .any, .any, .any, .any, .any, .any, .any, .any, .any, .any, .any, .any, .any, .any, .any, .any, .any, .any, .any, .any, .any, .any, .any, .any, .any, .any, .any, .any, .any, .any], [.dead, .dead, .dead, .dead, .dead, .dead, .dead, .dead, .dead, .dead, .dead, .dead, .dead, .dead, .dead, .dead, .dead, .dead, .dead, .arr 114 1 true (u32s t.1.2.1), .dead, .dead, .dead, .dead, .dead, .dead, .dead, .dead, .dead, .dead, .dead, .dead, .dead, .dead, .dead, .dead, .dead, .dead, .dead, .dead, .dead, .dead, .dead, .dead, .dead, .dead, .dead, .dead, .dead, .dead, .dead, .dead, .dead, .dead]⟩) (fun t => l'.length - t.1.1)
    ⟨(0, List.replicate (l'.length + 1) 0, 0), by simp, by simp, Limbs.rep _, by simp, by simp [val]⟩ (Le_of (by simp [leE]) rfl) fun t => ?_
  obtain ⟨⟨i, c, k⟩, h3, h4, h5, h6, h7⟩ := t
  dsimp only at h3 h4 h5 h6 h7 ⊢
  have hi : i < c.length := by omega
  (repeat' (first | (exfalso; simp at h; done) | refine W_block ?_ | (refine W_seqV fun K hK => ?_; (try (refine sNa ?_; try exact True.intro)); (repeat refine aI ?_); refine hK _ ?_; clear hK K) | (refine W_seqR fun K hK => ?_; (try (refine sNa ?_; try exact True.intro)); (repeat refine aI ?_); refine hK _ ?_; clear hK K) | (refine W_seqD mixed [] (by kernel_rfl) fun K hK => ?_; (try (refine sNa ?_; try exact True.intro)); (repeat refine aI ?_); refine hK _ ?_; clear hK K) | (refine W_regV fun K hK => ?_; (try (refine sNa ?_; try exact True.intro)); (repeat refine aI ?_); refine hK _ ?_; clear hK K) | (refine W_regR fun K hK => ?_; (try (refine sNa ?_; try exact True.intro)); (repeat refine aI ?_); refine hK _ ?_; clear hK K) | (refine W_regD mixed [] (by kernel_rfl) fun K hK => ?_; (try (refine sNa ?_; try exact True.intro)); (repeat refine aI ?_); refine hK _ ?_; clear hK K) | refine W_skip ?_ | (refine W_ret ?_; (refine qG ?_; try exact True.intro)) | (refine W_exit ?_; simp only [thenW, blockW, if_true, reduceCtorEq, if_false, Nat.reduceEqDiff]) | (refine W_cond rfl (fun h => ?_) (fun h => ?_) <;> (try simp only [cond_true, cond_false, ne_eq, cB] at h)) | refine W_seq ?_))
  · (refine W_regV fun K hK => ?_; (refine sNa ?_; try exact True.intro))
    ((repeat refine aI ?_); refine ⟨by kernel_rfl, rfl, _, add32_ok _ _ k (hl.getD i) (hm.getD i) (by omega), ?_⟩; (try (refine sNa ?_; try exact True.intro)); (repeat refine aI ?_))
    ((repeat refine aI ?_); refine hK _ ?_; clear hK K)
    (repeat' (first | (exfalso; simp at h; done) | refine W_block ?_ | (refine W_seqV fun K hK => ?_; (try (refine sNa ?_; try exact True.intro)); (repeat refine aI ?_); refine hK _ ?_; clear hK K) | (refine W_seqR fun K hK => ?_; (try (refine sNa ?_; try exact True.intro)); (repeat refine aI ?_); refine hK _ ?_; clear hK K) | (refine W_seqD mixed [] (by kernel_rfl) fun K hK => ?_; (try (refine sNa ?_; try exact True.intro)); (repeat refine aI ?_); refine hK _ ?_; clear hK K) | (refine W_regV fun K hK => ?_; (try (refine sNa ?_; try exact True.intro)); (repeat refine aI ?_); refine hK _ ?_; clear hK K) | (refine W_regR fun K hK => ?_; (try (refine sNa ?_; try exact True.intro)); (repeat refine aI ?_); refine hK _ ?_; clear hK K) | (refine W_regD mixed [] (by kernel_rfl) fun K hK => ?_; (try (refine sNa ?_; try exact True.intro)); (repeat refine aI ?_); refine hK _ ?_; clear hK K) | refine W_skip ?_ | (refine W_ret ?_; (refine qG ?_; try exact True.intro)) | (refine W_exit ?_; simp only [thenW, blockW, if_true, reduceCtorEq, if_false, Nat.reduceEqDiff]) | (refine W_cond rfl (fun h => ?_) (fun h => ?_) <;> (try simp only [cond_true, cond_false, ne_eq, cB] at h)) | refine W_seq ?_))
    have hx := hl.getD i
    have hy := hm.getD i
    refine ⟨⟨(i + 1, c.set i ((l'.getD i 0 + m'.getD i 0 + k) % 4294967296), (l'.getD i 0 + m'.getD i 0 + k) / 4294967296), by dsimp only; omega, by simpa using h4, h5.set i (by omega), by dsimp only; omega, ?_⟩, Le_of (by simp only [leE, or_true, true_or, and_true, true_and]) rfl, by dsimp only; omega⟩
    dsimp only
    rw [val_take_set hi, val_take_succ, val_take_succ, Nat.pow_succ]
    exact add_round h7 (by omega)
  · (refine W_regV fun K hK => ?_; (refine sNa ?_; try exact True.intro))
    have h0 : m'.getD i 0 = 0 := by simp [List.getD_eq_getElem?_getD, h]
    ((repeat refine aI ?_); refine ⟨by kernel_rfl, rfl, _, add32_ok _ 0 k (hl.getD i) (by omega) (by omega), ?_⟩; (try (refine sNa ?_; try exact True.intro)); (repeat refine aI ?_))
    ((repeat refine aI ?_); refine hK _ ?_; clear hK K)
    (repeat' (first | (exfalso; simp at h; done) | refine W_block ?_ | (refine W_seqV fun K hK => ?_; (try (refine sNa ?_; try exact True.intro)); (repeat refine aI ?_); refine hK _ ?_; clear hK K) | (refine W_seqR fun K hK => ?_; (try (refine sNa ?_; try exact True.intro)); (repeat refine aI ?_); refine hK _ ?_; clear hK K) | (refine W_seqD mixed [] (by kernel_rfl) fun K hK => ?_; (try (refine sNa ?_; try exact True.intro)); (repeat refine aI ?_); refine hK _ ?_; clear hK K) | (refine W_regV fun K hK => ?_; (try (refine sNa ?_; try exact True.intro)); (repeat refine aI ?_); refine hK _ ?_; clear hK K) | (refine W_regR fun K hK => ?_; (try (refine sNa ?_; try exact True.intro)); (repeat refine aI ?_); refine hK _ ?_; clear hK K) | (refine W_regD mixed [] (by kernel_rfl) fun K hK => ?_; (try (refine sNa ?_; try exact True.intro)); (repeat refine aI ?_); refine hK _ ?_; clear hK K) | refine W_skip ?_ | (refine W_ret ?_; (refine qG ?_; try exact True.intro)) | (refine W_exit ?_; simp only [thenW, blockW, if_true, reduceCtorEq, if_false, Nat.reduceEqDiff]) | (refine W_cond rfl (fun h => ?_) (fun h => ?_) <;> (try simp only [cond_true, cond_false, ne_eq, cB] at h)) | refine W_seq ?_))
    have hx := hl.getD i
    refine ⟨⟨(i + 1, c.set i ((l'.getD i 0 + k) % 4294967296), (l'.getD i 0 + k) / 4294967296), by dsimp only; omega, by simpa using h4, h5.set i (by omega), by dsimp only; omega, ?_⟩, Le_of (by simp only [leE, or_true, true_or, and_true, true_and]) rfl, by dsimp only; omega⟩
    dsimp only
    rw [val_take_set hi, val_take_succ, val_take_succ, Nat.pow_succ, h0]
    exact add_round h7 (by omega)
  · have h0 : i = l'.length := by omega
    subst h0
    rw [List.take_length, List.take_of_length_le h2] at h7
    have hv := val_take_set hi k
    rw [List.take_of_length_le (by simp; omega)] at hv
    (refine W.le ?_ (Le_freeze 19 (rows := u32s (c.set l'.length k)) rfl (by simp) (.inl rfl)); simp only [St.freeze, List.map_cons, List.map_nil, List.set, if_true, if_false, Nat.reduceEqDiff, reduceCtorEq, List.drop_zero, u32s_take, u32s_drop, froz_any, froz_und, froz_int, froz_bool, froz_str, froz_nils, froz_sl, froz_ia, froz_nilp, froz_nilif, froz_nilfn, froz_nilmp, froz_gl, froz_sref, froz_ptr, froz_agg, froz_tup, froz_fn, froz_ifc, frozs_nil, frozs_cons, froz_dead, froz_arr])
    rw [List.take_of_length_le (by simp; omega)]
    (refine W_regV fun K hK => ?_; (refine sNa ?_; try exact True.intro))
    ((repeat refine aI ?_); refine ⟨by kernel_rfl, rfl, _, own_ok' _ (h5.set l'.length (by omega)) (by simp; omega), ?_⟩; (try (refine sNa ?_; try exact True.intro)); (repeat refine aI ?_))
    ((repeat refine aI ?_); refine hK _ ?_; clear hK K)
    refine W_ret ?_
    (refine qG ?_; try exact True.intro)
    rw [hv, h7]
end Go.Proofs.YtjkjapjcmbfkgaaGreat.Vm

/-
  Natural numbers: difference.
-/
namespace Go.Proofs.YtjkjapjcmbfkgaaGreat.Vm
open Go Go.RowKit
set_option maxRecDepth 100000
set_option linter.unusedVariables false
set_option linter.unusedSimpArgs false

set_option maxHeartbeats 1000000 in
theorem nsub_ok (l m : List Nat) (hl : Limbs l) (hm : Limbs m) (h1 : l.length < 549755813888) (h2 : m.length < 549755813888) : Pure Tryz.prog 173 [cNat l, cNat m] (· = .tup [cN (val l - val m), .int .i64 (if val l < val m then 10 else 0)]) := by
  (refine pureW Tryz.func173 rfl (rs := [Go.ResultVar.tmp 4, Go.ResultVar.tmp 5]) rfl (n := 48) rfl ?_; simp only [List.length_cons, List.length_nil, List.replicate, List.cons_append, List.nil_append])
  (refine aNa ?_)
  refine W_seq ?_
  ((first | refine W_seqV ?_ | refine W_seq (W_seqV ?_) | refine W_regV ?_); intro K hK; (refine sNa ?_; try exact True.intro))
  ((repeat refine aI ?_); refine ⟨by kernel_rfl, rfl, _, ncmp_ok l m hl hm (by omega) (by omega), ?_⟩; (try (refine sNa ?_; try exact True.intro)); (repeat refine aI ?_))
  ((repeat refine aI ?_); refine hK _ ?_; clear hK K)
  (repeat' (first | (exfalso; simp at h; done) | refine W_block ?_ | (refine W_seqV fun K hK => ?_; (try (refine sNa ?_; try exact True.intro)); (repeat refine aI ?_); refine hK _ ?_; clear hK K) | (refine W_seqR fun K hK => ?_; (try (refine sNa ?_; try exact True.intro)); (repeat refine aI ?_); refine hK _ ?_; clear hK K) | (refine W_seqD mixed [] (by kernel_rfl) fun K hK => ?_; (try (refine sNa ?_; try exact True.intro)); (repeat refine aI ?_); refine hK _ ?_; clear hK K) | (refine W_regV fun K hK => ?_; (try (refine sNa ?_; try exact True.intro)); (repeat refine aI ?_); refine hK _ ?_; clear hK K) | (refine W_regR fun K hK => ?_; (try (refine sNa ?_; try exact True.intro)); (repeat refine aI ?_); refine hK _ ?_; clear hK K) | (refine W_regD mixed [] (by kernel_rfl) fun K hK => ?_; (try (refine sNa ?_; try exact True.intro)); (repeat refine aI ?_); refine hK _ ?_; clear hK K) | refine W_skip ?_ | (refine W_ret ?_; (refine qG ?_; try exact True.intro)) | (refine W_exit ?_; simp only [thenW, blockW, if_true, reduceCtorEq, if_false, Nat.reduceEqDiff]) | (refine W_cond rfl (fun h => ?_) (fun h => ?_) <;> (try simp only [cond_true, cond_false, ne_eq, cB] at h)) | refine W_seq ?_))
  · simp only [sgn] at h
    have hlt : val l < val m := by split at h <;> first | assumption | (exfalso; split at h <;> omega)
    simp [hlt, show val l - val m = 0 by omega, limbs_zero, u32s]
  simp only [sgn] at h
  have hle : val m ≤ val l := by
    refine Nat.le_of_not_lt fun hlt => ?_
    rw [if_pos hlt] at h
    omega
  clear h
  have hle' : ¬ val l < val m := by omega
  simp only [hle', if_false]
  have hML : (limbs (val m)).length ≤ l.length := limbs_length_le (Nat.lt_of_le_of_lt hle (val_lt hl))
  have hvm := val_limbs (val m)
  have hLm := limbs_limbs (val m)
  ((first | refine W_seqV ?_ | refine W_seq (W_seqV ?_) | refine W_regV ?_); intro K hK; (refine sNa ?_; try exact True.intro))
  ((repeat refine aI ?_); refine ⟨by kernel_rfl, rfl, _, trim_ok' m hm (by omega), ?_⟩; (try (refine sNa ?_; try exact True.intro)); (repeat refine aI ?_))
  generalize limbs (val m) = m' at *
  ((repeat refine aI ?_); refine hK _ ?_; clear hK K)
  (repeat' (first | (exfalso; simp at h; done) | refine W_block ?_ | (refine W_seqV fun K hK => ?_; (try (refine sNa ?_; try exact True.intro)); (repeat refine aI ?_); refine hK _ ?_; clear hK K) | (refine W_seqR fun K hK => ?_; (try (refine sNa ?_; try exact True.intro)); (repeat refine aI ?_); refine hK _ ?_; clear hK K) | (refine W_seqD mixed [] (by kernel_rfl) fun K hK => ?_; (try (refine sNa ?_; try exact True.intro)); (repeat refine aI ?_); refine hK _ ?_; clear hK K) | (refine W_regV fun K hK => ?_; (try (refine sNa ?_; try exact True.intro)); (repeat refine aI ?_); refine hK _ ?_; clear hK K) | (refine W_regR fun K hK => ?_; (try (refine sNa ?_; try exact True.intro)); (repeat refine aI ?_); refine hK _ ?_; clear hK K) | (refine W_regD mixed [] (by kernel_rfl) fun K hK => ?_; (try (refine sNa ?_; try exact True.intro)); (repeat refine aI ?_); refine hK _ ?_; clear hK K) | refine W_skip ?_ | (refine W_ret ?_; (refine qG ?_; try exact True.intro)) | (refine W_exit ?_; simp only [thenW, blockW, if_true, reduceCtorEq, if_false, Nat.reduceEqDiff]) | (refine W_cond rfl (fun h => ?_) (fun h => ?_) <;> (try simp only [cond_true, cond_false, ne_eq, cB] at h)) | refine W_seq ?_))
  refine W_loop (fun t : {t : Nat × List Nat × Nat // t.1 ≤ l.length ∧ t.2.1.length = l.length ∧ Limbs t.2.1 ∧ t.2.2 ≤ 1 ∧ val (t.2.1.take t.1) + val (m'.take t.1) = val (l.take t.1) + 4294967296 ^ t.1 * t.2.2} =>
      ⟨[.sl (u32s l), .sl (u32s m'), .any, .any, .any, .any, .sref 18 0 l.length, .int .u32 t.1.2.2, .any, .any, .any, .any, .any, .any, .any, .any, .any, .any, .any, .any, .int .i64 l.length, .int .i64 t.1.1, .any, .any, .any, .any, .any, .any, .any, .any, .any, .any, .any, .any, .any, .any, .any, .any, .any, .any, .any, .any, .any, .any, .any, .any, .any, .any], [.dead, .dead, .dead, .dead, .dead, .dead, .dead, .dead, .dead, .dead, .dead, .dead, .dead, .dead, .dead, .dead, .dead, .dead, .arr 114 1 true (u32s t.1.2.1), .dead, .dead, .dead, .dead, .dead, .dead, .dead, .dead, .dead, .dead, .dead, .dead, .dead, .dead, .dead, .dead, .dead, .dead, .dead, .dead, .dead, .dead, .dead, .dead, .dead, .dead, .dead, .dead, .dead]⟩) (fun t => l.length - t.1.1)
    ⟨(0, List.replicate l.length 0, 0), by simp, by simp, Limbs.rep _, by simp, by simp [val]⟩ (Le_of (by simp [leE]) rfl) fun t => ?_
  obtain ⟨⟨i, c, k⟩, h3, h4, h5, h6, h7⟩ := t
  dsimp only at h3 h4 h5 h6 h7 ⊢
  (repeat' (first | (exfalso; simp at h; done) | refine W_block ?_ | (refine W_seqV fun K hK => ?_; (try (refine sNa ?_; try exact True.intro)); (repeat refine aI ?_); refine hK _ ?_; clear hK K) | (refine W_seqR fun K hK => ?_; (try (refine sNa ?_; try exact True.intro)); (repeat refine aI ?_); refine hK _ ?_; clear hK K) | (refine W_seqD mixed [] (by kernel_rfl) fun K hK => ?_; (try (refine sNa ?_; try exact True.intro)); (repeat refine aI ?_); refine hK _ ?_; clear hK K) | (refine W_regV fun K hK => ?_; (try (refine sNa ?_; try exact True.intro)); (repeat refine aI ?_); refine hK _ ?_; clear hK K) | (refine W_regR fun K hK => ?_; (try (refine sNa ?_; try exact True.intro)); (repeat refine aI ?_); refine hK _ ?_; clear hK K) | (refine W_regD mixed [] (by kernel_rfl) fun K hK => ?_; (try (refine sNa ?_; try exact True.intro)); (repeat refine aI ?_); refine hK _ ?_; clear hK K) | refine W_skip ?_ | (refine W_ret ?_; (refine qG ?_; try exact True.intro)) | (refine W_exit ?_; simp only [thenW, blockW, if_true, reduceCtorEq, if_false, Nat.reduceEqDiff]) | (refine W_cond rfl (fun h => ?_) (fun h => ?_) <;> (try simp only [cond_true, cond_false, ne_eq, cB] at h)) | refine W_seq ?_))
  · have hi : i < c.length := by omega
    (refine W_regV fun K hK => ?_; (refine sNa ?_; try exact True.intro))
    ((repeat refine aI ?_); refine ⟨by kernel_rfl, rfl, _, sub32_ok _ _ k (hl.getD i) (hLm.getD i) (by omega), ?_⟩; (try (refine sNa ?_; try exact True.intro)); (repeat refine aI ?_))
    ((repeat refine aI ?_); refine hK _ ?_; clear hK K)
    (repeat' (first | (exfalso; simp at h; done) | refine W_block ?_ | (refine W_seqV fun K hK => ?_; (try (refine sNa ?_; try exact True.intro)); (repeat refine aI ?_); refine hK _ ?_; clear hK K) | (refine W_seqR fun K hK => ?_; (try (refine sNa ?_; try exact True.intro)); (repeat refine aI ?_); refine hK _ ?_; clear hK K) | (refine W_seqD mixed [] (by kernel_rfl) fun K hK => ?_; (try (refine sNa ?_; try exact True.intro)); (repeat refine aI ?_); refine hK _ ?_; clear hK K) | (refine W_regV fun K hK => ?_; (try (refine sNa ?_; try exact True.intro)); (repeat refine aI ?_); refine hK _ ?_; clear hK K) | (refine W_regR fun K hK => ?_; (try (refine sNa ?_; try exact True.intro)); (repeat refine aI ?_); refine hK _ ?_; clear hK K) | (refine W_regD mixed [] (by kernel_rfl) fun K hK => ?_; (try (refine sNa ?_; try exact True.intro)); (repeat refine aI ?_); refine hK _ ?_; clear hK K) | refine W_skip ?_ | (refine W_ret ?_; (refine qG ?_; try exact True.intro)) | (refine W_exit ?_; simp only [thenW, blockW, if_true, reduceCtorEq, if_false, Nat.reduceEqDiff]) | (refine W_cond rfl (fun h => ?_) (fun h => ?_) <;> (try simp only [cond_true, cond_false, ne_eq, cB] at h)) | refine W_seq ?_))
    have hx := hl.getD i
    have hy := hLm.getD i
    refine ⟨⟨(i + 1, c.set i ((l.getD i 0 + 2 * 4294967296 - m'.getD i 0 - k) % 4294967296), if l.getD i 0 < m'.getD i 0 + k then 1 else 0), by dsimp only; omega, by simpa using h4, h5.set i (by omega), by dsimp only; split <;> omega, ?_⟩, Le_of (by simp only [leE, or_true, true_or, and_true, true_and]) rfl, by dsimp only; omega⟩
    dsimp only
    rw [val_take_set hi, val_take_succ, val_take_succ, Nat.pow_succ]
    exact sub_round h7 (by split <;> omega)
  · have hi : i < c.length := by omega
    have h0 : m'.getD i 0 = 0 := by simp [List.getD_eq_getElem?_getD, h]
    (refine W_regV fun K hK => ?_; (refine sNa ?_; try exact True.intro))
    ((repeat refine aI ?_); refine ⟨by kernel_rfl, rfl, _, sub32_ok _ 0 k (hl.getD i) (by omega) (by omega), ?_⟩; (try (refine sNa ?_; try exact True.intro)); (repeat refine aI ?_))
    ((repeat refine aI ?_); refine hK _ ?_; clear hK K)
    (repeat' (first | (exfalso; simp at h; done) | refine W_block ?_ | (refine W_seqV fun K hK => ?_; (try (refine sNa ?_; try exact True.intro)); (repeat refine aI ?_); refine hK _ ?_; clear hK K) | (refine W_seqR fun K hK => ?_; (try (refine sNa ?_; try exact True.intro)); (repeat refine aI ?_); refine hK _ ?_; clear hK K) | (refine W_seqD mixed [] (by kernel_rfl) fun K hK => ?_; (try (refine sNa ?_; try exact True.intro)); (repeat refine aI ?_); refine hK _ ?_; clear hK K) | (refine W_regV fun K hK => ?_; (try (refine sNa ?_; try exact True.intro)); (repeat refine aI ?_); refine hK _ ?_; clear hK K) | (refine W_regR fun K hK => ?_; (try (refine sNa ?_; try exact True.intro)); (repeat refine aI ?_); refine hK _ ?_; clear hK K) | (refine W_regD mixed [] (by kernel_rfl) fun K hK => ?_; (try (refine sNa ?_; try exact True.intro)); (repeat refine aI ?_); refine hK _ ?_; clear hK K) | refine W_skip ?_ | (refine W_ret ?_; (refine qG ?_; try exact True.intro)) | (refine W_exit ?_; simp only [thenW, blockW, if_true, reduceCtorEq, if_false, Nat.reduceEqDiff]) | (refine W_cond rfl (fun h => ?_) (fun h => ?_) <;> (try simp only [cond_true, cond_false, ne_eq, cB] at h)) | refine W_seq ?_))
    have hx := hl.getD i
    refine ⟨⟨(i + 1, c.set i ((l.getD i 0 + 2 * 4294967296 - 0 - k) % 4294967296), if l.getD i 0 < 0 + k then 1 else 0), by dsimp only; omega, by simpa using h4, h5.set i (by omega), by dsimp only; split <;> omega, ?_⟩, Le_of (by simp only [leE, or_true, true_or, and_true, true_and, Nat.zero_add, Nat.sub_zero]) (by simp), by dsimp only; omega⟩
    dsimp only
    rw [val_take_set hi, val_take_succ, val_take_succ, Nat.pow_succ, h0]
    exact sub_round h7 (by split <;> omega)
  · have h0 : i = l.length := by omega
    subst h0
    rw [List.take_length, List.take_of_length_le hML, hvm, List.take_of_length_le (by omega)] at h7
    have hc := val_lt h5
    rw [h4] at hc
    have hk : k = 0 := by
      rcases Nat.eq_zero_or_pos k with h0 | h0
      · exact h0
      · have : k = 1 := by omega
        subst this
        omega
    subst hk
    (refine W.le ?_ (Le_freeze 18 (rows := u32s c) rfl (by simp) (.inl rfl)); simp only [St.freeze, List.map_cons, List.map_nil, List.set, if_true, if_false, Nat.reduceEqDiff, reduceCtorEq, List.drop_zero, u32s_take, u32s_drop, froz_any, froz_und, froz_int, froz_bool, froz_str, froz_nils, froz_sl, froz_ia, froz_nilp, froz_nilif, froz_nilfn, froz_nilmp, froz_gl, froz_sref, froz_ptr, froz_agg, froz_tup, froz_fn, froz_ifc, frozs_nil, frozs_cons, froz_dead, froz_arr])
    rw [List.take_of_length_le (by omega)]
    (refine W_regV fun K hK => ?_; (refine sNa ?_; try exact True.intro))
    ((repeat refine aI ?_); refine ⟨by kernel_rfl, rfl, _, own_ok' _ h5 (by omega), ?_⟩; (try (refine sNa ?_; try exact True.intro)); (repeat refine aI ?_))
    ((repeat refine aI ?_); refine hK _ ?_; clear hK K)
    refine W_ret ?_
    (refine qG ?_; try exact True.intro)
    rw [show val c = val l - val m by omega]
end Go.Proofs.YtjkjapjcmbfkgaaGreat.Vm

/-
  Natural numbers: product.
-/
namespace Go.Proofs.YtjkjapjcmbfkgaaGreat.Vm
open Go Go.RowKit
set_option maxRecDepth 100000
set_option linter.unusedVariables false
set_option linter.unusedSimpArgs false

set_option maxHeartbeats 2000000 in
theorem nmul_ok (l0 m0 : List Nat) (hl0 : Limbs l0) (hm0 : Limbs m0) (h1 : l0.length < 274877906944) (h2 : m0.length < 274877906944) : Pure Tryz.prog 124 [cNat l0, cNat m0] (· = cN (val l0 * val m0)) := by
  have hl1 := limbs_val_length hl0
  have hm1 := limbs_val_length hm0
  have hl := limbs_limbs (val l0)
  have hm := limbs_limbs (val m0)
  have hvl := val_limbs (val l0)
  have hvm := val_limbs (val m0)
  (refine pureW Tryz.func124 rfl (rs := [Go.ResultVar.tmp 4]) rfl (n := 72) rfl ?_; simp only [List.length_cons, List.length_nil, List.replicate, List.cons_append, List.nil_append])
  (refine aNa ?_)
  ((first | refine W_seqV ?_ | refine W_seq (W_seqV ?_) | refine W_regV ?_); intro K hK; (refine sNa ?_; try exact True.intro))
  ((repeat refine aI ?_); refine ⟨by kernel_rfl, rfl, _, trim_ok' l0 hl0 (by omega), ?_⟩; (try (refine sNa ?_; try exact True.intro)); (repeat refine aI ?_))
  ((repeat refine aI ?_); refine ⟨by kernel_rfl, rfl, _, trim_ok' m0 hm0 (by omega), ?_⟩; (try (refine sNa ?_; try exact True.intro)); (repeat refine aI ?_))
  generalize limbs (val l0) = l at *
  generalize limbs (val m0) = m at *
  ((repeat refine aI ?_); refine hK _ ?_; clear hK K)
  (repeat' (first | (exfalso; simp at h; done) | refine W_block ?_ | (refine W_seqV fun K hK => ?_; (try (refine sNa ?_; try exact True.intro)); (repeat refine aI ?_); refine hK _ ?_; clear hK K) | (refine W_seqR fun K hK => ?_; (try (refine sNa ?_; try exact True.intro)); (repeat refine aI ?_); refine hK _ ?_; clear hK K) | (refine W_seqD mixed [] (by kernel_rfl) fun K hK => ?_; (try (refine sNa ?_; try exact True.intro)); (repeat refine aI ?_); refine hK _ ?_; clear hK K) | (refine W_regV fun K hK => ?_; (try (refine sNa ?_; try exact True.intro)); (repeat refine aI ?_); refine hK _ ?_; clear hK K) | (refine W_regR fun K hK => ?_; (try (refine sNa ?_; try exact True.intro)); (repeat refine aI ?_); refine hK _ ?_; clear hK K) | (refine W_regD mixed [] (by kernel_rfl) fun K hK => ?_; (try (refine sNa ?_; try exact True.intro)); (repeat refine aI ?_); refine hK _ ?_; clear hK K) | refine W_skip ?_ | (refine W_ret ?_; (refine qG ?_; try exact True.intro)) | (refine W_exit ?_; simp only [thenW, blockW, if_true, reduceCtorEq, if_false, Nat.reduceEqDiff]) | (refine W_cond rfl (fun h => ?_) (fun h => ?_) <;> (try simp only [cond_true, cond_false, ne_eq, cB] at h)) | refine W_seq ?_))
  refine W_loop (fun t : {t : Nat × List Nat // t.1 ≤ l.length ∧ t.2.length = l.length + m.length ∧ Limbs t.2 ∧ val (t.2.take (t.1 + m.length)) = val (l.take t.1) * val m} =>
      ⟨((.sl (u32s l)) :: (.sl (u32s m)) :: .any :: .any :: .any :: (.sref 19 0 (l.length + m.length)) :: .any :: .any :: .any :: .any :: .any :: .any :: .any :: .any :: .any :: .any :: .any :: .any :: .any :: .any :: .any :: (.int .i64 l.length) :: (.int .i64 t.1.1) :: .any :: .any :: .any :: .any :: .any :: .any :: .any :: .any :: .any :: .any :: .any :: .any :: .any :: .any :: .any :: .any :: .any :: .any :: .any :: .any :: .any :: .any :: .any :: .any :: .any :: .any :: .any :: .any :: .any :: .any :: .any :: .any :: .any :: .any :: .any :: .any :: .any :: .any :: .any :: .any :: .any :: .any :: .any :: .any :: .any :: .any :: .any :: .any :: .any :: []), (.dead :: .dead :: .dead :: .dead :: .dead :: .dead :: .dead :: .dead :: .dead :: .dead :: .dead :: .dead :: .dead :: .dead :: .dead :: .dead :: .dead :: .dead :: .dead :: (.arr 114 1 true (u32s t.1.2)) :: .dead :: .dead :: .dead :: .dead :: .dead :: .dead :: .dead :: .dead :: .dead :: .dead :: .dead :: .dead :: .dead :: .dead :: .dead :: .dead :: .dead :: .dead :: .dead :: .dead :: .dead :: .dead :: .dead :: .dead :: .dead :: .dead :: .dead :: .dead :: .dead :: .dead :: .dead :: .dead :: .dead :: .dead :: .dead :: .dead :: .dead :: .dead :: .dead :: .dead :: .dead :: .dead :: .dead :: .dead :: .dead :: .dead :: .dead :: .dead :: .dead :: .dead :: .dead :: .dead :: [])⟩) (fun t => l.length - t.1.1)
    ⟨(0, List.replicate (l.length + m.length) 0), by simp, by simp, Limbs.rep _, by simp [val, List.take_replicate, val_zeros]⟩ (Le_of (by simp [leE]) rfl) fun t => ?_
  obtain ⟨⟨i, c0⟩, h3, h4, h5, h7⟩ := t
  dsimp only at h3 h4 h5 h7 ⊢
  (repeat' (first | (exfalso; simp at h; done) | refine W_block ?_ | (refine W_seqV fun K hK => ?_; (try (refine sNa ?_; try exact True.intro)); (repeat refine aI ?_); refine hK _ ?_; clear hK K) | (refine W_seqR fun K hK => ?_; (try (refine sNa ?_; try exact True.intro)); (repeat refine aI ?_); refine hK _ ?_; clear hK K) | (refine W_seqD mixed [] (by kernel_rfl) fun K hK => ?_; (try (refine sNa ?_; try exact True.intro)); (repeat refine aI ?_); refine hK _ ?_; clear hK K) | (refine W_regV fun K hK => ?_; (try (refine sNa ?_; try exact True.intro)); (repeat refine aI ?_); refine hK _ ?_; clear hK K) | (refine W_regR fun K hK => ?_; (try (refine sNa ?_; try exact True.intro)); (repeat refine aI ?_); refine hK _ ?_; clear hK K) | (refine W_regD mixed [] (by kernel_rfl) fun K hK => ?_; (try (refine sNa ?_; try exact True.intro)); (repeat refine aI ?_); refine hK _ ?_; clear hK K) | refine W_skip ?_ | (refine W_ret ?_; (refine qG ?_; try exact True.intro)) | (refine W_exit ?_; simp only [thenW, blockW, if_true, reduceCtorEq, if_false, Nat.reduceEqDiff]) | (refine W_cond rfl (fun h => ?_) (fun h => ?_) <;> (try simp only [cond_true, cond_false, ne_eq, cB] at h)) | refine W_seq ?_))
  · have hx := hl.getD i
    refine W_loop (fun t : {t : Nat × List Nat × Nat // t.1 ≤ m.length ∧ t.2.1.length = l.length + m.length ∧ Limbs t.2.1 ∧ t.2.2 < 4294967296 ∧ val (t.2.1.take (i + m.length)) + 4294967296 ^ (i + t.1) * t.2.2 = val (c0.take (i + m.length)) + 4294967296 ^ i * l.getD i 0 * val (m.take t.1)} =>
      ⟨((.sl (u32s l)) :: (.sl (u32s m)) :: .any :: .any :: .any :: (.sref 19 0 (l.length + m.length)) :: (.int .i64 i) :: (.int .u64 t.1.2.2) :: .any :: .any :: .any :: .any :: .any :: .any :: .any :: .any :: .any :: .any :: .any :: .any :: .any :: (.int .i64 l.length) :: (.int .i64 i) :: .any :: .any :: .any :: (.int .i64 m.length) :: (.int .i64 t.1.1) :: .any :: .any :: .any :: .any :: .any :: .any :: .any :: .any :: .any :: .any :: .any :: .any :: .any :: .any :: .any :: .any :: .any :: .any :: .any :: .any :: .any :: .any :: .any :: .any :: .any :: .any :: .any :: .any :: .any :: .any :: .any :: .any :: .any :: .any :: .any :: .any :: .any :: .any :: .any :: .any :: .any :: .any :: .any :: .any :: []), (.dead :: .dead :: .dead :: .dead :: .dead :: .dead :: .dead :: .dead :: .dead :: .dead :: .dead :: .dead :: .dead :: .dead :: .dead :: .dead :: .dead :: .dead :: .dead :: (.arr 114 1 true (u32s t.1.2.1)) :: .dead :: .dead :: .dead :: .dead :: .dead :: .dead :: .dead :: .dead :: .dead :: .dead :: .dead :: .dead :: .dead :: .dead :: .dead :: .dead :: .dead :: .dead :: .dead :: .dead :: .dead :: .dead :: .dead :: .dead :: .dead :: .dead :: .dead :: .dead :: .dead :: .dead :: .dead :: .dead :: .dead :: .dead :: .dead :: .dead :: .dead :: .dead :: .dead :: .dead :: .dead :: .dead :: .dead :: .dead :: .dead :: .dead :: .dead :: .dead :: .dead :: .dead :: .dead :: .dead :: [])⟩) (fun t => m.length - t.1.1)
      ⟨(0, c0, 0), by simp, h4, h5, by simp, by simp [val]⟩ (Le_of (by simp [leE]) rfl) fun t => ?_
    obtain ⟨⟨j, c, k⟩, h8, h9, h10, h11, h12⟩ := t
    dsimp only at h8 h9 h10 h11 h12 ⊢
    have hy := hm.getD j
    have hz := h10.getD (i + j)
    have hxy : l.getD i 0 * m.getD j 0 ≤ 4294967295 * 4294967295 := Nat.mul_le_mul (by omega) (by omega)
    (repeat' (first | (exfalso; simp at h; done) | refine W_block ?_ | (refine W_seqV fun K hK => ?_; (try (refine sNa ?_; try exact True.intro)); (repeat refine aI ?_); refine hK _ ?_; clear hK K) | (refine W_seqR fun K hK => ?_; (try (refine sNa ?_; try exact True.intro)); (repeat refine aI ?_); refine hK _ ?_; clear hK K) | (refine W_seqD mixed [] (by kernel_rfl) fun K hK => ?_; (try (refine sNa ?_; try exact True.intro)); (repeat refine aI ?_); refine hK _ ?_; clear hK K) | (refine W_regV fun K hK => ?_; (try (refine sNa ?_; try exact True.intro)); (repeat refine aI ?_); refine hK _ ?_; clear hK K) | (refine W_regR fun K hK => ?_; (try (refine sNa ?_; try exact True.intro)); (repeat refine aI ?_); refine hK _ ?_; clear hK K) | (refine W_regD mixed [] (by kernel_rfl) fun K hK => ?_; (try (refine sNa ?_; try exact True.intro)); (repeat refine aI ?_); refine hK _ ?_; clear hK K) | refine W_skip ?_ | (refine W_ret ?_; (refine qG ?_; try exact True.intro)) | (refine W_exit ?_; simp only [thenW, blockW, if_true, reduceCtorEq, if_false, Nat.reduceEqDiff]) | (refine W_cond rfl (fun h => ?_) (fun h => ?_) <;> (try simp only [cond_true, cond_false, ne_eq, cB] at h)) | refine W_seq ?_))
    · refine ⟨⟨(j + 1, c.set (i + j) ((l.getD i 0 * m.getD j 0 + c.getD (i + j) 0 + k) % 4294967296), (l.getD i 0 * m.getD j 0 + c.getD (i + j) 0 + k) / 4294967296), by dsimp only; omega, by simpa using h9, h10.set _ (by omega), by dsimp only; omega, ?_⟩, Le_of (by simp only [leE, or_true, true_or, and_true, true_and]) rfl, by dsimp only; omega⟩
      dsimp only
      have hp : i + j < (c.take (i + m.length)).length := by rw [List.length_take]; omega
      have hset := val_set hp ((l.getD i 0 * m.getD j 0 + c.getD (i + j) 0 + k) % 4294967296)
      rw [show (c.take (i + m.length)).getD (i + j) 0 = c.getD (i + j) 0 by simp [List.getD_eq_getElem?_getD, List.getElem?_take, show j < m.length by omega]] at hset
      rw [List.take_set, val_take_succ, ← Nat.add_assoc, Nat.pow_succ]
      exact mul_round h12 hset (by omega) (Nat.pow_add _ _ _)
    · have h0 : j = m.length := by omega
      subst h0
      have hp : i + m.length < c.length := by omega
      rw [List.take_length] at h12
      refine ⟨⟨(i + 1, c.set (i + m.length) (k % 4294967296)), by dsimp only; omega, by simpa using h9, h10.set _ (by omega), ?_⟩, Le_of (by simp only [leE, or_true, true_or, and_true, true_and]) rfl, by dsimp only; omega⟩
      dsimp only
      rw [show i + 1 + m.length = i + m.length + 1 by omega, val_take_set hp, Nat.mod_eq_of_lt h11, h12, h7, val_take_succ, Nat.add_mul]
  · have h0 : i = l.length := by omega
    subst h0
    rw [List.take_length, List.take_of_length_le (by omega)] at h7
    (refine W.le ?_ (Le_freeze 19 (rows := u32s c0) rfl (by simp) (.inl rfl)); simp only [St.freeze, List.map_cons, List.map_nil, List.set, if_true, if_false, Nat.reduceEqDiff, reduceCtorEq, List.drop_zero, u32s_take, u32s_drop, froz_any, froz_und, froz_int, froz_bool, froz_str, froz_nils, froz_sl, froz_ia, froz_nilp, froz_nilif, froz_nilfn, froz_nilmp, froz_gl, froz_sref, froz_ptr, froz_agg, froz_tup, froz_fn, froz_ifc, frozs_nil, frozs_cons, froz_dead, froz_arr])
    rw [List.take_of_length_le (by omega)]
    ((first | refine W_seqV ?_ | refine W_seq (W_seqV ?_) | refine W_regV ?_); intro K hK; (refine sNa ?_; try exact True.intro))
    ((repeat refine aI ?_); refine ⟨by kernel_rfl, rfl, _, own_ok' _ h5 (by omega), ?_⟩; (try (refine sNa ?_; try exact True.intro)); (repeat refine aI ?_))
    ((repeat refine aI ?_); refine hK _ ?_; clear hK K)
    refine W_ret ?_
    (refine qG ?_; try exact True.intro)
    rw [h7, hvl, hvm]
end Go.Proofs.YtjkjapjcmbfkgaaGreat.Vm

/-
  Natural numbers: lengths in bits, one-limb division, shifts.
-/
namespace Go.Proofs.YtjkjapjcmbfkgaaGreat.Vm
open Go Go.RowKit
set_option maxRecDepth 100000
set_option linter.unusedVariables false
set_option linter.unusedSimpArgs false

theorem or_add {a b k : Nat} (h : b < 2 ^ k) : a * 2 ^ k ||| b = a * 2 ^ k + b := by
  rw [Nat.mul_comm, Nat.two_pow_add_eq_or_of_lt h]

set_option maxHeartbeats 1000000 in
theorem div32_ok (hi lo y : Nat) (h1 : hi < y) (h2 : lo < 4294967296) (hy : y < 4294967296) : Pure Tryz.prog 166 [.int .u32 hi, .int .u32 lo, .int .u32 y] (· = .tup [.int .u32 ((hi * 4294967296 + lo) / y : Nat), .int .u32 ((hi * 4294967296 + lo) % y : Nat)]) := by
  have h0 : y ≠ 0 := by omega
  have hq : (hi * 4294967296 + lo) / y < 4294967296 := Nat.div_lt_of_lt_mul (by
    have : (hi + 1) * 4294967296 ≤ y * 4294967296 := Nat.mul_le_mul_right _ h1
    omega)
  have hr : (hi * 4294967296 + lo) % y < y := Nat.mod_lt _ (by omega)
  have ho : hi * 4294967296 ||| lo = hi * 4294967296 + lo := or_add (k := 32) h2
  (refine pureW Tryz.func166 rfl (rs := [Go.ResultVar.tmp 6, Go.ResultVar.tmp 7]) rfl (n := 33) rfl ?_; simp only [List.length_cons, List.length_nil, List.replicate, List.cons_append, List.nil_append])
  (repeat' (first | (exfalso; simp at h; done) | refine W_block ?_ | (refine W_seqV fun K hK => ?_; (try (refine sNa ?_; try exact True.intro)); (repeat refine aI ?_); refine hK _ ?_; clear hK K) | (refine W_seqR fun K hK => ?_; (try (refine sNa ?_; try exact True.intro)); (repeat refine aI ?_); refine hK _ ?_; clear hK K) | (refine W_seqD mixed [] (by kernel_rfl) fun K hK => ?_; (try (refine sNa ?_; try exact True.intro)); (repeat refine aI ?_); refine hK _ ?_; clear hK K) | (refine W_regV fun K hK => ?_; (try (refine sNa ?_; try exact True.intro)); (repeat refine aI ?_); refine hK _ ?_; clear hK K) | (refine W_regR fun K hK => ?_; (try (refine sNa ?_; try exact True.intro)); (repeat refine aI ?_); refine hK _ ?_; clear hK K) | (refine W_regD mixed [] (by kernel_rfl) fun K hK => ?_; (try (refine sNa ?_; try exact True.intro)); (repeat refine aI ?_); refine hK _ ?_; clear hK K) | refine W_skip ?_ | (refine W_ret ?_; (refine qG ?_; try exact True.intro)) | (refine W_exit ?_; simp only [thenW, blockW, if_true, reduceCtorEq, if_false, Nat.reduceEqDiff]) | (refine W_cond rfl (fun h => ?_) (fun h => ?_) <;> (try simp only [cond_true, cond_false, ne_eq, cB] at h)) | refine W_seq ?_))
  ((first | refine W_seqV ?_ | refine W_seq (W_seqV ?_) | refine W_regV ?_); intro K hK; (refine sNa ?_; try exact True.intro))
  have hne : ((y : Int) != 0) = true := by simp; omega
  simp only [hne]
  try (refine sNa ?_; try exact True.intro)
  ((repeat refine aI ?_); refine hK _ ?_; clear hK K)
  (repeat' (first | (exfalso; simp at h; done) | refine W_block ?_ | (refine W_seqV fun K hK => ?_; (try (refine sNa ?_; try exact True.intro)); (repeat refine aI ?_); refine hK _ ?_; clear hK K) | (refine W_seqR fun K hK => ?_; (try (refine sNa ?_; try exact True.intro)); (repeat refine aI ?_); refine hK _ ?_; clear hK K) | (refine W_seqD mixed [] (by kernel_rfl) fun K hK => ?_; (try (refine sNa ?_; try exact True.intro)); (repeat refine aI ?_); refine hK _ ?_; clear hK K) | (refine W_regV fun K hK => ?_; (try (refine sNa ?_; try exact True.intro)); (repeat refine aI ?_); refine hK _ ?_; clear hK K) | (refine W_regR fun K hK => ?_; (try (refine sNa ?_; try exact True.intro)); (repeat refine aI ?_); refine hK _ ?_; clear hK K) | (refine W_regD mixed [] (by kernel_rfl) fun K hK => ?_; (try (refine sNa ?_; try exact True.intro)); (repeat refine aI ?_); refine hK _ ?_; clear hK K) | refine W_skip ?_ | (refine W_ret ?_; (refine qG ?_; try exact True.intro)) | (refine W_exit ?_; simp only [thenW, blockW, if_true, reduceCtorEq, if_false, Nat.reduceEqDiff]) | (refine W_cond rfl (fun h => ?_) (fun h => ?_) <;> (try simp only [cond_true, cond_false, ne_eq, cB] at h)) | refine W_seq ?_))
  · first | omega | (simp at h; omega)
  rw [ho]
  (refine sNa ?_; try exact True.intro)
  rw [Nat.mod_eq_of_lt hq, Nat.mod_eq_of_lt (Nat.lt_trans hr hy)]

/-- How many bits a number has. -/
def blen (n : Nat) : Nat := if h : n = 0 then 0 else blen (n / 2) + 1
  termination_by n
  decreasing_by omega

theorem blen_eq {n b : Nat} (h : n < 2 ^ b) (h' : b = 0 ∨ 2 ^ (b - 1) ≤ n) : blen n = b := by
  induction b generalizing n with
  | zero =>
    have : n = 0 := by simpa using h
    subst this
    unfold blen
    simp
  | succ b ih =>
    have h1 : 2 ^ b ≤ n := by
      rcases h' with h' | h'
      · omega
      · simpa using h'
    have h2 : 0 < 2 ^ b := Nat.pow_pos (by omega)
    unfold blen
    rw [dif_neg (by omega), ih (by rw [Nat.pow_succ] at h; omega)]
    cases b with
    | zero => exact .inl rfl
    | succ b => right; rw [Nat.pow_succ] at h1; simp; omega
theorem blen_spec (n : Nat) : n < 2 ^ blen n ∧ (blen n = 0 ∨ 2 ^ (blen n - 1) ≤ n) := by
  induction n using Nat.strongRecOn with
  | _ n ih =>
    by_cases h : n = 0
    · subst h; unfold blen; simp
    · obtain ⟨h1, h2⟩ := ih (n / 2) (by omega)
      have h3 : blen n = blen (n / 2) + 1 := by
        conv => lhs; unfold blen
        rw [dif_neg h]
      rw [h3]
      refine ⟨by rw [Nat.pow_succ]; omega, .inr ?_⟩
      rw [Nat.add_sub_cancel]
      rcases h2 with h2 | h2
      · rw [h2]; omega
      · cases hb : blen (n / 2) with
        | zero => rw [Nat.pow_zero]; omega
        | succ b => rw [hb] at h2; rw [Nat.pow_succ]; simp at h2; omega
theorem blen_shift {n k : Nat} (h : 2 ^ k ≤ n) : blen n = k + blen (n / 2 ^ k) := by
  have h0 : 0 < 2 ^ k := Nat.pow_pos (by omega)
  have h1 : 0 < n / 2 ^ k := Nat.div_pos h h0
  obtain ⟨h2, h3⟩ := blen_spec (n / 2 ^ k)
  have h4 : blen (n / 2 ^ k) ≠ 0 := by
    intro h5
    rw [h5] at h2
    simp at h2
    omega
  refine blen_eq ?_ (.inr ?_)
  · rw [Nat.pow_add]
    have := (Nat.div_lt_iff_lt_mul h0).1 h2
    rwa [Nat.mul_comm]
  · rw [show k + blen (n / 2 ^ k) - 1 = k + (blen (n / 2 ^ k) - 1) by omega, Nat.pow_add, Nat.mul_comm]
    have h5 := h3.resolve_left h4
    exact (Nat.le_div_iff_mul_le h0).1 h5
theorem blen_le {n k : Nat} (h : n < 2 ^ k) : blen n ≤ k := by
  rcases (blen_spec n).2 with h1 | h1
  · omega
  · refine Nat.le_of_not_lt fun hlt => ?_
    have : 2 ^ k ≤ 2 ^ (blen n - 1) := Nat.pow_le_pow_right (by omega) (by omega)
    omega
theorem wrap_small {n : Nat} (h : n < 1000) : IntKind.wrap .i64 (n : Int) = n := wrap_i64 (by omega) (by omega)
def tabOk (T : ByteArray) : Bool := (List.range 256).all fun n => decide (n < 2 ^ (T.get! n).toNat) && (decide ((T.get! n).toNat = 0) || decide (2 ^ ((T.get! n).toNat - 1) ≤ n))
theorem tab_get {T : ByteArray} (h : tabOk T = true) {x : Nat} (hx : x < 256) : (T.get! x).toNat = blen x := by
  have := List.all_eq_true.1 h x (by simpa using hx)
  simp only [Bool.and_eq_true, Bool.or_eq_true, decide_eq_true_eq] at this
  exact (blen_eq this.1 this.2).symm
set_option maxHeartbeats 1000000 in
set_option maxRecDepth 10000 in
theorem len32_ok (x : Nat) (hx : x < 4294967296) : Pure Tryz.prog 163 [.int .u32 x] (· = .int .i64 (blen x)) := by
  (refine pureW Tryz.func163 rfl (rs := [Go.ResultVar.tmp 2]) rfl (n := 19) rfl ?_; simp only [List.length_cons, List.length_nil, List.replicate, List.cons_append, List.nil_append])
  (repeat' (first | (exfalso; simp at h; done) | refine W_block ?_ | (refine W_seqV fun K hK => ?_; (try (refine sNa ?_; try exact True.intro)); (repeat refine aI ?_); refine hK _ ?_; clear hK K) | (refine W_seqR fun K hK => ?_; (try (refine sNa ?_; try exact True.intro)); (repeat refine aI ?_); refine hK _ ?_; clear hK K) | (refine W_seqD mixed [] (by kernel_rfl) fun K hK => ?_; (try (refine sNa ?_; try exact True.intro)); (repeat refine aI ?_); refine hK _ ?_; clear hK K) | (refine W_regV fun K hK => ?_; (try (refine sNa ?_; try exact True.intro)); (repeat refine aI ?_); refine hK _ ?_; clear hK K) | (refine W_regR fun K hK => ?_; (try (refine sNa ?_; try exact True.intro)); (repeat refine aI ?_); refine hK _ ?_; clear hK K) | (refine W_regD mixed [] (by kernel_rfl) fun K hK => ?_; (try (refine sNa ?_; try exact True.intro)); (repeat refine aI ?_); refine hK _ ?_; clear hK K) | refine W_skip ?_ | (refine W_ret ?_; (refine qG ?_; try exact True.intro)) | (refine W_exit ?_; simp only [thenW, blockW, if_true, reduceCtorEq, if_false, Nat.reduceEqDiff]) | (refine W_cond rfl (fun h => ?_) (fun h => ?_) <;> (try simp only [cond_true, cond_false, ne_eq, cB] at h)) | refine W_seq ?_))
  all_goals (((first | refine W_seqV ?_ | refine W_seq (W_seqV ?_) | refine W_regV ?_); intro K hK; (refine sNa ?_; try exact True.intro)); refine And.intro (Nat.lt_of_lt_of_le (Nat.mod_lt _ (by omega)) (by decide)) ?_; ((repeat refine aI ?_); refine hK _ ?_; clear hK K); refine W_ret ?_; (refine qG ?_; try exact True.intro); rw [tab_get (by kernel_rfl) (Nat.mod_lt _ (by omega))])
  · have e0 : x / 65536 / 256 % 256 = x / 65536 / 256 := by omega
    have e1 := blen_shift (n := x) (k := 16) (by omega)
    have e2 := blen_shift (n := x / 2 ^ 16) (k := 8) (by omega)
    have e3 := blen_le (n := x / 65536 / 256) (k := 8) (by omega)
    simp only [Nat.reducePow] at e1 e2
    rw [e0, wrap_small (n := blen (x / 65536 / 256)) (by omega), wrap_i64 (x := 24) (by omega) (by omega), wrap_i64 (by omega) (by omega)]
    congr 1
    omega
  · have e0 : x / 65536 % 256 = x / 65536 := by omega
    have e1 := blen_shift (n := x) (k := 16) (by omega)
    have e3 := blen_le (n := x / 65536) (k := 8) (by omega)
    simp only [Nat.reducePow] at e1
    rw [e0, wrap_small (n := blen (x / 65536)) (by omega), wrap_i64 (by omega) (by omega)]
    congr 1
    omega
  · have e0 : x / 256 % 256 = x / 256 := by omega
    have e1 := blen_shift (n := x) (k := 8) (by omega)
    have e3 := blen_le (n := x / 256) (k := 8) (by omega)
    simp only [Nat.reducePow] at e1
    rw [e0, wrap_small (n := blen (x / 256)) (by omega), wrap_i64 (x := 8) (by omega) (by omega), wrap_i64 (by omega) (by omega)]
    congr 1
    omega
  · have e0 : x % 256 = x := by omega
    have e3 := blen_le (n := x) (k := 8) (by omega)
    rw [e0, wrap_small (n := blen x) (by omega), wrap_i64 (by omega) (by omega)]
    congr 1
    omega
theorem lz32_ok (x : Nat) (hx : x < 4294967296) : Pure Tryz.prog 167 [.int .u32 x] (· = .int .i64 ((32 - blen x : Nat) : Int)) := by
  have h := blen_le (n := x) (k := 32) hx
  (refine pureW Tryz.func167 rfl (rs := [Go.ResultVar.tmp 2]) rfl (n := 6) rfl ?_; simp only [List.length_cons, List.length_nil, List.replicate, List.cons_append, List.nil_append])
  (refine aNa ?_)
  ((first | refine W_seqV ?_ | refine W_seq (W_seqV ?_) | refine W_regV ?_); intro K hK; (refine sNa ?_; try exact True.intro))
  ((repeat refine aI ?_); refine ⟨by kernel_rfl, rfl, _, len32_ok x hx, ?_⟩; (try (refine sNa ?_; try exact True.intro)); (repeat refine aI ?_))
  ((repeat refine aI ?_); refine hK _ ?_; clear hK K)
  refine W_ret ?_
  (refine qG ?_; try exact True.intro)
end Go.Proofs.YtjkjapjcmbfkgaaGreat.Vm

/-
  Natural numbers: division by one limb; moves by less than a limb.
-/
namespace Go.Proofs.YtjkjapjcmbfkgaaGreat.Vm
open Go Go.RowKit
set_option maxRecDepth 100000
set_option linter.unusedVariables false
set_option linter.unusedSimpArgs false

set_option maxHeartbeats 1000000 in
theorem short_ok (l : List Nat) (b : Nat) (hl : Limbs l) (h1 : l.length < 549755813888) (hb0 : 0 < b) (hb : b < 4294967296) : Pure Tryz.prog 152 [cNat l, .int .u32 b] (· = .tup [cNat (padL l.length (val l / b)), .int .u32 (val l % b : Nat)]) := by
  (refine pureW Tryz.func152 rfl (rs := [Go.ResultVar.tmp 4, Go.ResultVar.tmp 5]) rfl (n := 34) rfl ?_; simp only [List.length_cons, List.length_nil, List.replicate, List.cons_append, List.nil_append])
  (repeat' (first | (exfalso; simp at h; done) | refine W_block ?_ | (refine W_seqV fun K hK => ?_; (try (refine sNa ?_; try exact True.intro)); (repeat refine aI ?_); refine hK _ ?_; clear hK K) | (refine W_seqR fun K hK => ?_; (try (refine sNa ?_; try exact True.intro)); (repeat refine aI ?_); refine hK _ ?_; clear hK K) | (refine W_seqD mixed [] (by kernel_rfl) fun K hK => ?_; (try (refine sNa ?_; try exact True.intro)); (repeat refine aI ?_); refine hK _ ?_; clear hK K) | (refine W_regV fun K hK => ?_; (try (refine sNa ?_; try exact True.intro)); (repeat refine aI ?_); refine hK _ ?_; clear hK K) | (refine W_regR fun K hK => ?_; (try (refine sNa ?_; try exact True.intro)); (repeat refine aI ?_); refine hK _ ?_; clear hK K) | (refine W_regD mixed [] (by kernel_rfl) fun K hK => ?_; (try (refine sNa ?_; try exact True.intro)); (repeat refine aI ?_); refine hK _ ?_; clear hK K) | refine W_skip ?_ | (refine W_ret ?_; (refine qG ?_; try exact True.intro)) | (refine W_exit ?_; simp only [thenW, blockW, if_true, reduceCtorEq, if_false, Nat.reduceEqDiff]) | (refine W_cond rfl (fun h => ?_) (fun h => ?_) <;> (try simp only [cond_true, cond_false, ne_eq, cB] at h)) | refine W_seq ?_))
  refine W_loop (fun t : {t : Nat × List Nat × Nat // t.1 ≤ l.length ∧ t.2.1.length = l.length ∧ Limbs t.2.1 ∧ t.2.2 < b ∧ val (t.2.1.drop t.1) * b + t.2.2 = val (l.drop t.1)} =>
      ⟨[.sl (u32s l), .int .u32 b, .any, .any, .any, .any, .sref 11 0 l.length, .int .u32 t.1.2.2, .int .i64 ((t.1.1 : Int) - 1), .any, .any, .any, .any, .any, .any, .any, .any, .any, .any, .any, .any, .any, .any, .any, .any, .any, .any, .any, .any, .any, .any, .any, .any, .any], [.dead, .dead, .dead, .dead, .dead, .dead, .dead, .dead, .dead, .dead, .dead, .arr 114 1 true (u32s t.1.2.1), .dead, .dead, .dead, .dead, .dead, .dead, .dead, .dead, .dead, .dead, .dead, .dead, .dead, .dead, .dead, .dead, .dead, .dead, .dead, .dead, .dead, .dead]⟩) (fun t => t.1.1)
    ⟨(l.length, List.replicate l.length 0, 0), by simp, by simp, Limbs.rep _, by simpa using hb0, by simp [val]⟩ (Le_of ?_ rfl) fun t => ?_
  · simp [leE]
    exact wrap_i64 (by omega) (by omega)
  obtain ⟨⟨i, q, k⟩, h3, h4, h5, h6, h7⟩ := t
  dsimp only at h3 h4 h5 h6 h7 ⊢
  rcases i with _ | i
  · refine W_seq ?_
    ((first | refine W_seqV ?_ | refine W_seq (W_seqV ?_) | refine W_regV ?_); intro K hK; (refine sNa ?_; try exact True.intro))
    ((repeat refine aI ?_); refine hK _ ?_; clear hK K)
    (repeat' (first | (exfalso; simp at h; done) | refine W_block ?_ | (refine W_seqV fun K hK => ?_; (try (refine sNa ?_; try exact True.intro)); (repeat refine aI ?_); refine hK _ ?_; clear hK K) | (refine W_seqR fun K hK => ?_; (try (refine sNa ?_; try exact True.intro)); (repeat refine aI ?_); refine hK _ ?_; clear hK K) | (refine W_seqD mixed [] (by kernel_rfl) fun K hK => ?_; (try (refine sNa ?_; try exact True.intro)); (repeat refine aI ?_); refine hK _ ?_; clear hK K) | (refine W_regV fun K hK => ?_; (try (refine sNa ?_; try exact True.intro)); (repeat refine aI ?_); refine hK _ ?_; clear hK K) | (refine W_regR fun K hK => ?_; (try (refine sNa ?_; try exact True.intro)); (repeat refine aI ?_); refine hK _ ?_; clear hK K) | (refine W_regD mixed [] (by kernel_rfl) fun K hK => ?_; (try (refine sNa ?_; try exact True.intro)); (repeat refine aI ?_); refine hK _ ?_; clear hK K) | refine W_skip ?_ | (refine W_ret ?_; (refine qG ?_; try exact True.intro)) | (refine W_exit ?_; simp only [thenW, blockW, if_true, reduceCtorEq, if_false, Nat.reduceEqDiff]) | (refine W_cond rfl (fun h => ?_) (fun h => ?_) <;> (try simp only [cond_true, cond_false, ne_eq, cB] at h)) | refine W_seq ?_))
    simp only [List.drop_zero] at h7
    have e1 : val l / b = val q := by
      rw [← h7, Nat.mul_comm, Nat.mul_add_div hb0, Nat.div_eq_of_lt h6, Nat.add_zero]
    have e2 : val l % b = k := by
      rw [← h7, Nat.mul_comm, Nat.mul_add_mod, Nat.mod_eq_of_lt h6]
    rw [List.take_of_length_le (by omega), e1, e2, ← padL_of h5 h4 rfl]
  · have hj : ((i + 1 : Nat) : Int) - 1 = i := by omega
    rw [hj]
    have hi : i < l.length := by omega
    have hx := hl.getD i
    have hq : (k * 4294967296 + l.getD i 0) / b < 4294967296 := Nat.div_lt_of_lt_mul (by
      have : (k + 1) * 4294967296 ≤ b * 4294967296 := Nat.mul_le_mul_right _ h6
      omega)
    have hr : (k * 4294967296 + l.getD i 0) % b < b := Nat.mod_lt _ hb0
    have hdm := Nat.div_add_mod (k * 4294967296 + l.getD i 0) b
    (repeat' (first | (exfalso; simp at h; done) | refine W_block ?_ | (refine W_seqV fun K hK => ?_; (try (refine sNa ?_; try exact True.intro)); (repeat refine aI ?_); refine hK _ ?_; clear hK K) | (refine W_seqR fun K hK => ?_; (try (refine sNa ?_; try exact True.intro)); (repeat refine aI ?_); refine hK _ ?_; clear hK K) | (refine W_seqD mixed [] (by kernel_rfl) fun K hK => ?_; (try (refine sNa ?_; try exact True.intro)); (repeat refine aI ?_); refine hK _ ?_; clear hK K) | (refine W_regV fun K hK => ?_; (try (refine sNa ?_; try exact True.intro)); (repeat refine aI ?_); refine hK _ ?_; clear hK K) | (refine W_regR fun K hK => ?_; (try (refine sNa ?_; try exact True.intro)); (repeat refine aI ?_); refine hK _ ?_; clear hK K) | (refine W_regD mixed [] (by kernel_rfl) fun K hK => ?_; (try (refine sNa ?_; try exact True.intro)); (repeat refine aI ?_); refine hK _ ?_; clear hK K) | refine W_skip ?_ | (refine W_ret ?_; (refine qG ?_; try exact True.intro)) | (refine W_exit ?_; simp only [thenW, blockW, if_true, reduceCtorEq, if_false, Nat.reduceEqDiff]) | (refine W_cond rfl (fun h => ?_) (fun h => ?_) <;> (try simp only [cond_true, cond_false, ne_eq, cB] at h)) | refine W_seq ?_))
    ((first | refine W_seqV ?_ | refine W_seq (W_seqV ?_) | refine W_regV ?_); intro K hK; (refine sNa ?_; try exact True.intro))
    ((repeat refine aI ?_); refine ⟨by kernel_rfl, rfl, _, div32_ok k (l.getD i 0) b h6 hx hb, ?_⟩; (try (refine sNa ?_; try exact True.intro)); (repeat refine aI ?_))
    ((repeat refine aI ?_); refine hK _ ?_; clear hK K)
    (repeat' (first | (exfalso; simp at h; done) | refine W_block ?_ | (refine W_seqV fun K hK => ?_; (try (refine sNa ?_; try exact True.intro)); (repeat refine aI ?_); refine hK _ ?_; clear hK K) | (refine W_seqR fun K hK => ?_; (try (refine sNa ?_; try exact True.intro)); (repeat refine aI ?_); refine hK _ ?_; clear hK K) | (refine W_seqD mixed [] (by kernel_rfl) fun K hK => ?_; (try (refine sNa ?_; try exact True.intro)); (repeat refine aI ?_); refine hK _ ?_; clear hK K) | (refine W_regV fun K hK => ?_; (try (refine sNa ?_; try exact True.intro)); (repeat refine aI ?_); refine hK _ ?_; clear hK K) | (refine W_regR fun K hK => ?_; (try (refine sNa ?_; try exact True.intro)); (repeat refine aI ?_); refine hK _ ?_; clear hK K) | (refine W_regD mixed [] (by kernel_rfl) fun K hK => ?_; (try (refine sNa ?_; try exact True.intro)); (repeat refine aI ?_); refine hK _ ?_; clear hK K) | refine W_skip ?_ | (refine W_ret ?_; (refine qG ?_; try exact True.intro)) | (refine W_exit ?_; simp only [thenW, blockW, if_true, reduceCtorEq, if_false, Nat.reduceEqDiff]) | (refine W_cond rfl (fun h => ?_) (fun h => ?_) <;> (try simp only [cond_true, cond_false, ne_eq, cB] at h)) | refine W_seq ?_))
    refine ⟨⟨(i, q.set i ((k * 4294967296 + l.getD i 0) / b), (k * 4294967296 + l.getD i 0) % b), by dsimp only; omega, by simpa using h4, h5.set _ hq, hr, ?_⟩, Le_of ?_ rfl, by dsimp only; omega⟩
    · dsimp only
      rw [drop_set_self (by omega), drop_getD hi, val, val, ← h7]
      generalize (k * 4294967296 + l.getD i 0) / b = d at *
      generalize (k * 4294967296 + l.getD i 0) % b = r at *
      rw [Nat.add_mul, Nat.mul_add, Nat.mul_assoc]
      rw [Nat.mul_comm b d] at hdm
      omega
    · simp only [leE, or_true, true_or, and_true, true_and]
      simp
      exact wrap_i64 (by omega) (by omega)
end Go.Proofs.YtjkjapjcmbfkgaaGreat.Vm

/-
  Natural numbers: moves by less than a limb; how many bits.
-/
namespace Go.Proofs.YtjkjapjcmbfkgaaGreat.Vm
open Go Go.RowKit
set_option maxRecDepth 100000
set_option linter.unusedVariables false
set_option linter.unusedSimpArgs false

theorem or_low {a x u : Nat} (hu : u < 32) (ha : a < 2 ^ u) : a ||| (x * 2 ^ u % 4294967296) = a + x * 2 ^ u % 4294967296 := by
  have h1 : x * 2 ^ u % 4294967296 = (x % 2 ^ (32 - u)) * 2 ^ u := by
    rw [show (4294967296 : Nat) = 2 ^ (32 - u) * 2 ^ u by rw [← Nat.pow_add, show 32 - u + u = 32 by omega], Nat.mul_mod_mul_right]
  rw [h1, Nat.or_comm, or_add ha, Nat.add_comm]
theorem split_shl {x u : Nat} (hu : u < 32) : x * 2 ^ u % 4294967296 + 4294967296 * (x / 2 ^ (32 - u)) = x * 2 ^ u := by
  have h2 : x / 2 ^ (32 - u) = x * 2 ^ u / 4294967296 := by
    rw [show (4294967296 : Nat) = 2 ^ (32 - u) * 2 ^ u by rw [← Nat.pow_add, show 32 - u + u = 32 by omega], Nat.mul_div_mul_right _ _ (Nat.pow_pos (by omega))]
  rw [h2]
  exact Nat.mod_add_div _ _

set_option maxHeartbeats 1000000 in
theorem moved_new (l : List Nat) (u : Nat) (hl : Limbs l) (h1 : l.length < 549755813888) (hu : u < 32) : New Tryz.prog 168 [cNat l, .int .i64 u] 114 1 (· = u32s (padL (l.length + 1) (val l * 2 ^ u))) := by
  (refine new_of_W (T := 114) (k := 1) Tryz.func168 rfl (rs := [Go.ResultVar.tmp 4]) rfl (nt := 43) rfl ?_; simp only [List.length_cons, List.length_nil, List.replicate, List.cons_append, List.nil_append])
  (repeat' (first | (exfalso; simp at h; done) | refine W_block ?_ | (refine W_seqV fun K hK => ?_; (try (refine sNa ?_; try exact True.intro)); (repeat refine aI ?_); refine hK _ ?_; clear hK K) | (refine W_seqR fun K hK => ?_; (try (refine sNa ?_; try exact True.intro)); (repeat refine aI ?_); refine hK _ ?_; clear hK K) | (refine W_seqD mixed [] (by kernel_rfl) fun K hK => ?_; (try (refine sNa ?_; try exact True.intro)); (repeat refine aI ?_); refine hK _ ?_; clear hK K) | (refine W_regV fun K hK => ?_; (try (refine sNa ?_; try exact True.intro)); (repeat refine aI ?_); refine hK _ ?_; clear hK K) | (refine W_regR fun K hK => ?_; (try (refine sNa ?_; try exact True.intro)); (repeat refine aI ?_); refine hK _ ?_; clear hK K) | (refine W_regD mixed [] (by kernel_rfl) fun K hK => ?_; (try (refine sNa ?_; try exact True.intro)); (repeat refine aI ?_); refine hK _ ?_; clear hK K) | refine W_skip ?_ | (refine W_ret ?_; (refine qG ?_; try exact True.intro)) | (refine W_exit ?_; simp only [thenW, blockW, if_true, reduceCtorEq, if_false, Nat.reduceEqDiff]) | (refine W_cond rfl (fun h => ?_) (fun h => ?_) <;> (try simp only [cond_true, cond_false, ne_eq, cB] at h)) | refine W_seq ?_))
  refine W_loop (fun t : {t : Nat × List Nat // t.1 ≤ l.length ∧ t.2.length = l.length + 1 ∧ Limbs t.2 ∧ t.2.getD t.1 0 < 2 ^ u ∧ val (t.2.take (t.1 + 1)) = val (l.take t.1) * 2 ^ u} =>
      ⟨[.sl (u32s l), .int .i64 u, .any, .any, .any, .sref 10 0 (l.length + 1), .any, .any, .any, .any, .any, .any, .int .i64 l.length, .int .i64 t.1.1, .any, .any, .any, .any, .any, .any, .any, .any, .any, .any, .any, .any, .any, .any, .any, .any, .any, .any, .any, .any, .any, .any, .any, .any, .any, .any, .any, .any, .any], [.dead, .dead, .dead, .dead, .dead, .dead, .dead, .dead, .dead, .dead, .arr 114 1 true (u32s t.1.2), .dead, .dead, .dead, .dead, .dead, .dead, .dead, .dead, .dead, .dead, .dead, .dead, .dead, .dead, .dead, .dead, .dead, .dead, .dead, .dead, .dead, .dead, .dead, .dead, .dead, .dead, .dead, .dead, .dead, .dead, .dead, .dead]⟩) (fun t => l.length - t.1.1)
    ⟨(0, List.replicate (l.length + 1) 0), by simp, by simp, Limbs.rep _, by simp [List.getD_eq_getElem?_getD, Nat.pow_pos], by simp [val, List.take_replicate, val_zeros]⟩ (Le_of (by simp [leE]) rfl) fun t => ?_
  obtain ⟨⟨i, c⟩, h3, h4, h5, h6, h7⟩ := t
  dsimp only at h3 h4 h5 h6 h7 ⊢
  have hx := hl.getD i
  have hc := h5.getD i
  (repeat' (first | (exfalso; simp at h; done) | refine W_block ?_ | (refine W_seqV fun K hK => ?_; (try (refine sNa ?_; try exact True.intro)); (repeat refine aI ?_); refine hK _ ?_; clear hK K) | (refine W_seqR fun K hK => ?_; (try (refine sNa ?_; try exact True.intro)); (repeat refine aI ?_); refine hK _ ?_; clear hK K) | (refine W_seqD mixed [] (by kernel_rfl) fun K hK => ?_; (try (refine sNa ?_; try exact True.intro)); (repeat refine aI ?_); refine hK _ ?_; clear hK K) | (refine W_regV fun K hK => ?_; (try (refine sNa ?_; try exact True.intro)); (repeat refine aI ?_); refine hK _ ?_; clear hK K) | (refine W_regR fun K hK => ?_; (try (refine sNa ?_; try exact True.intro)); (repeat refine aI ?_); refine hK _ ?_; clear hK K) | (refine W_regD mixed [] (by kernel_rfl) fun K hK => ?_; (try (refine sNa ?_; try exact True.intro)); (repeat refine aI ?_); refine hK _ ?_; clear hK K) | refine W_skip ?_ | (refine W_ret ?_; (refine qG ?_; try exact True.intro)) | (refine W_exit ?_; simp only [thenW, blockW, if_true, reduceCtorEq, if_false, Nat.reduceEqDiff]) | (refine W_cond rfl (fun h => ?_) (fun h => ?_) <;> (try simp only [cond_true, cond_false, ne_eq, cB] at h)) | refine W_seq ?_))
  · have hor := or_low (x := l.getD i 0) hu h6
    have hsp := split_shl (x := l.getD i 0) hu
    have hdv : l.getD i 0 / 2 ^ (32 - u) < 2 ^ u := Nat.div_lt_of_lt_mul (by rw [← Nat.pow_add, show 32 - u + u = 32 by omega]; exact hx)
    have hdv2 : l.getD i 0 / 2 ^ (32 - u) < 4294967296 := Nat.lt_of_le_of_lt (Nat.div_le_self _ _) hx
    have hlt : c.getD i 0 + l.getD i 0 * 2 ^ u % 4294967296 < 4294967296 := by
      rw [← hor]
      exact Nat.or_lt_two_pow (n := 32) hc (Nat.mod_lt _ (by omega))
    (repeat' (first | (exfalso; simp at h; done) | refine W_block ?_ | (refine W_seqV fun K hK => ?_; (try (refine sNa ?_; try exact True.intro)); (repeat refine aI ?_); refine hK _ ?_; clear hK K) | (refine W_seqR fun K hK => ?_; (try (refine sNa ?_; try exact True.intro)); (repeat refine aI ?_); refine hK _ ?_; clear hK K) | (refine W_seqD mixed [] (by kernel_rfl) fun K hK => ?_; (try (refine sNa ?_; try exact True.intro)); (repeat refine aI ?_); refine hK _ ?_; clear hK K) | (refine W_regV fun K hK => ?_; (try (refine sNa ?_; try exact True.intro)); (repeat refine aI ?_); refine hK _ ?_; clear hK K) | (refine W_regR fun K hK => ?_; (try (refine sNa ?_; try exact True.intro)); (repeat refine aI ?_); refine hK _ ?_; clear hK K) | (refine W_regD mixed [] (by kernel_rfl) fun K hK => ?_; (try (refine sNa ?_; try exact True.intro)); (repeat refine aI ?_); refine hK _ ?_; clear hK K) | refine W_skip ?_ | (refine W_ret ?_; (refine qG ?_; try exact True.intro)) | (refine W_exit ?_; simp only [thenW, blockW, if_true, reduceCtorEq, if_false, Nat.reduceEqDiff]) | (refine W_cond rfl (fun h => ?_) (fun h => ?_) <;> (try simp only [cond_true, cond_false, ne_eq, cB] at h)) | refine W_seq ?_))
    have hi1 : i + 1 < (c.set i (c.getD i 0 ||| l.getD i 0 * 2 ^ u % 4294967296)).length := by rw [List.length_set]; omega
    refine ⟨⟨(i + 1, (c.set i (c.getD i 0 ||| l.getD i 0 * 2 ^ u % 4294967296)).set (i + 1) (l.getD i 0 / 2 ^ (32 - u) % 4294967296)), by dsimp only; omega, by simpa using h4, (h5.set _ (by rw [hor]; exact hlt)).set _ (Nat.mod_lt _ (by omega)), ?_, ?_⟩, Le_of (by simp only [leE, or_true, true_or, and_true, true_and]) rfl, by dsimp only; omega⟩
    · dsimp only
      rw [List.getD_eq_getElem?_getD, List.getElem?_set_self hi1, Option.getD_some, Nat.mod_eq_of_lt hdv2]
      exact hdv
    · dsimp only
      rw [val_take_set hi1, val_take_set (by omega), val_take_succ, hor, Nat.mod_eq_of_lt hdv2, Nat.pow_succ]
      rw [val_take_succ] at h7
      generalize 4294967296 ^ i = P at *
      have e1 : P * (l.getD i 0 * 2 ^ u % 4294967296 + 4294967296 * (l.getD i 0 / 2 ^ (32 - u))) = P * (l.getD i 0 * 2 ^ u) := by rw [hsp]
      rw [Nat.add_mul, ← h7, Nat.mul_assoc P, Nat.mul_assoc P, ← e1, Nat.mul_add, Nat.mul_add]
      omega
  · have h0 : i = l.length := by omega
    subst h0
    rw [List.take_of_length_le (by omega), List.take_length] at h7
    exact ⟨_, by simp, by simp [u32s_length, h4], rfl, by rw [padL_of h5 h4 h7]⟩
theorem moved_ok (l : List Nat) (u : Nat) (hl : Limbs l) (h1 : l.length < 549755813888) (hu : u < 32) : Pure Tryz.prog 168 [cNat l, .int .i64 u] (· = cNat (padL (l.length + 1) (val l * 2 ^ u))) := (moved_new l u hl h1 hu).pure.mono fun r h => by
  obtain ⟨rows, rfl, rfl⟩ := h
  rfl
end Go.Proofs.YtjkjapjcmbfkgaaGreat.Vm

/-
  Natural numbers: how many bits.
-/
namespace Go.Proofs.YtjkjapjcmbfkgaaGreat.Vm
open Go Go.RowKit
set_option maxRecDepth 100000
set_option linter.unusedVariables false
set_option linter.unusedSimpArgs false

set_option maxHeartbeats 1000000 in
theorem bits_ok (l : List Nat) (hl : Limbs l) (h1 : l.length < 549755813888) : Pure Tryz.prog 145 [cNat l] (· = .int .i64 (if val l = 0 then 0 else 32 * ((limbs (val l)).length - 1 : Nat) + blen ((limbs (val l)).getD ((limbs (val l)).length - 1) 0) : Nat)) := by
  have h2 := limbs_val_length hl
  have hL := limbs_limbs (val l)
  (refine pureW Tryz.func145 rfl (rs := [Go.ResultVar.tmp 2]) rfl (n := 20) rfl ?_; simp only [List.length_cons, List.length_nil, List.replicate, List.cons_append, List.nil_append])
  (refine aNa ?_)
  ((first | refine W_seqV ?_ | refine W_seq (W_seqV ?_) | refine W_regV ?_); intro K hK; (refine sNa ?_; try exact True.intro))
  ((repeat refine aI ?_); refine ⟨by kernel_rfl, rfl, _, trim_ok' l hl (by omega), ?_⟩; (try (refine sNa ?_; try exact True.intro)); (repeat refine aI ?_))
  ((repeat refine aI ?_); refine hK _ ?_; clear hK K)
  (repeat' (first | (exfalso; simp at h; done) | refine W_block ?_ | (refine W_seqV fun K hK => ?_; (try (refine sNa ?_; try exact True.intro)); (repeat refine aI ?_); refine hK _ ?_; clear hK K) | (refine W_seqR fun K hK => ?_; (try (refine sNa ?_; try exact True.intro)); (repeat refine aI ?_); refine hK _ ?_; clear hK K) | (refine W_seqD mixed [] (by kernel_rfl) fun K hK => ?_; (try (refine sNa ?_; try exact True.intro)); (repeat refine aI ?_); refine hK _ ?_; clear hK K) | (refine W_regV fun K hK => ?_; (try (refine sNa ?_; try exact True.intro)); (repeat refine aI ?_); refine hK _ ?_; clear hK K) | (refine W_regR fun K hK => ?_; (try (refine sNa ?_; try exact True.intro)); (repeat refine aI ?_); refine hK _ ?_; clear hK K) | (refine W_regD mixed [] (by kernel_rfl) fun K hK => ?_; (try (refine sNa ?_; try exact True.intro)); (repeat refine aI ?_); refine hK _ ?_; clear hK K) | refine W_skip ?_ | (refine W_ret ?_; (refine qG ?_; try exact True.intro)) | (refine W_exit ?_; simp only [thenW, blockW, if_true, reduceCtorEq, if_false, Nat.reduceEqDiff]) | (refine W_cond rfl (fun h => ?_) (fun h => ?_) <;> (try simp only [cond_true, cond_false, ne_eq, cB] at h)) | refine W_seq ?_))
  · have h0 : val l = 0 := limbs_eq_nil.1 (List.eq_nil_of_length_eq_zero (by omega))
    simp [h0]
  · have h0 : val l ≠ 0 := fun h0 => h (by rw [h0, limbs_zero]; rfl)
    have hp : 0 < (limbs (val l)).length := by omega
    have hbl := blen_le (n := (limbs (val l)).getD ((limbs (val l)).length - 1) 0) (k := 32) (hL.getD _)
    ((first | refine W_seqV ?_ | refine W_seq (W_seqV ?_) | refine W_regV ?_); intro K hK; (refine sNa ?_; try exact True.intro))
    ((repeat refine aI ?_); refine ⟨by kernel_rfl, rfl, _, len32_ok _ (hL.getD _), ?_⟩; (try (refine sNa ?_; try exact True.intro)); (repeat refine aI ?_))
    ((repeat refine aI ?_); refine hK _ ?_; clear hK K)
    refine W_ret ?_
    (refine qG ?_; try exact True.intro)
    rw [if_neg h0, wrap_i64 (x := 32 * (((limbs (val l)).length - 1 : Nat) : Int)) (by omega) (by omega), wrap_i64 (by omega) (by omega)]
    congr 1
end Go.Proofs.YtjkjapjcmbfkgaaGreat.Vm

