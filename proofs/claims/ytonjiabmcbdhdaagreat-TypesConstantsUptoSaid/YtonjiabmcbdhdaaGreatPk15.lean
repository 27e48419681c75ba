import Derived.Test.YtonjiabmcbdhdaaGreatProg
import Derived.Test.YtonjiabmcbdhdaaGreatPk7
import Derived.Test.YtonjiabmcbdhdaaGreatPk13
import Derived.Test.YtonjiabmcbdhdaaGreatPk14
set_option linter.unusedSimpArgs false
set_option linter.unusedVariables false
namespace Go.TL
open Go
section rules
variable {P : Program} {n : Nat} {env : Env} {H : Heap} {K : TK} {all : Array Oper} {rest : List Oper}
variable {d : Nat} {ty : TypeId} {pos : String} {aft : Array Edge}
theorem TO.callD (N : Nat) {Hc Hc1 H' : Heap} {cargs : List SV} {v : SV} {f : Operand} {fid : FuncId} {caps : List SV} {args : Array Operand} {ts : Array TypeId} {vs : List SV}
  (hs : Sound P fid cargs Hc fun r H' => r = .ret v ∧ H' = Hc1) (hd : Nat.ble (d + 1) n = true) (hf : env.val f = some (.fn fid caps)) (ha : env.vals args.toList = some vs) (hl : Les (vs ++ caps) cargs)
  (hN : Nat.ble N H.length = true) (hc : H.take N = Hc) (hu : unders N cargs = true) (hb : blksUnder N Hc = true) (hv : v.under N = true) (h1 : Hc1.length = N) (h2 : blksUnder N Hc1 = true)
  (hH : forceL (Hc1 ++ H.drop N) = some H') (k : TO false P n all rest ((d, v) :: env) H' K) :
  TO false P n all (⟨some d, .call { callee := .value f, args := args, argTypes := ts }, ty, pos, aft, none⟩ :: rest) env H K := by
 refine TO.callT N hs ⟨fun u G hr => ?_, fun u G hr => ?_⟩ hd hf ha hl hu (Nat.le_of_ble_eq_true hN) hc hb (fun u G hr => ?_) (fun u G hr => ?_)
 ·obtain ⟨h, rfl⟩ := hr; cases h; exact ⟨hv, h1, h2⟩
 ·cases hr.1
 ·obtain ⟨h, rfl⟩ := hr; cases h; rw [← forceL_eq hH]; exact k
 ·cases hr.1
end rules
end Go.TL
namespace Go.Proofs.YtonjiabmcbdhdaaGreat
open Go Go.TL
def tab : Tab := (.node (.node (.node (.node (.node (.node (.node (.node .leaf 1 ⟨.scalar, 1, 8, [.v .nilFunc]⟩
 .leaf) 2 ⟨.int .i64, 1, 8, [.v (.int .i64 0)]⟩
 (.node .leaf 3 ⟨.int .i64, 1, 8, [.v (.int .i64 0)]⟩
 .leaf)) 4 ⟨.bool, 1, 1, [.v (.bool false)]⟩
 (.node (.node .leaf 5 ⟨.int .u8, 1, 1, [.v (.int .u8 0)]⟩
 .leaf) 6 ⟨.int .u8, 1, 1, [.v (.int .u8 0)]⟩
 (.node .leaf 7 ⟨.struct [(0, 2), (1, 3), (2, 4), (3, 6)], 4, 24, [.v (.int .i64 0), .v (.int .i64 0), .v (.bool false), .v (.int .u8 0)]⟩
 .leaf))) 8 ⟨.struct [(0, 2), (1, 3), (2, 4), (3, 6)], 4, 24, [.v (.int .i64 0), .v (.int .i64 0), .v (.bool false), .v (.int .u8 0)]⟩
 (.node (.node (.node .leaf 9 ⟨.str, 1, 16, [.v (str [])]⟩
 .leaf) 10 ⟨.str, 1, 16, [.v (str [])]⟩
 (.node .leaf 11 ⟨.str, 1, 16, [.v (str [])]⟩
 .leaf)) 12 ⟨.int .u64, 1, 8, [.v (.int .u64 0)]⟩
 (.node (.node .leaf 13 ⟨.struct [(0, 9), (1, 12)], 2, 24, [.v (str []), .v (.int .u64 0)]⟩
 .leaf) 14 ⟨.struct [(0, 9), (1, 12)], 2, 24, [.v (str []), .v (.int .u64 0)]⟩
 .leaf))) 15 ⟨.ptr 230, 1, 8, [.v (.pointer none)]⟩
 (.node (.node (.node (.node .leaf 16 ⟨.ptr 233, 1, 8, [.v (.pointer none)]⟩
 .leaf) 17 ⟨.ptr 242, 1, 8, [.v (.pointer none)]⟩
 (.node .leaf 18 ⟨.struct [(0, 17)], 1, 8, [.v (.pointer none)]⟩
 .leaf)) 19 ⟨.struct [(0, 17)], 1, 8, [.v (.pointer none)]⟩
 (.node (.node .leaf 20 ⟨.iface, 1, 16, [.v .nilIface]⟩
 .leaf) 21 ⟨.int .i32, 1, 4, [.v (.int .i32 0)]⟩
 .leaf)) 22 ⟨.slice 81, 1, 24, [.v (.slice none 0 0)]⟩
 (.node (.node (.node .leaf 23 ⟨.slice 46, 1, 24, [.v (.slice none 0 0)]⟩
 .leaf) 24 ⟨.struct [(0, 22), (1, 23)], 2, 48, [.v (.slice none 0 0), .v (.slice none 0 0)]⟩
 (.node .leaf 25 ⟨.struct [(0, 22), (1, 23)], 2, 48, [.v (.slice none 0 0), .v (.slice none 0 0)]⟩
 .leaf)) 26 ⟨.struct [(0, 3), (1, 3)], 2, 16, [.v (.int .i64 0), .v (.int .i64 0)]⟩
 (.node (.node .leaf 27 ⟨.struct [(0, 3), (1, 3)], 2, 16, [.v (.int .i64 0), .v (.int .i64 0)]⟩
 .leaf) 28 ⟨.int .i64, 1, 8, [.v (.int .i64 0)]⟩
 .leaf)))) 30 ⟨.scalar, 1, 8, [.v .nilFunc]⟩
 (.node (.node (.node (.node (.node .leaf 31 ⟨.scalar, 1, 8, [.v .nilFunc]⟩
 .leaf) 32 ⟨.scalar, 1, 8, [.v .nilFunc]⟩
 (.node .leaf 33 ⟨.slice 35, 1, 24, [.v (.slice none 0 0)]⟩
 .leaf)) 34 ⟨.struct [(0, 3), (1, 3), (2, 3), (3, 3), (4, 9), (5, 33)], 6, 72, [.v (.int .i64 0), .v (.int .i64 0), .v (.int .i64 0), .v (.int .i64 0), .v (str []), .v (.slice none 0 0)]⟩
 (.node (.node .leaf 35 ⟨.struct [(0, 3), (1, 3), (2, 3), (3, 3), (4, 9), (5, 33)], 6, 72, [.v (.int .i64 0), .v (.int .i64 0), .v (.int .i64 0), .v (.int .i64 0), .v (str []), .v (.slice none 0 0)]⟩
 .leaf) 36 ⟨.scalar, 1, 8, [.v .nilFunc]⟩
 .leaf)) 37 ⟨.slice 3, 1, 24, [.v (.slice none 0 0)]⟩
 (.node (.node (.node .leaf 39 ⟨.scalar, 1, 8, [.v .nilFunc]⟩
 .leaf) 40 ⟨.scalar, 1, 8, [.v .nilFunc]⟩
 (.node .leaf 41 ⟨.scalar, 1, 8, [.v .nilFunc]⟩
 .leaf)) 42 ⟨.slice 78, 1, 24, [.v (.slice none 0 0)]⟩
 (.node (.node .leaf 43 ⟨.slice 49, 1, 24, [.v (.slice none 0 0)]⟩
 .leaf) 44 ⟨.slice 64, 1, 24, [.v (.slice none 0 0)]⟩
 .leaf))) 45 ⟨.struct [(0, 9), (1, 42), (2, 42), (3, 42), (4, 43), (5, 44), (6, 33), (7, 33)], 8, 184, [.v (str []), .v (.slice none 0 0), .v (.slice none 0 0), .v (.slice none 0 0), .v (.slice none 0 0), .v (.slice none 0 0), .v (.slice none 0 0), .v (.slice none 0 0)]⟩
 (.node (.node (.node (.node .leaf 46 ⟨.struct [(0, 9), (1, 42), (2, 42), (3, 42), (4, 43), (5, 44), (6, 33), (7, 33)], 8, 184, [.v (str []), .v (.slice none 0 0), .v (.slice none 0 0), .v (.slice none 0 0), .v (.slice none 0 0), .v (.slice none 0 0), .v (.slice none 0 0), .v (.slice none 0 0)]⟩
 .leaf) 47 ⟨.slice 9, 1, 24, [.v (.slice none 0 0)]⟩
 (.node .leaf 48 ⟨.struct [(0, 47), (1, 35)], 7, 96, [.v (.slice none 0 0), .v (.int .i64 0), .v (.int .i64 0), .v (.int .i64 0), .v (.int .i64 0), .v (str []), .v (.slice none 0 0)]⟩
 .leaf)) 49 ⟨.struct [(0, 47), (1, 35)], 7, 96, [.v (.slice none 0 0), .v (.int .i64 0), .v (.int .i64 0), .v (.int .i64 0), .v (.int .i64 0), .v (str []), .v (.slice none 0 0)]⟩
 (.node (.node .leaf 50 ⟨.scalar, 1, 8, [.v .nilFunc]⟩
 .leaf) 51 ⟨.scalar, 1, 8, [.v .nilFunc]⟩
 .leaf)) 52 ⟨.scalar, 1, 8, [.v .nilFunc]⟩
 (.node (.node (.node .leaf 53 ⟨.scalar, 1, 8, [.v .nilFunc]⟩
 .leaf) 55 ⟨.scalar, 1, 8, [.v .nilFunc]⟩
 (.node .leaf 56 ⟨.scalar, 1, 8, [.v .nilFunc]⟩
 .leaf)) 57 ⟨.scalar, 1, 8, [.v .nilFunc]⟩
 (.node (.node .leaf 58 ⟨.struct [(0, 25), (2, 3), (3, 42)], 4, 80, [.v (.slice none 0 0), .v (.slice none 0 0), .v (.int .i64 0), .v (.slice none 0 0)]⟩
 .leaf) 59 ⟨.struct [(0, 25), (2, 3), (3, 42)], 4, 80, [.v (.slice none 0 0), .v (.slice none 0 0), .v (.int .i64 0), .v (.slice none 0 0)]⟩
 .leaf))))) 60 ⟨.scalar, 1, 8, [.v .nilFunc]⟩
 (.node (.node (.node (.node (.node (.node .leaf 61 ⟨.scalar, 1, 8, [.v .nilFunc]⟩
 .leaf) 62 ⟨.slice 107, 1, 24, [.v (.slice none 0 0)]⟩
 (.node .leaf 63 ⟨.struct [(0, 62)], 1, 24, [.v (.slice none 0 0)]⟩
 .leaf)) 64 ⟨.struct [(0, 62)], 1, 24, [.v (.slice none 0 0)]⟩
 (.node (.node .leaf 65 ⟨.scalar, 1, 8, [.v .nilFunc]⟩
 .leaf) 66 ⟨.scalar, 1, 8, [.v .nilFunc]⟩
 (.node .leaf 67 ⟨.scalar, 1, 8, [.v .nilFunc]⟩
 .leaf))) 69 ⟨.scalar, 1, 8, [.v .nilFunc]⟩
 (.node (.node (.node .leaf 70 ⟨.scalar, 1, 8, [.v .nilFunc]⟩
 .leaf) 71 ⟨.scalar, 1, 8, [.v .nilFunc]⟩
 (.node .leaf 72 ⟨.scalar, 1, 8, [.v .nilFunc]⟩
 .leaf)) 73 ⟨.scalar, 1, 8, [.v .nilFunc]⟩
 (.node (.node .leaf 74 ⟨.scalar, 1, 8, [.v .nilFunc]⟩
 .leaf) 75 ⟨.scalar, 1, 8, [.v .nilFunc]⟩
 .leaf))) 76 ⟨.slice 101, 1, 24, [.v (.slice none 0 0)]⟩
 (.node (.node (.node (.node .leaf 77 ⟨.struct [(0, 9), (1, 3), (2, 76)], 3, 48, [.v (str []), .v (.int .i64 0), .v (.slice none 0 0)]⟩
 .leaf) 78 ⟨.struct [(0, 9), (1, 3), (2, 76)], 3, 48, [.v (str []), .v (.int .i64 0), .v (.slice none 0 0)]⟩
 (.node .leaf 79 ⟨.scalar, 1, 8, [.v .nilFunc]⟩
 .leaf)) 80 ⟨.struct [(0, 9), (1, 47)], 2, 40, [.v (str []), .v (.slice none 0 0)]⟩
 (.node (.node .leaf 81 ⟨.struct [(0, 9), (1, 47)], 2, 40, [.v (str []), .v (.slice none 0 0)]⟩
 .leaf) 83 ⟨.scalar, 1, 8, [.v .nilFunc]⟩
 .leaf)) 84 ⟨.scalar, 1, 8, [.v .nilFunc]⟩
 (.node (.node (.node .leaf 85 ⟨.scalar, 1, 8, [.v .nilFunc]⟩
 .leaf) 86 ⟨.scalar, 1, 8, [.v .nilFunc]⟩
 (.node .leaf 87 ⟨.struct [(0, 27), (2, 28)], 3, 24, [.v (.int .i64 0), .v (.int .i64 0), .v (.int .i64 0)]⟩
 .leaf)) 88 ⟨.struct [(0, 27), (2, 28)], 3, 24, [.v (.int .i64 0), .v (.int .i64 0), .v (.int .i64 0)]⟩
 (.node (.node .leaf 90 ⟨.ptr 93, 1, 8, [.v (.pointer none)]⟩
 .leaf) 91 ⟨.map 96 3, 1, 8, [.v (.map none)]⟩
 .leaf)))) 92 ⟨.struct [(0, 25), (2, 27), (4, 91)], 5, 72, [.v (.slice none 0 0), .v (.slice none 0 0), .v (.int .i64 0), .v (.int .i64 0), .v (.map none)]⟩
 (.node (.node (.node (.node (.node .leaf 93 ⟨.struct [(0, 25), (2, 27), (4, 91)], 5, 72, [.v (.slice none 0 0), .v (.slice none 0 0), .v (.int .i64 0), .v (.int .i64 0), .v (.map none)]⟩
 .leaf) 94 ⟨.scalar, 1, 8, [.v .nilFunc]⟩
 (.node .leaf 95 ⟨.struct [(0, 3), (1, 9)], 2, 24, [.v (.int .i64 0), .v (str [])]⟩
 .leaf)) 96 ⟨.struct [(0, 3), (1, 9)], 2, 24, [.v (.int .i64 0), .v (str [])]⟩
 (.node (.node .leaf 97 ⟨.scalar, 1, 8, [.v .nilFunc]⟩
 .leaf) 98 ⟨.scalar, 1, 8, [.v .nilFunc]⟩
 .leaf)) 99 ⟨.scalar, 1, 8, [.v .nilFunc]⟩
 (.node (.node (.node .leaf 100 ⟨.struct [(0, 9), (1, 3), (2, 3)], 3, 32, [.v (str []), .v (.int .i64 0), .v (.int .i64 0)]⟩
 .leaf) 101 ⟨.struct [(0, 9), (1, 3), (2, 3)], 3, 32, [.v (str []), .v (.int .i64 0), .v (.int .i64 0)]⟩
 (.node .leaf 103 ⟨.scalar, 1, 8, [.v .nilFunc]⟩
 .leaf)) 104 ⟨.scalar, 1, 8, [.v .nilFunc]⟩
 (.node (.node .leaf 105 ⟨.slice 148, 1, 24, [.v (.slice none 0 0)]⟩
 .leaf) 106 ⟨.struct [(0, 9), (1, 42), (2, 43), (3, 44), (4, 105), (5, 105)], 6, 136, [.v (str []), .v (.slice none 0 0), .v (.slice none 0 0), .v (.slice none 0 0), .v (.slice none 0 0), .v (.slice none 0 0)]⟩
 .leaf))) 107 ⟨.struct [(0, 9), (1, 42), (2, 43), (3, 44), (4, 105), (5, 105)], 6, 136, [.v (str []), .v (.slice none 0 0), .v (.slice none 0 0), .v (.slice none 0 0), .v (.slice none 0 0), .v (.slice none 0 0)]⟩
 (.node (.node (.node (.node .leaf 108 ⟨.scalar, 1, 8, [.v .nilFunc]⟩
 .leaf) 109 ⟨.scalar, 1, 8, [.v .nilFunc]⟩
 (.node .leaf 110 ⟨.scalar, 1, 8, [.v .nilFunc]⟩
 .leaf)) 111 ⟨.scalar, 1, 8, [.v .nilFunc]⟩
 (.node (.node .leaf 112 ⟨.scalar, 1, 8, [.v .nilFunc]⟩
 .leaf) 113 ⟨.scalar, 1, 8, [.v .nilFunc]⟩
 .leaf)) 114 ⟨.scalar, 1, 8, [.v .nilFunc]⟩
 (.node (.node (.node .leaf 115 ⟨.scalar, 1, 8, [.v .nilFunc]⟩
 .leaf) 116 ⟨.scalar, 1, 8, [.v .nilFunc]⟩
 (.node .leaf 117 ⟨.scalar, 1, 8, [.v .nilFunc]⟩
 .leaf)) 118 ⟨.scalar, 1, 8, [.v .nilFunc]⟩
 (.node (.node .leaf 119 ⟨.scalar, 1, 8, [.v .nilFunc]⟩
 .leaf) 120 ⟨.scalar, 1, 8, [.v .nilFunc]⟩
 .leaf)))))) 121 ⟨.scalar, 1, 8, [.v .nilFunc]⟩
 (.node (.node (.node (.node (.node (.node (.node .leaf 122 ⟨.scalar, 1, 8, [.v .nilFunc]⟩
 .leaf) 123 ⟨.scalar, 1, 8, [.v .nilFunc]⟩
 (.node .leaf 124 ⟨.struct [(0, 27), (2, 28)], 3, 24, [.v (.int .i64 0), .v (.int .i64 0), .v (.int .i64 0)]⟩
 .leaf)) 125 ⟨.struct [(0, 27), (2, 28)], 3, 24, [.v (.int .i64 0), .v (.int .i64 0), .v (.int .i64 0)]⟩
 (.node (.node .leaf 127 ⟨.ptr 129, 1, 8, [.v (.pointer none)]⟩
 .leaf) 128 ⟨.struct [(0, 22), (1, 27)], 3, 40, [.v (.slice none 0 0), .v (.int .i64 0), .v (.int .i64 0)]⟩
 (.node .leaf 129 ⟨.struct [(0, 22), (1, 27)], 3, 40, [.v (.slice none 0 0), .v (.int .i64 0), .v (.int .i64 0)]⟩
 .leaf))) 130 ⟨.scalar, 1, 8, [.v .nilFunc]⟩
 (.node (.node (.node .leaf 131 ⟨.scalar, 1, 8, [.v .nilFunc]⟩
 .leaf) 132 ⟨.scalar, 1, 8, [.v .nilFunc]⟩
 (.node .leaf 133 ⟨.ptr 137, 1, 8, [.v (.pointer none)]⟩
 .leaf)) 134 ⟨.scalar, 1, 8, [.v .nilFunc]⟩
 (.node (.node .leaf 135 ⟨.map 9 4, 1, 8, [.v (.map none)]⟩
 .leaf) 136 ⟨.struct [(0, 133), (1, 135), (2, 135), (3, 135), (4, 47)], 5, 56, [.v (.pointer none), .v (.map none), .v (.map none), .v (.map none), .v (.slice none 0 0)]⟩
 .leaf))) 137 ⟨.struct [(0, 133), (1, 135), (2, 135), (3, 135), (4, 47)], 5, 56, [.v (.pointer none), .v (.map none), .v (.map none), .v (.map none), .v (.slice none 0 0)]⟩
 (.node (.node (.node (.node .leaf 138 ⟨.scalar, 1, 8, [.v .nilFunc]⟩
 .leaf) 139 ⟨.scalar, 1, 8, [.v .nilFunc]⟩
 (.node .leaf 140 ⟨.scalar, 1, 8, [.v .nilFunc]⟩
 .leaf)) 141 ⟨.scalar, 1, 8, [.v .nilFunc]⟩
 (.node (.node .leaf 142 ⟨.slice 42, 1, 24, [.v (.slice none 0 0)]⟩
 .leaf) 143 ⟨.scalar, 1, 8, [.v .nilFunc]⟩
 .leaf)) 144 ⟨.scalar, 1, 8, [.v .nilFunc]⟩
 (.node (.node (.node .leaf 145 ⟨.scalar, 1, 8, [.v .nilFunc]⟩
 .leaf) 146 ⟨.scalar, 1, 8, [.v .nilFunc]⟩
 (.node .leaf 147 ⟨.struct [(0, 35), (6, 3), (7, 4)], 8, 88, [.v (.int .i64 0), .v (.int .i64 0), .v (.int .i64 0), .v (.int .i64 0), .v (str []), .v (.slice none 0 0), .v (.int .i64 0), .v (.bool false)]⟩
 .leaf)) 148 ⟨.struct [(0, 35), (6, 3), (7, 4)], 8, 88, [.v (.int .i64 0), .v (.int .i64 0), .v (.int .i64 0), .v (.int .i64 0), .v (str []), .v (.slice none 0 0), .v (.int .i64 0), .v (.bool false)]⟩
 (.node (.node .leaf 149 ⟨.scalar, 1, 8, [.v .nilFunc]⟩
 .leaf) 150 ⟨.scalar, 1, 8, [.v .nilFunc]⟩
 .leaf)))) 151 ⟨.scalar, 1, 8, [.v .nilFunc]⟩
 (.node (.node (.node (.node (.node .leaf 152 ⟨.scalar, 1, 8, [.v .nilFunc]⟩
 .leaf) 153 ⟨.scalar, 1, 8, [.v .nilFunc]⟩
 (.node .leaf 154 ⟨.scalar, 1, 8, [.v .nilFunc]⟩
 .leaf)) 156 ⟨.scalar, 1, 8, [.v .nilFunc]⟩
 (.node (.node .leaf 157 ⟨.scalar, 1, 8, [.v .nilFunc]⟩
 .leaf) 158 ⟨.struct [(0, 25), (2, 3), (3, 47), (4, 47), (5, 47)], 6, 128, [.v (.slice none 0 0), .v (.slice none 0 0), .v (.int .i64 0), .v (.slice none 0 0), .v (.slice none 0 0), .v (.slice none 0 0)]⟩
 .leaf)) 159 ⟨.struct [(0, 25), (2, 3), (3, 47), (4, 47), (5, 47)], 6, 128, [.v (.slice none 0 0), .v (.slice none 0 0), .v (.int .i64 0), .v (.slice none 0 0), .v (.slice none 0 0), .v (.slice none 0 0)]⟩
 (.node (.node (.node .leaf 160 ⟨.scalar, 1, 8, [.v .nilFunc]⟩
 .leaf) 161 ⟨.scalar, 1, 8, [.v .nilFunc]⟩
 (.node .leaf 162 ⟨.scalar, 1, 8, [.v .nilFunc]⟩
 .leaf)) 163 ⟨.scalar, 1, 8, [.v .nilFunc]⟩
 (.node (.node .leaf 164 ⟨.scalar, 1, 8, [.v .nilFunc]⟩
 .leaf) 165 ⟨.scalar, 1, 8, [.v .nilFunc]⟩
 .leaf))) 167 ⟨.scalar, 1, 8, [.v .nilFunc]⟩
 (.node (.node (.node (.node .leaf 168 ⟨.scalar, 1, 8, [.v .nilFunc]⟩
 .leaf) 169 ⟨.scalar, 1, 8, [.v .nilFunc]⟩
 (.node .leaf 170 ⟨.scalar, 1, 8, [.v .nilFunc]⟩
 .leaf)) 171 ⟨.scalar, 1, 8, [.v .nilFunc]⟩
 (.node (.node .leaf 172 ⟨.scalar, 1, 8, [.v .nilFunc]⟩
 .leaf) 173 ⟨.scalar, 1, 8, [.v .nilFunc]⟩
 .leaf)) 174 ⟨.scalar, 1, 8, [.v .nilFunc]⟩
 (.node (.node (.node .leaf 175 ⟨.scalar, 1, 8, [.v .nilFunc]⟩
 .leaf) 176 ⟨.scalar, 1, 8, [.v .nilFunc]⟩
 (.node .leaf 177 ⟨.scalar, 1, 8, [.v .nilFunc]⟩
 .leaf)) 178 ⟨.scalar, 1, 8, [.v .nilFunc]⟩
 (.node (.node .leaf 179 ⟨.scalar, 1, 8, [.v .nilFunc]⟩
 .leaf) 180 ⟨.scalar, 1, 8, [.v .nilFunc]⟩
 .leaf))))) 181 ⟨.scalar, 1, 8, [.v .nilFunc]⟩
 (.node (.node (.node (.node (.node (.node .leaf 182 ⟨.scalar, 1, 8, [.v .nilFunc]⟩
 .leaf) 183 ⟨.scalar, 1, 8, [.v .nilFunc]⟩
 (.node .leaf 184 ⟨.scalar, 1, 8, [.v .nilFunc]⟩
 .leaf)) 185 ⟨.scalar, 1, 8, [.v .nilFunc]⟩
 (.node (.node .leaf 187 ⟨.scalar, 1, 8, [.v .nilFunc]⟩
 .leaf) 188 ⟨.struct [(0, 4), (1, 4), (2, 4), (3, 4), (4, 4)], 5, 5, [.v (.bool false), .v (.bool false), .v (.bool false), .v (.bool false), .v (.bool false)]⟩
 .leaf)) 189 ⟨.struct [(0, 4), (1, 4), (2, 4), (3, 4), (4, 4)], 5, 5, [.v (.bool false), .v (.bool false), .v (.bool false), .v (.bool false), .v (.bool false)]⟩
 (.node (.node (.node .leaf 190 ⟨.scalar, 1, 8, [.v .nilFunc]⟩
 .leaf) 191 ⟨.slice 4, 1, 24, [.v (.slice none 0 0)]⟩
 (.node .leaf 192 ⟨.struct [(0, 191), (1, 191)], 2, 48, [.v (.slice none 0 0), .v (.slice none 0 0)]⟩
 .leaf)) 193 ⟨.struct [(0, 191), (1, 191)], 2, 48, [.v (.slice none 0 0), .v (.slice none 0 0)]⟩
 (.node (.node .leaf 195 ⟨.scalar, 1, 8, [.v .nilFunc]⟩
 .leaf) 196 ⟨.scalar, 1, 8, [.v .nilFunc]⟩
 .leaf))) 197 ⟨.scalar, 1, 8, [.v .nilFunc]⟩
 (.node (.node (.node (.node .leaf 198 ⟨.scalar, 1, 8, [.v .nilFunc]⟩
 .leaf) 199 ⟨.scalar, 1, 8, [.v .nilFunc]⟩
 (.node .leaf 200 ⟨.scalar, 1, 8, [.v .nilFunc]⟩
 .leaf)) 201 ⟨.scalar, 1, 8, [.v .nilFunc]⟩
 (.node (.node .leaf 202 ⟨.scalar, 1, 8, [.v .nilFunc]⟩
 .leaf) 203 ⟨.scalar, 1, 8, [.v .nilFunc]⟩
 .leaf)) 204 ⟨.scalar, 1, 8, [.v .nilFunc]⟩
 (.node (.node (.node .leaf 205 ⟨.scalar, 1, 8, [.v .nilFunc]⟩
 .leaf) 206 ⟨.scalar, 1, 8, [.v .nilFunc]⟩
 (.node .leaf 207 ⟨.scalar, 1, 8, [.v .nilFunc]⟩
 .leaf)) 208 ⟨.scalar, 1, 8, [.v .nilFunc]⟩
 (.node (.node .leaf 210 ⟨.scalar, 1, 8, [.v .nilFunc]⟩
 .leaf) 212 ⟨.scalar, 1, 8, [.v .nilFunc]⟩
 .leaf)))) 214 ⟨.scalar, 1, 8, [.v .nilFunc]⟩
 (.node (.node (.node (.node (.node .leaf 215 ⟨.scalar, 1, 8, [.v .nilFunc]⟩
 .leaf) 216 ⟨.scalar, 1, 8, [.v .nilFunc]⟩
 (.node .leaf 217 ⟨.scalar, 1, 8, [.v .nilFunc]⟩
 .leaf)) 218 ⟨.scalar, 1, 8, [.v .nilFunc]⟩
 (.node (.node .leaf 219 ⟨.scalar, 1, 8, [.v .nilFunc]⟩
 .leaf) 220 ⟨.scalar, 1, 8, [.v .nilFunc]⟩
 .leaf)) 221 ⟨.scalar, 1, 8, [.v .nilFunc]⟩
 (.node (.node (.node .leaf 222 ⟨.scalar, 1, 8, [.v .nilFunc]⟩
 .leaf) 223 ⟨.scalar, 1, 8, [.v .nilFunc]⟩
 (.node .leaf 224 ⟨.int .u64, 1, 8, [.v (.int .u64 0)]⟩
 .leaf)) 225 ⟨.int .u32, 1, 4, [.v (.int .u32 0)]⟩
 (.node (.node .leaf 227 ⟨.scalar, 1, 8, [.v .nilFunc]⟩
 .leaf) 228 ⟨.scalar, 1, 8, [.v .nilFunc]⟩
 .leaf))) 229 ⟨.struct [(0, 17), (1, 17), (2, 17), (3, 9)], 4, 40, [.v (.pointer none), .v (.pointer none), .v (.pointer none), .v (str [])]⟩
 (.node (.node (.node (.node .leaf 230 ⟨.struct [(0, 17), (1, 17), (2, 17), (3, 9)], 4, 40, [.v (.pointer none), .v (.pointer none), .v (.pointer none), .v (str [])]⟩
 .leaf) 231 ⟨.array 0 16, 0, 0, []⟩
 (.node .leaf 232 ⟨.struct [(0, 231)], 0, 0, []⟩
 .leaf)) 233 ⟨.struct [(0, 231)], 0, 0, []⟩
 (.node (.node .leaf 234 ⟨.scalar, 1, 8, [.v .nilFunc]⟩
 .leaf) 235 ⟨.int .u8, 1, 1, [.v (.int .u8 0)]⟩
 .leaf)) 236 ⟨.int .u8, 1, 1, [.v (.int .u8 0)]⟩
 (.node (.node (.node .leaf 237 ⟨.scalar, 1, 8, [.v .nilFunc]⟩
 .leaf) 238 ⟨.ptr 5, 1, 8, [.v (.pointer none)]⟩
 (.node .leaf 239 ⟨.int .i32, 1, 4, [.v (.int .i32 0)]⟩
 .leaf)) 240 ⟨.int .i32, 1, 4, [.v (.int .i32 0)]⟩
 (.node (.node .leaf 241 ⟨.struct [(0, 12), (1, 12), (2, 225), (3, 235), (4, 5), (5, 5), (6, 236), (7, 237), (8, 238), (9, 239), (10, 240)], 11, 48, [.v (.int .u64 0), .v (.int .u64 0), .v (.int .u32 0), .v (.int .u8 0), .v (.int .u8 0), .v (.int .u8 0), .v (.int .u8 0), .v .nilFunc, .v (.pointer none), .v (.int .i32 0), .v (.int .i32 0)]⟩
 .leaf) 242 ⟨.struct [(0, 12), (1, 12), (2, 225), (3, 235), (4, 5), (5, 5), (6, 236), (7, 237), (8, 238), (9, 239), (10, 240)], 11, 48, [.v (.int .u64 0), .v (.int .u64 0), .v (.int .u32 0), .v (.int .u8 0), .v (.int .u8 0), .v (.int .u8 0), .v (.int .u8 0), .v .nilFunc, .v (.pointer none), .v (.int .i32 0), .v (.int .i32 0)]⟩
 .leaf)))))))
theorem tabOk : TabOk Tryz.prog tab := tabOk_of_check (by kernel_rfl)
end Go.Proofs.YtonjiabmcbdhdaaGreat
namespace Go.Proofs.YtonjiabmcbdhdaaGreat
open Go Go.TL
theorem hmix : Tryz.prog.follows .mixedOrders = true := by kernel_rfl
attribute [local irreducible] TR TO Then InBlock RetK Sound LoopK Kf GG ThenL
structure Hold (Q : Prop) : Prop where
 p : Q
theorem wk {G Q : Prop} (k : Q) (h : Hold Q → G := by
  first
  | (intro k; apply Go.TL.TO.go tabOk 300 false; exact rfl; (first | apply Go.TL.GG.to | apply Go.TL.GG.stop | apply Go.TL.GG.tr0 | apply Go.TL.GG.tr | apply Go.TL.GG.ex); exact k.p)
  | (intro k; apply Go.TL.TR.go0 tabOk 300 false; exact rfl; (first | apply Go.TL.GG.to | apply Go.TL.GG.stop | apply Go.TL.GG.tr0 | apply Go.TL.GG.tr | apply Go.TL.GG.ex); exact k.p)
  | (intro k; apply Go.TL.TR.go tabOk 300 false; exact rfl; (first | apply Go.TL.GG.to | apply Go.TL.GG.stop | apply Go.TL.GG.tr0 | apply Go.TL.GG.tr | apply Go.TL.GG.ex); exact k.p)
  | (intro k; apply Go.TL.TO.go0 tabOk 300 false; exact rfl; (first | apply Go.TL.GG.to | apply Go.TL.GG.stop | apply Go.TL.GG.tr0 | apply Go.TL.GG.tr | apply Go.TL.GG.ex); exact k.p)
  | (intro k; apply Go.TL.ThenL.go; exact k.p)
  | (intro k; apply Go.TL.TExit.go tabOk 300 false; exact rfl; (first | apply Go.TL.GG.to | apply Go.TL.GG.stop | apply Go.TL.GG.tr0 | apply Go.TL.GG.tr | apply Go.TL.GG.ex); exact k.p)
  | (intro k; apply Go.TL.TExit.fin; exact k.p)
  | (intro k; apply Go.TL.TO.want; exact rfl; exact k.p)
  | (intro k; apply Go.TL.TO.add; exact rfl; exact rfl; exact rfl; (first | omega | (simp only [List.length_append, List.length_cons, List.length_nil]; omega)); (first | omega | (simp only [List.length_append, List.length_cons, List.length_nil]; omega)); exact k.p)
  | (intro k; apply Go.TL.TO.sub64; exact rfl; exact rfl; exact rfl; (first | omega | (simp only [List.length_append, List.length_cons, List.length_nil]; omega)); (first | omega | (simp only [List.length_append, List.length_cons, List.length_nil]; omega)); exact k.p)
  | (intro k; apply Go.TL.TO.elem_nat tabOk; exact rfl; exact rfl; exact rfl; exact rfl; exact rfl; exact rfl; exact rfl; exact rfl; assumption; exact rfl; exact k.p)
  | (intro k; apply Go.TL.TO.elem_nat (j := 0) tabOk; exact rfl; exact rfl; exact rfl; exact rfl; exact rfl; exact rfl; exact rfl; exact rfl; exact rfl; exact rfl; exact k.p)
  | (intro k; apply Go.TL.TO.elem_nat (j := 1) tabOk; exact rfl; exact rfl; exact rfl; exact rfl; exact rfl; exact rfl; exact rfl; exact rfl; exact rfl; exact rfl; exact k.p)
  | (intro k; apply Go.TL.TO.elem_nat (j := 2) tabOk; exact rfl; exact rfl; exact rfl; exact rfl; exact rfl; exact rfl; exact rfl; exact rfl; exact rfl; exact rfl; exact k.p)
  | (intro k; apply Go.TL.TO.indexAddr tabOk; exact rfl; exact rfl; exact rfl; exact rfl; exact rfl; exact rfl; exact rfl; exact rfl; omega; assumption; exact k.p)
  | (intro k; apply Go.TL.TO.index_nat tabOk; exact rfl; exact rfl; exact rfl; exact rfl; exact rfl; assumption; exact k.p)
  | (intro k; apply Go.TL.TO.index_str tabOk; exact rfl; exact rfl; exact rfl; exact rfl; exact rfl; decide; exact rfl; exact k.p)
  | (intro k; apply Go.TL.TO.index_str tabOk; exact rfl; exact rfl; exact rfl; exact rfl; exact rfl; omega; assumption; exact k.p)
  | (intro k; apply Go.TL.TO.maxi; exact rfl; exact rfl; exact rfl; exact k.p)
  | (intro k; apply Go.TL.TO.mini; exact rfl; exact rfl; exact rfl; exact k.p)
  | (intro k; apply Go.TL.TR.regionLf hmix; decide +kernel; exact rfl; exact k.p)
  | (intro k; apply Go.TL.TR.regionL2 hmix; decide +kernel; exact rfl; exact k.p)
  | (intro k; apply Go.TL.TR.regionL1 hmix; decide +kernel; exact rfl; exact k.p)
  | (intro k; apply Go.TL.TR.regionQ hmix; kernel_rfl; exact rfl; exact k.p)
  | (intro k; apply Go.TL.TO.appendB tabOk; exact rfl; exact rfl; exact rfl; exact rfl; exact rfl; exact rfl; exact rfl; exact rfl; exact rfl; exact rfl; exact rfl; exact rfl; exact rfl; (first | omega | (simp only [List.length_append, List.length_cons, List.length_nil]; omega)); exact rfl; exact k.p)
  | (intro k; apply Go.TL.TO.ssl2 tabOk; exact rfl; exact rfl; exact rfl; exact rfl; exact rfl; exact rfl; exact rfl; exact rfl; exact rfl; omega; omega; exact k.p)
  | (intro k; apply Go.TL.TO.ssl_lo tabOk; exact rfl; exact rfl; exact rfl; exact rfl; exact rfl; exact rfl; exact rfl; exact rfl; omega; exact k.p)
  | (intro k; apply Go.TL.TO.ssl_hi tabOk; exact rfl; exact rfl; exact rfl; exact rfl; exact rfl; exact rfl; exact rfl; exact rfl; omega; exact k.p)
  | (intro k; apply Go.TL.TO.slice2 tabOk; exact rfl; exact rfl; exact rfl; exact rfl; exact rfl; exact rfl; omega; omega; exact k.p)
  | (intro k; apply Go.TL.TO.slice_lo tabOk; exact rfl; exact rfl; exact rfl; exact rfl; exact rfl; omega; exact k.p)
  | (intro k; apply Go.TL.TO.slice_hi tabOk; exact rfl; exact rfl; exact rfl; exact rfl; exact rfl; omega; exact k.p)
  | (intro k; apply Go.TL.TO.convert_u8; exact rfl; kernel_rfl; kernel_rfl; exact rfl; exact k.p)
  | (intro k; apply Go.TL.TO.eqb; exact rfl; exact rfl; exact rfl; kernel_rfl; exact k.p)
  | (intro k; apply Go.TL.TO.neb; exact rfl; exact rfl; exact rfl; kernel_rfl; exact k.p)
  | (intro k; apply Go.TL.TO.go tabOk 0 false; exact rfl; (first | apply Go.TL.GG.to | apply Go.TL.GG.stop | apply Go.TL.GG.tr0 | apply Go.TL.GG.tr | apply Go.TL.GG.ex); exact k.p)
  | (intro k; apply Go.TL.TR.go0 tabOk 0 false; exact rfl; (first | apply Go.TL.GG.to | apply Go.TL.GG.stop | apply Go.TL.GG.tr0 | apply Go.TL.GG.tr | apply Go.TL.GG.ex); exact k.p)
  | (intro k; apply Go.TL.TR.go tabOk 0 false; exact rfl; (first | apply Go.TL.GG.to | apply Go.TL.GG.stop | apply Go.TL.GG.tr0 | apply Go.TL.GG.tr | apply Go.TL.GG.ex); exact k.p)
  | (intro k; apply Go.TL.TO.go0 tabOk 0 false; exact rfl; (first | apply Go.TL.GG.to | apply Go.TL.GG.stop | apply Go.TL.GG.tr0 | apply Go.TL.GG.tr | apply Go.TL.GG.ex); exact k.p)
  | (intro k; apply Go.TL.TExit.go tabOk 0 false; exact rfl; (first | apply Go.TL.GG.to | apply Go.TL.GG.stop | apply Go.TL.GG.tr0 | apply Go.TL.GG.tr | apply Go.TL.GG.ex); exact k.p)
  | (intro k; apply Go.TL.LoopK.exit; exact k.p)
  | (intro k; apply Go.TL.LoopK.ret; exact k.p)) : G := h ⟨k⟩
theorem wkt {G Q : Prop} (k : Q) (h : Hold Q → G := by
  first
  | (intro k; apply Go.TL.TO.go tabOk 300 true; exact rfl; (first | apply Go.TL.GG.to | apply Go.TL.GG.stop | apply Go.TL.GG.tr0 | apply Go.TL.GG.tr | apply Go.TL.GG.ex); exact k.p)
  | (intro k; apply Go.TL.TR.go0 tabOk 300 true; exact rfl; (first | apply Go.TL.GG.to | apply Go.TL.GG.stop | apply Go.TL.GG.tr0 | apply Go.TL.GG.tr | apply Go.TL.GG.ex); exact k.p)
  | (intro k; apply Go.TL.TR.go tabOk 300 true; exact rfl; (first | apply Go.TL.GG.to | apply Go.TL.GG.stop | apply Go.TL.GG.tr0 | apply Go.TL.GG.tr | apply Go.TL.GG.ex); exact k.p)
  | (intro k; apply Go.TL.TO.go0 tabOk 300 true; exact rfl; (first | apply Go.TL.GG.to | apply Go.TL.GG.stop | apply Go.TL.GG.tr0 | apply Go.TL.GG.tr | apply Go.TL.GG.ex); exact k.p)
  | (intro k; apply Go.TL.TExit.go tabOk 300 true; exact rfl; (first | apply Go.TL.GG.to | apply Go.TL.GG.stop | apply Go.TL.GG.tr0 | apply Go.TL.GG.tr | apply Go.TL.GG.ex); exact k.p)
  | (intro k; apply Go.TL.TO.allocC tabOk; exact rfl; exact rfl; exact rfl; exact rfl; exact rfl; exact rfl; exact Nat.le_of_ble_eq_true rfl; exact k.p)) : G := h ⟨k⟩
theorem wkb {G Q : Prop} (k : Q) (h : Hold Q → G := by
  first
  | (intro k; apply Go.TL.TO.go tabOk 300 true; exact rfl; (first | apply Go.TL.GG.to | apply Go.TL.GG.stop | apply Go.TL.GG.tr0 | apply Go.TL.GG.tr | apply Go.TL.GG.ex); exact k.p)
  | (intro k; apply Go.TL.TR.go0 tabOk 300 true; exact rfl; (first | apply Go.TL.GG.to | apply Go.TL.GG.stop | apply Go.TL.GG.tr0 | apply Go.TL.GG.tr | apply Go.TL.GG.ex); exact k.p)
  | (intro k; apply Go.TL.TR.go tabOk 300 true; exact rfl; (first | apply Go.TL.GG.to | apply Go.TL.GG.stop | apply Go.TL.GG.tr0 | apply Go.TL.GG.tr | apply Go.TL.GG.ex); exact k.p)
  | (intro k; apply Go.TL.TO.go0 tabOk 300 true; exact rfl; (first | apply Go.TL.GG.to | apply Go.TL.GG.stop | apply Go.TL.GG.tr0 | apply Go.TL.GG.tr | apply Go.TL.GG.ex); exact k.p)
  | (intro k; apply Go.TL.TExit.go tabOk 300 true; exact rfl; (first | apply Go.TL.GG.to | apply Go.TL.GG.stop | apply Go.TL.GG.tr0 | apply Go.TL.GG.tr | apply Go.TL.GG.ex); exact k.p)) : G := h ⟨k⟩
theorem wk2 {G Q1 Q2 : Prop} (k1 : Q1) (k2 : Q2) (h : Hold Q1 → Hold Q2 → G := by
  intro k1 k2
  first
  | (apply Go.TL.TO.ceq; exact rfl; exact rfl; exact rfl; exact k1.p; exact k2.p)
  | (apply Go.TL.TO.cne; exact rfl; exact rfl; exact rfl; exact k1.p; exact k2.p)
  | (apply Go.TL.TO.clt; exact rfl; exact rfl; exact rfl; exact k1.p; exact k2.p)
  | (apply Go.TL.TO.cle; exact rfl; exact rfl; exact rfl; exact k1.p; exact k2.p)
  | (apply Go.TL.TO.cgt; exact rfl; exact rfl; exact rfl; exact k1.p; exact k2.p)
  | (apply Go.TL.TO.cge; exact rfl; exact rfl; exact rfl; exact k1.p; exact k2.p)
  | (apply Go.TL.TO.seq'; exact rfl; exact rfl; exact rfl; exact k1.p; exact k2.p)
  | (apply Go.TL.TO.sne'; exact rfl; exact rfl; exact rfl; exact k1.p; exact k2.p)
  | (apply Go.TL.TR.condB; exact rfl; exact k1.p; exact k2.p)) : G := h ⟨k1⟩ ⟨k2⟩
theorem wkc {G : Prop} (h : G := by
  first
  | (intro hc; exact absurd hc (by decide))
  | (intro hc; exfalso; simp only [List.length_cons, List.length_nil] at hc; omega)
  | (intro hc; exfalso; simp only [decide_eq_true_eq, decide_eq_false_iff_not, beq_iff_eq, beq_eq_false_iff_ne, bne_iff_ne, bne_eq_false_iff_eq, ne_eq, Decidable.not_not, not_true_eq_false] at hc <;> omega)
  | (intro hc; exfalso; omega)) : G := h
theorem wv {G Q : Prop} {f : FuncId} {cargs : List SV} {v : SV} (hs : Pure Tryz.prog f cargs v) (k : Q) (h : Pure Tryz.prog f cargs v → Hold Q → G := by
  intro hs k
  first
  | (apply Go.TL.TO.callV hs; exact rfl; exact rfl; exact rfl; (repeat' (first | exact trivial | exact Go.TL.Le.refl _ | refine And.intro ?_ ?_ | exact Go.TL.Le.any _ | exact Go.TL.Le.nil _ | exact Go.TL.Le.own _ _ _ | refine Go.TL.Le.tree rfl ?_ | exact Go.TL.TLe.refl _ | exact Go.TL.TLe.nil _ | refine Go.TL.TLe.ags ?_ | fail)); exact rfl; exact rfl; exact k.p)
  | (apply Go.TL.TO.callB hs; exact rfl; exact rfl; exact rfl; (repeat' (first | exact trivial | exact Go.TL.LeB.t _ | exact Go.TL.LeB.cp _ _ | exact Go.TL.LeB.fn0 _ | exact Go.TL.LeB.any _ | refine And.intro ?_ ?_ | fail)); exact Go.TL.Rigid.v _; exact k.p)) : G := h hs ⟨k⟩
theorem wb {G Q1 Q2 : Prop} {f : FuncId} {cargs : List SV} {b : Bool} (hs : Pure Tryz.prog f cargs (.t (.v (.bool b)))) (k1 : Q1) (k2 : Q2) (h : Pure Tryz.prog f cargs (.t (.v (.bool b))) → Hold Q1 → Hold Q2 → G := by
  intro hs k1 k2
  apply Go.TL.TO.callBb hs; exact rfl; exact rfl; exact rfl
  (repeat' (first | exact trivial | exact Go.TL.LeB.t _ | exact Go.TL.LeB.cp _ _ | exact Go.TL.LeB.fn0 _ | exact Go.TL.LeB.any _ | refine And.intro ?_ ?_ | refine Go.TL.LeB.tree rfl ?_ | exact Go.TL.TLe.refl _ | exact Go.TL.TLe.nil _ | refine Go.TL.TLe.ags ?_ | fail))
  exact k1.p
  exact k2.p) : G := h hs ⟨k1⟩ ⟨k2⟩
theorem wd {G Q : Prop} {f : FuncId} {cargs : List SV} {v : SV} {Hc Hc1 : Heap} (hs : Sound Tryz.prog f cargs Hc fun r H' => r = .ret v ∧ H' = Hc1) (k : Q) (h : (Sound Tryz.prog f cargs Hc fun r H' => r = .ret v ∧ H' = Hc1) → Hold Q → G := by
  intro hs k
  first
  | (apply Go.TL.TO.callD 1 hs; exact rfl; exact rfl; exact rfl; (repeat' (first | exact trivial | exact Go.TL.Le.refl _ | refine And.intro ?_ ?_ | exact Go.TL.Le.any _ | exact Go.TL.Le.nil _ | exact Go.TL.Le.own _ _ _ | refine Go.TL.Le.tree rfl ?_ | exact Go.TL.TLe.refl _ | exact Go.TL.TLe.nil _ | refine Go.TL.TLe.ags ?_ | fail)); exact rfl; exact rfl; exact rfl; exact rfl; exact rfl; exact rfl; exact rfl; exact rfl; exact k.p)
  | (apply Go.TL.TO.callD 2 hs; exact rfl; exact rfl; exact rfl; (repeat' (first | exact trivial | exact Go.TL.Le.refl _ | refine And.intro ?_ ?_ | exact Go.TL.Le.any _ | exact Go.TL.Le.nil _ | exact Go.TL.Le.own _ _ _ | refine Go.TL.Le.tree rfl ?_ | exact Go.TL.TLe.refl _ | exact Go.TL.TLe.nil _ | refine Go.TL.TLe.ags ?_ | fail)); exact rfl; exact rfl; exact rfl; exact rfl; exact rfl; exact rfl; exact rfl; exact rfl; exact k.p)
  | (apply Go.TL.TO.callD 3 hs; exact rfl; exact rfl; exact rfl; (repeat' (first | exact trivial | exact Go.TL.Le.refl _ | refine And.intro ?_ ?_ | exact Go.TL.Le.any _ | exact Go.TL.Le.nil _ | exact Go.TL.Le.own _ _ _ | refine Go.TL.Le.tree rfl ?_ | exact Go.TL.TLe.refl _ | exact Go.TL.TLe.nil _ | refine Go.TL.TLe.ags ?_ | fail)); exact rfl; exact rfl; exact rfl; exact rfl; exact rfl; exact rfl; exact rfl; exact rfl; exact k.p)) : G := h hs ⟨k⟩
theorem wkr {G : Prop} (h : G := by
  first
  | exact RetK.pure rfl (Le.refl _) rfl
  | exact RetK.pureN rfl (Le.refl _) rfl
  | ((first | refine RetK.pure rfl ?_ rfl | refine RetK.pureN rfl ?_ rfl); repeat' (first | exact Le.refl _ | exact trivial | refine Le.tup ⟨?_, ?_⟩ | refine And.intro ?_ ?_ | exact Le.any _ | refine Le.tree rfl ?_ | exact TLe.refl _ | exact TLe.nil _ | refine TLe.ags ⟨?_, ?_⟩ | fail))) : G := h
end Go.Proofs.YtonjiabmcbdhdaaGreat
