/- The types of the seat, and that they fit. Made by gentypes.py. -/
import Derived.Test.YtgmiaokdnpaglaaV31
import Derived.Test.YtgmiaokdnpaglaaProg
set_option linter.all false
namespace Go.Proofs.YtgmiaokdnpaglaaV
open Go

def unkTy : Ty := ⟨.unknown, 0, 0, []⟩
def ty1 : Ty := ⟨.other, 1, 8, [Go.Value.nilFunc]⟩
def ty2 : Ty := ⟨.int .i64, 1, 8, [Go.Value.int Go.IntKind.i64 0]⟩
def ty3 : Ty := ⟨.int .i64, 1, 8, [Go.Value.int Go.IntKind.i64 0]⟩
def ty4 : Ty := ⟨.bool, 1, 1, [Go.Value.bool false]⟩
def ty5 : Ty := ⟨.int .u8, 1, 1, [Go.Value.int Go.IntKind.u8 0]⟩
def ty6 : Ty := ⟨.int .u8, 1, 1, [Go.Value.int Go.IntKind.u8 0]⟩
def ty7 : Ty := ⟨.struct [(0, 2), (1, 3), (2, 4), (3, 6)], 4, 24, [Go.Value.int Go.IntKind.i64 0, Go.Value.int Go.IntKind.i64 0, Go.Value.bool false, Go.Value.int Go.IntKind.u8 0]⟩
def ty8 : Ty := ⟨.struct [(0, 2), (1, 3), (2, 4), (3, 6)], 4, 24, [Go.Value.int Go.IntKind.i64 0, Go.Value.int Go.IntKind.i64 0, Go.Value.bool false, Go.Value.int Go.IntKind.u8 0]⟩
def ty9 : Ty := ⟨.str, 1, 16, [Go.Value.string { data := #[] }]⟩
def ty10 : Ty := ⟨.str, 1, 16, [Go.Value.string { data := #[] }]⟩
def ty11 : Ty := ⟨.str, 1, 16, [Go.Value.string { data := #[] }]⟩
def ty12 : Ty := ⟨.int .u64, 1, 8, [Go.Value.int Go.IntKind.u64 0]⟩
def ty13 : Ty := ⟨.struct [(0, 9), (1, 12)], 2, 24, [Go.Value.string { data := #[] }, Go.Value.int Go.IntKind.u64 0]⟩
def ty14 : Ty := ⟨.struct [(0, 9), (1, 12)], 2, 24, [Go.Value.string { data := #[] }, Go.Value.int Go.IntKind.u64 0]⟩
def ty15 : Ty := ⟨.other, 1, 8, [Go.Value.pointer none]⟩
def ty16 : Ty := ⟨.other, 1, 8, [Go.Value.pointer none]⟩
def ty17 : Ty := ⟨.other, 1, 8, [Go.Value.pointer none]⟩
def ty18 : Ty := ⟨.struct [(0, 17)], 1, 8, [Go.Value.pointer none]⟩
def ty19 : Ty := ⟨.struct [(0, 17)], 1, 8, [Go.Value.pointer none]⟩
def ty20 : Ty := ⟨.other, 1, 16, [Go.Value.nilIface]⟩
def ty21 : Ty := ⟨.int .i32, 1, 4, [Go.Value.int Go.IntKind.i32 0]⟩
def ty22 : Ty := ⟨.slice 161, 1, 24, [Go.Value.slice none 0 0]⟩
def ty23 : Ty := ⟨.slice 164, 1, 24, [Go.Value.slice none 0 0]⟩
def ty24 : Ty := ⟨.struct [(0, 22), (1, 23), (2, 3)], 3, 56, [Go.Value.slice none 0 0, Go.Value.slice none 0 0, Go.Value.int Go.IntKind.i64 0]⟩
def ty25 : Ty := ⟨.struct [(0, 22), (1, 23), (2, 3)], 3, 56, [Go.Value.slice none 0 0, Go.Value.slice none 0 0, Go.Value.int Go.IntKind.i64 0]⟩
def ty26 : Ty := ⟨.slice 3, 1, 24, [Go.Value.slice none 0 0]⟩
def ty27 : Ty := ⟨.other, 1, 8, [Go.Value.nilFunc]⟩
def ty28 : Ty := ⟨.other, 1, 8, [Go.Value.nilFunc]⟩
def ty29 : Ty := ⟨.slice 129, 1, 24, [Go.Value.slice none 0 0]⟩
def ty30 : Ty := ⟨.slice 44, 1, 24, [Go.Value.slice none 0 0]⟩
def ty31 : Ty := ⟨.struct [(0, 29), (1, 30), (2, 3)], 3, 56, [Go.Value.slice none 0 0, Go.Value.slice none 0 0, Go.Value.int Go.IntKind.i64 0]⟩
def ty32 : Ty := ⟨.struct [(0, 29), (1, 30), (2, 3)], 3, 56, [Go.Value.slice none 0 0, Go.Value.slice none 0 0, Go.Value.int Go.IntKind.i64 0]⟩
def ty33 : Ty := ⟨.other, 1, 8, [Go.Value.nilFunc]⟩
def ty34 : Ty := ⟨.other, 1, 8, [Go.Value.nilFunc]⟩
def ty35 : Ty := ⟨.other, 1, 8, [Go.Value.nilFunc]⟩
def ty36 : Ty := ⟨.other, 1, 8, [Go.Value.nilFunc]⟩
def ty37 : Ty := ⟨.other, 1, 8, [Go.Value.nilFunc]⟩
def ty38 : Ty := ⟨.other, 1, 8, [Go.Value.nilFunc]⟩
def ty39 : Ty := ⟨.other, 1, 8, [Go.Value.nilFunc]⟩
def ty40 : Ty := ⟨.slice 5, 1, 24, [Go.Value.slice none 0 0]⟩
def ty41 : Ty := ⟨.other, 1, 8, [Go.Value.nilFunc]⟩
def ty42 : Ty := ⟨.other, 1, 8, [Go.Value.nilFunc]⟩
def ty43 : Ty := ⟨.struct [(0, 3), (1, 3), (2, 3), (3, 3), (4, 4)], 5, 40, [Go.Value.int Go.IntKind.i64 0, Go.Value.int Go.IntKind.i64 0, Go.Value.int Go.IntKind.i64 0, Go.Value.int Go.IntKind.i64 0, Go.Value.bool false]⟩
def ty44 : Ty := ⟨.struct [(0, 3), (1, 3), (2, 3), (3, 3), (4, 4)], 5, 40, [Go.Value.int Go.IntKind.i64 0, Go.Value.int Go.IntKind.i64 0, Go.Value.int Go.IntKind.i64 0, Go.Value.int Go.IntKind.i64 0, Go.Value.bool false]⟩
def ty45 : Ty := ⟨.other, 1, 8, [Go.Value.nilFunc]⟩
def ty47 : Ty := ⟨.other, 1, 8, [Go.Value.nilFunc]⟩
def ty48 : Ty := ⟨.other, 1, 8, [Go.Value.nilFunc]⟩
def ty49 : Ty := ⟨.other, 1, 8, [Go.Value.nilFunc]⟩
def ty50 : Ty := ⟨.other, 1, 8, [Go.Value.nilFunc]⟩
def ty51 : Ty := ⟨.other, 1, 8, [Go.Value.nilFunc]⟩
def ty52 : Ty := ⟨.other, 1, 8, [Go.Value.nilFunc]⟩
def ty53 : Ty := ⟨.struct [(0, 3), (1, 26), (2, 26)], 3, 56, [Go.Value.int Go.IntKind.i64 0, Go.Value.slice none 0 0, Go.Value.slice none 0 0]⟩
def ty54 : Ty := ⟨.struct [(0, 3), (1, 26), (2, 26)], 3, 56, [Go.Value.int Go.IntKind.i64 0, Go.Value.slice none 0 0, Go.Value.slice none 0 0]⟩
def ty55 : Ty := ⟨.slice 181, 1, 24, [Go.Value.slice none 0 0]⟩
def ty56 : Ty := ⟨.struct [(0, 25), (3, 54), (6, 4), (7, 55)], 8, 144, [Go.Value.slice none 0 0, Go.Value.slice none 0 0, Go.Value.int Go.IntKind.i64 0, Go.Value.int Go.IntKind.i64 0, Go.Value.slice none 0 0, Go.Value.slice none 0 0, Go.Value.bool false, Go.Value.slice none 0 0]⟩
def ty57 : Ty := ⟨.struct [(0, 25), (3, 54), (6, 4), (7, 55)], 8, 144, [Go.Value.slice none 0 0, Go.Value.slice none 0 0, Go.Value.int Go.IntKind.i64 0, Go.Value.int Go.IntKind.i64 0, Go.Value.slice none 0 0, Go.Value.slice none 0 0, Go.Value.bool false, Go.Value.slice none 0 0]⟩
def ty58 : Ty := ⟨.other, 1, 8, [Go.Value.nilFunc]⟩
def ty59 : Ty := ⟨.other, 1, 8, [Go.Value.nilFunc]⟩
def ty60 : Ty := ⟨.struct [(0, 3), (1, 26), (2, 26)], 3, 56, [Go.Value.int Go.IntKind.i64 0, Go.Value.slice none 0 0, Go.Value.slice none 0 0]⟩
def ty61 : Ty := ⟨.slice 136, 1, 24, [Go.Value.slice none 0 0]⟩
def ty62 : Ty := ⟨.struct [(0, 32), (3, 60), (6, 4), (7, 61)], 8, 144, [Go.Value.slice none 0 0, Go.Value.slice none 0 0, Go.Value.int Go.IntKind.i64 0, Go.Value.int Go.IntKind.i64 0, Go.Value.slice none 0 0, Go.Value.slice none 0 0, Go.Value.bool false, Go.Value.slice none 0 0]⟩
def ty63 : Ty := ⟨.struct [(0, 32), (3, 60), (6, 4), (7, 61)], 8, 144, [Go.Value.slice none 0 0, Go.Value.slice none 0 0, Go.Value.int Go.IntKind.i64 0, Go.Value.int Go.IntKind.i64 0, Go.Value.slice none 0 0, Go.Value.slice none 0 0, Go.Value.bool false, Go.Value.slice none 0 0]⟩
def ty64 : Ty := ⟨.other, 1, 8, [Go.Value.nilFunc]⟩
def ty65 : Ty := ⟨.other, 1, 8, [Go.Value.nilFunc]⟩
def ty66 : Ty := ⟨.other, 1, 8, [Go.Value.nilFunc]⟩
def ty67 : Ty := ⟨.other, 1, 8, [Go.Value.nilFunc]⟩
def ty68 : Ty := ⟨.slice 145, 1, 24, [Go.Value.slice none 0 0]⟩
def ty69 : Ty := ⟨.other, 1, 8, [Go.Value.nilFunc]⟩
def ty70 : Ty := ⟨.other, 1, 8, [Go.Value.nilFunc]⟩
def ty71 : Ty := ⟨.slice 143, 1, 24, [Go.Value.slice none 0 0]⟩
def ty72 : Ty := ⟨.other, 1, 8, [Go.Value.nilFunc]⟩
def ty73 : Ty := ⟨.other, 1, 8, [Go.Value.nilFunc]⟩
def ty74 : Ty := ⟨.other, 1, 8, [Go.Value.nilFunc]⟩
def ty75 : Ty := ⟨.other, 1, 8, [Go.Value.nilFunc]⟩
def ty76 : Ty := ⟨.struct [(0, 3), (1, 3)], 2, 16, [Go.Value.int Go.IntKind.i64 0, Go.Value.int Go.IntKind.i64 0]⟩
def ty77 : Ty := ⟨.struct [(0, 3), (1, 3)], 2, 16, [Go.Value.int Go.IntKind.i64 0, Go.Value.int Go.IntKind.i64 0]⟩
def ty79 : Ty := ⟨.other, 1, 8, [Go.Value.nilFunc]⟩
def ty80 : Ty := ⟨.other, 1, 8, [Go.Value.nilFunc]⟩
def ty81 : Ty := ⟨.other, 1, 8, [Go.Value.nilFunc]⟩
def ty82 : Ty := ⟨.slice 197, 1, 24, [Go.Value.slice none 0 0]⟩
def ty83 : Ty := ⟨.struct [(0, 82), (1, 26), (2, 3)], 3, 56, [Go.Value.slice none 0 0, Go.Value.slice none 0 0, Go.Value.int Go.IntKind.i64 0]⟩
def ty84 : Ty := ⟨.struct [(0, 82), (1, 26), (2, 3)], 3, 56, [Go.Value.slice none 0 0, Go.Value.slice none 0 0, Go.Value.int Go.IntKind.i64 0]⟩
def ty85 : Ty := ⟨.struct [(0, 84), (3, 63), (11, 71)], 12, 224, [Go.Value.slice none 0 0, Go.Value.slice none 0 0, Go.Value.int Go.IntKind.i64 0, Go.Value.slice none 0 0, Go.Value.slice none 0 0, Go.Value.int Go.IntKind.i64 0, Go.Value.int Go.IntKind.i64 0, Go.Value.slice none 0 0, Go.Value.slice none 0 0, Go.Value.bool false, Go.Value.slice none 0 0, Go.Value.slice none 0 0]⟩
def ty86 : Ty := ⟨.struct [(0, 84), (3, 63), (11, 71)], 12, 224, [Go.Value.slice none 0 0, Go.Value.slice none 0 0, Go.Value.int Go.IntKind.i64 0, Go.Value.slice none 0 0, Go.Value.slice none 0 0, Go.Value.int Go.IntKind.i64 0, Go.Value.int Go.IntKind.i64 0, Go.Value.slice none 0 0, Go.Value.slice none 0 0, Go.Value.bool false, Go.Value.slice none 0 0, Go.Value.slice none 0 0]⟩
def ty87 : Ty := ⟨.other, 1, 8, [Go.Value.nilFunc]⟩
def ty88 : Ty := ⟨.other, 1, 8, [Go.Value.nilFunc]⟩
def ty89 : Ty := ⟨.other, 1, 8, [Go.Value.nilFunc]⟩
def ty90 : Ty := ⟨.other, 1, 8, [Go.Value.nilFunc]⟩
def ty91 : Ty := ⟨.other, 1, 8, [Go.Value.nilFunc]⟩
def ty92 : Ty := ⟨.other, 1, 8, [Go.Value.nilFunc]⟩
def ty93 : Ty := ⟨.other, 1, 8, [Go.Value.nilFunc]⟩
def ty94 : Ty := ⟨.other, 1, 8, [Go.Value.nilFunc]⟩
def ty95 : Ty := ⟨.other, 1, 8, [Go.Value.nilFunc]⟩
def ty96 : Ty := ⟨.other, 1, 8, [Go.Value.nilFunc]⟩
def ty97 : Ty := ⟨.other, 1, 8, [Go.Value.nilFunc]⟩
def ty98 : Ty := ⟨.other, 1, 8, [Go.Value.nilFunc]⟩
def ty99 : Ty := ⟨.struct [(0, 26), (1, 26)], 2, 48, [Go.Value.slice none 0 0, Go.Value.slice none 0 0]⟩
def ty100 : Ty := ⟨.struct [(0, 26), (1, 26)], 2, 48, [Go.Value.slice none 0 0, Go.Value.slice none 0 0]⟩
def ty101 : Ty := ⟨.other, 1, 8, [Go.Value.nilFunc]⟩
def ty102 : Ty := ⟨.other, 1, 8, [Go.Value.nilFunc]⟩
def ty103 : Ty := ⟨.struct [(0, 26), (1, 26)], 2, 48, [Go.Value.slice none 0 0, Go.Value.slice none 0 0]⟩
def ty104 : Ty := ⟨.other, 1, 8, [Go.Value.nilFunc]⟩
def ty105 : Ty := ⟨.other, 1, 8, [Go.Value.nilFunc]⟩
def ty106 : Ty := ⟨.other, 1, 8, [Go.Value.nilFunc]⟩
def ty107 : Ty := ⟨.other, 1, 8, [Go.Value.nilFunc]⟩
def ty109 : Ty := ⟨.other, 1, 8, [Go.Value.nilFunc]⟩
def ty110 : Ty := ⟨.other, 1, 8, [Go.Value.nilFunc]⟩
def ty111 : Ty := ⟨.other, 1, 8, [Go.Value.nilFunc]⟩
def ty112 : Ty := ⟨.other, 1, 8, [Go.Value.nilFunc]⟩
def ty113 : Ty := ⟨.other, 1, 8, [Go.Value.nilFunc]⟩
def ty114 : Ty := ⟨.other, 1, 8, [Go.Value.nilFunc]⟩
def ty115 : Ty := ⟨.other, 1, 8, [Go.Value.nilFunc]⟩
def ty116 : Ty := ⟨.other, 1, 8, [Go.Value.nilFunc]⟩
def ty117 : Ty := ⟨.other, 1, 8, [Go.Value.nilFunc]⟩
def ty118 : Ty := ⟨.other, 1, 8, [Go.Value.nilFunc]⟩
def ty119 : Ty := ⟨.other, 1, 8, [Go.Value.nilFunc]⟩
def ty120 : Ty := ⟨.other, 1, 8, [Go.Value.nilFunc]⟩
def ty121 : Ty := ⟨.other, 1, 8, [Go.Value.pointer none]⟩
def ty122 : Ty := ⟨.other, 1, 8, [Go.Value.nilFunc]⟩
def ty123 : Ty := ⟨.other, 1, 8, [Go.Value.nilFunc]⟩
def ty124 : Ty := ⟨.other, 1, 8, [Go.Value.nilFunc]⟩
def ty125 : Ty := ⟨.other, 1, 8, [Go.Value.nilFunc]⟩
def ty126 : Ty := ⟨.other, 1, 8, [Go.Value.nilFunc]⟩
def ty127 : Ty := ⟨.other, 1, 8, [Go.Value.nilFunc]⟩
def ty128 : Ty := ⟨.struct [(0, 9), (1, 26), (2, 3)], 3, 48, [Go.Value.string { data := #[] }, Go.Value.slice none 0 0, Go.Value.int Go.IntKind.i64 0]⟩
def ty129 : Ty := ⟨.struct [(0, 9), (1, 26), (2, 3)], 3, 48, [Go.Value.string { data := #[] }, Go.Value.slice none 0 0, Go.Value.int Go.IntKind.i64 0]⟩
def ty130 : Ty := ⟨.other, 1, 8, [Go.Value.nilFunc]⟩
def ty131 : Ty := ⟨.other, 1, 8, [Go.Value.nilFunc]⟩
def ty132 : Ty := ⟨.other, 1, 8, [Go.Value.nilFunc]⟩
def ty133 : Ty := ⟨.other, 1, 8, [Go.Value.nilFunc]⟩
def ty134 : Ty := ⟨.other, 1, 8, [Go.Value.nilFunc]⟩
def ty135 : Ty := ⟨.struct [(0, 3), (1, 26), (2, 26), (3, 26)], 4, 80, [Go.Value.int Go.IntKind.i64 0, Go.Value.slice none 0 0, Go.Value.slice none 0 0, Go.Value.slice none 0 0]⟩
def ty136 : Ty := ⟨.struct [(0, 3), (1, 26), (2, 26), (3, 26)], 4, 80, [Go.Value.int Go.IntKind.i64 0, Go.Value.slice none 0 0, Go.Value.slice none 0 0, Go.Value.slice none 0 0]⟩
def ty137 : Ty := ⟨.other, 1, 8, [Go.Value.nilFunc]⟩
def ty138 : Ty := ⟨.other, 1, 8, [Go.Value.nilFunc]⟩
def ty139 : Ty := ⟨.other, 1, 8, [Go.Value.nilFunc]⟩
def ty140 : Ty := ⟨.other, 1, 8, [Go.Value.nilFunc]⟩
def ty141 : Ty := ⟨.other, 1, 8, [Go.Value.nilFunc]⟩
def ty142 : Ty := ⟨.struct [(0, 3), (1, 3)], 2, 16, [Go.Value.int Go.IntKind.i64 0, Go.Value.int Go.IntKind.i64 0]⟩
def ty143 : Ty := ⟨.struct [(0, 3), (1, 3)], 2, 16, [Go.Value.int Go.IntKind.i64 0, Go.Value.int Go.IntKind.i64 0]⟩
def ty144 : Ty := ⟨.other, 1, 8, [Go.Value.nilFunc]⟩
def ty145 : Ty := ⟨.struct [(0, 3), (1, 3)], 2, 16, [Go.Value.int Go.IntKind.i64 0, Go.Value.int Go.IntKind.i64 0]⟩
def ty146 : Ty := ⟨.other, 1, 8, [Go.Value.nilFunc]⟩
def ty147 : Ty := ⟨.other, 1, 8, [Go.Value.nilFunc]⟩
def ty148 : Ty := ⟨.other, 1, 8, [Go.Value.nilFunc]⟩
def ty149 : Ty := ⟨.other, 1, 8, [Go.Value.nilFunc]⟩
def ty150 : Ty := ⟨.other, 1, 8, [Go.Value.nilFunc]⟩
def ty151 : Ty := ⟨.other, 1, 8, [Go.Value.nilFunc]⟩
def ty152 : Ty := ⟨.other, 1, 8, [Go.Value.nilFunc]⟩
def ty153 : Ty := ⟨.other, 1, 8, [Go.Value.nilFunc]⟩
def ty154 : Ty := ⟨.other, 1, 8, [Go.Value.nilFunc]⟩
def ty155 : Ty := ⟨.other, 1, 8, [Go.Value.nilFunc]⟩
def ty156 : Ty := ⟨.other, 1, 8, [Go.Value.nilFunc]⟩
def ty157 : Ty := ⟨.other, 1, 8, [Go.Value.nilFunc]⟩
def ty158 : Ty := ⟨.other, 1, 8, [Go.Value.nilFunc]⟩
def ty159 : Ty := ⟨.other, 1, 8, [Go.Value.nilFunc]⟩
def ty160 : Ty := ⟨.other, 1, 8, [Go.Value.nilFunc]⟩
def ty161 : Ty := ⟨.struct [(0, 9), (1, 26), (2, 3)], 3, 48, [Go.Value.string { data := #[] }, Go.Value.slice none 0 0, Go.Value.int Go.IntKind.i64 0]⟩
def ty162 : Ty := ⟨.other, 1, 8, [Go.Value.nilFunc]⟩
def ty163 : Ty := ⟨.other, 1, 8, [Go.Value.nilFunc]⟩
def ty164 : Ty := ⟨.struct [(0, 3), (1, 3), (2, 3), (3, 3), (4, 4)], 5, 40, [Go.Value.int Go.IntKind.i64 0, Go.Value.int Go.IntKind.i64 0, Go.Value.int Go.IntKind.i64 0, Go.Value.int Go.IntKind.i64 0, Go.Value.bool false]⟩
def ty165 : Ty := ⟨.other, 1, 8, [Go.Value.nilFunc]⟩
def ty166 : Ty := ⟨.other, 1, 8, [Go.Value.nilFunc]⟩
def ty167 : Ty := ⟨.other, 1, 8, [Go.Value.nilFunc]⟩
def ty168 : Ty := ⟨.other, 1, 8, [Go.Value.nilFunc]⟩
def ty169 : Ty := ⟨.other, 1, 8, [Go.Value.nilFunc]⟩
def ty170 : Ty := ⟨.struct [(0, 40), (1, 3), (2, 3)], 3, 40, [Go.Value.slice none 0 0, Go.Value.int Go.IntKind.i64 0, Go.Value.int Go.IntKind.i64 0]⟩
def ty171 : Ty := ⟨.struct [(0, 40), (1, 3), (2, 3)], 3, 40, [Go.Value.slice none 0 0, Go.Value.int Go.IntKind.i64 0, Go.Value.int Go.IntKind.i64 0]⟩
def ty172 : Ty := ⟨.other, 1, 8, [Go.Value.nilFunc]⟩
def ty173 : Ty := ⟨.other, 1, 8, [Go.Value.nilFunc]⟩
def ty174 : Ty := ⟨.int .u64, 1, 8, [Go.Value.int Go.IntKind.u64 0]⟩
def ty175 : Ty := ⟨.other, 1, 8, [Go.Value.nilFunc]⟩
def ty176 : Ty := ⟨.other, 1, 8, [Go.Value.nilFunc]⟩
def ty177 : Ty := ⟨.other, 1, 8, [Go.Value.nilFunc]⟩
def ty178 : Ty := ⟨.other, 1, 8, [Go.Value.nilFunc]⟩
def ty179 : Ty := ⟨.other, 1, 8, [Go.Value.nilFunc]⟩
def ty180 : Ty := ⟨.other, 1, 8, [Go.Value.nilFunc]⟩
def ty181 : Ty := ⟨.struct [(0, 3), (1, 26), (2, 26), (3, 26)], 4, 80, [Go.Value.int Go.IntKind.i64 0, Go.Value.slice none 0 0, Go.Value.slice none 0 0, Go.Value.slice none 0 0]⟩
def ty182 : Ty := ⟨.other, 1, 8, [Go.Value.nilFunc]⟩
def ty183 : Ty := ⟨.other, 1, 8, [Go.Value.nilFunc]⟩
def ty184 : Ty := ⟨.other, 1, 8, [Go.Value.nilFunc]⟩
def ty185 : Ty := ⟨.other, 1, 8, [Go.Value.nilFunc]⟩
def ty186 : Ty := ⟨.other, 1, 8, [Go.Value.nilFunc]⟩
def ty187 : Ty := ⟨.other, 1, 8, [Go.Value.nilFunc]⟩
def ty188 : Ty := ⟨.other, 1, 8, [Go.Value.nilFunc]⟩
def ty189 : Ty := ⟨.other, 1, 8, [Go.Value.nilFunc]⟩
def ty190 : Ty := ⟨.other, 1, 8, [Go.Value.nilFunc]⟩
def ty191 : Ty := ⟨.slice 9, 1, 24, [Go.Value.slice none 0 0]⟩
def ty192 : Ty := ⟨.other, 1, 8, [Go.Value.nilFunc]⟩
def ty193 : Ty := ⟨.other, 1, 8, [Go.Value.nilFunc]⟩
def ty194 : Ty := ⟨.other, 1, 8, [Go.Value.nilFunc]⟩
def ty195 : Ty := ⟨.other, 1, 8, [Go.Value.nilFunc]⟩
def ty196 : Ty := ⟨.struct [(0, 9), (1, 3), (2, 4), (3, 3), (4, 3), (5, 3), (6, 3), (7, 4), (8, 3), (9, 3), (10, 3)], 11, 96, [Go.Value.string { data := #[] }, Go.Value.int Go.IntKind.i64 0, Go.Value.bool false, Go.Value.int Go.IntKind.i64 0, Go.Value.int Go.IntKind.i64 0, Go.Value.int Go.IntKind.i64 0, Go.Value.int Go.IntKind.i64 0, Go.Value.bool false, Go.Value.int Go.IntKind.i64 0, Go.Value.int Go.IntKind.i64 0, Go.Value.int Go.IntKind.i64 0]⟩
def ty197 : Ty := ⟨.struct [(0, 9), (1, 3), (2, 4), (3, 3), (4, 3), (5, 3), (6, 3), (7, 4), (8, 3), (9, 3), (10, 3)], 11, 96, [Go.Value.string { data := #[] }, Go.Value.int Go.IntKind.i64 0, Go.Value.bool false, Go.Value.int Go.IntKind.i64 0, Go.Value.int Go.IntKind.i64 0, Go.Value.int Go.IntKind.i64 0, Go.Value.int Go.IntKind.i64 0, Go.Value.bool false, Go.Value.int Go.IntKind.i64 0, Go.Value.int Go.IntKind.i64 0, Go.Value.int Go.IntKind.i64 0]⟩
def ty199 : Ty := ⟨.other, 1, 8, [Go.Value.nilFunc]⟩
def ty200 : Ty := ⟨.int .u32, 1, 4, [Go.Value.int Go.IntKind.u32 0]⟩
def ty202 : Ty := ⟨.other, 1, 8, [Go.Value.nilFunc]⟩
def ty203 : Ty := ⟨.int .u64, 1, 8, [Go.Value.int Go.IntKind.u64 0]⟩
def ty205 : Ty := ⟨.other, 1, 8, [Go.Value.nilFunc]⟩
def ty206 : Ty := ⟨.other, 1, 8, [Go.Value.nilFunc]⟩
def ty207 : Ty := ⟨.struct [(0, 17), (1, 17), (2, 17), (3, 9)], 4, 40, [Go.Value.pointer none, Go.Value.pointer none, Go.Value.pointer none, Go.Value.string { data := #[] }]⟩
def ty208 : Ty := ⟨.struct [(0, 17), (1, 17), (2, 17), (3, 9)], 4, 40, [Go.Value.pointer none, Go.Value.pointer none, Go.Value.pointer none, Go.Value.string { data := #[] }]⟩
def ty210 : Ty := ⟨.struct [(0, 209)], 0, 0, []⟩
def ty211 : Ty := ⟨.struct [(0, 209)], 0, 0, []⟩
def ty212 : Ty := ⟨.other, 1, 8, [Go.Value.nilFunc]⟩
def ty213 : Ty := ⟨.int .u8, 1, 1, [Go.Value.int Go.IntKind.u8 0]⟩
def ty214 : Ty := ⟨.int .u8, 1, 1, [Go.Value.int Go.IntKind.u8 0]⟩
def ty215 : Ty := ⟨.other, 1, 8, [Go.Value.nilFunc]⟩
def ty216 : Ty := ⟨.other, 1, 8, [Go.Value.pointer none]⟩
def ty217 : Ty := ⟨.int .i32, 1, 4, [Go.Value.int Go.IntKind.i32 0]⟩
def ty218 : Ty := ⟨.int .i32, 1, 4, [Go.Value.int Go.IntKind.i32 0]⟩
def ty219 : Ty := ⟨.struct [(0, 12), (1, 12), (2, 200), (3, 213), (4, 5), (5, 5), (6, 214), (7, 215), (8, 216), (9, 217), (10, 218)], 11, 48, [Go.Value.int Go.IntKind.u64 0, Go.Value.int Go.IntKind.u64 0, Go.Value.int Go.IntKind.u32 0, Go.Value.int Go.IntKind.u8 0, Go.Value.int Go.IntKind.u8 0, Go.Value.int Go.IntKind.u8 0, Go.Value.int Go.IntKind.u8 0, Go.Value.nilFunc, Go.Value.pointer none, Go.Value.int Go.IntKind.i32 0, Go.Value.int Go.IntKind.i32 0]⟩
def ty220 : Ty := ⟨.struct [(0, 12), (1, 12), (2, 200), (3, 213), (4, 5), (5, 5), (6, 214), (7, 215), (8, 216), (9, 217), (10, 218)], 11, 48, [Go.Value.int Go.IntKind.u64 0, Go.Value.int Go.IntKind.u64 0, Go.Value.int Go.IntKind.u32 0, Go.Value.int Go.IntKind.u8 0, Go.Value.int Go.IntKind.u8 0, Go.Value.int Go.IntKind.u8 0, Go.Value.int Go.IntKind.u8 0, Go.Value.nilFunc, Go.Value.pointer none, Go.Value.int Go.IntKind.i32 0, Go.Value.int Go.IntKind.i32 0]⟩
def ty221 : Ty := ⟨.other, 1, 8, [Go.Value.nilFunc]⟩
def ty222 : Ty := ⟨.other, 1, 8, [Go.Value.pointer none]⟩
def tys : List Ty := [unkTy, ty1, ty2, ty3, ty4, ty5, ty6, ty7, ty8, ty9, ty10, ty11, ty12, ty13, ty14, ty15, ty16, ty17, ty18, ty19, ty20, ty21, ty22, ty23, ty24, ty25, ty26, ty27, ty28, ty29, ty30, ty31, ty32, ty33, ty34, ty35, ty36, ty37, ty38, ty39, ty40, ty41, ty42, ty43, ty44, ty45, unkTy, ty47, ty48, ty49, ty50, ty51, ty52, ty53, ty54, ty55, ty56, ty57, ty58, ty59, ty60, ty61, ty62, ty63, ty64, ty65, ty66, ty67, ty68, ty69, ty70, ty71, ty72, ty73, ty74, ty75, ty76, ty77, unkTy, ty79, ty80, ty81, ty82, ty83, ty84, ty85, ty86, ty87, ty88, ty89, ty90, ty91, ty92, ty93, ty94, ty95, ty96, ty97, ty98, ty99, ty100, ty101, ty102, ty103, ty104, ty105, ty106, ty107, unkTy, ty109, ty110, ty111, ty112, ty113, ty114, ty115, ty116, ty117, ty118, ty119, ty120, ty121, ty122, ty123, ty124, ty125, ty126, ty127, ty128, ty129, ty130, ty131, ty132, ty133, ty134, ty135, ty136, ty137, ty138, ty139, ty140, ty141, ty142, ty143, ty144, ty145, ty146, ty147, ty148, ty149, ty150, ty151, ty152, ty153, ty154, ty155, ty156, ty157, ty158, ty159, ty160, ty161, ty162, ty163, ty164, ty165, ty166, ty167, ty168, ty169, ty170, ty171, ty172, ty173, ty174, ty175, ty176, ty177, ty178, ty179, ty180, ty181, ty182, ty183, ty184, ty185, ty186, ty187, ty188, ty189, ty190, ty191, ty192, ty193, ty194, ty195, ty196, ty197, unkTy, ty199, ty200, unkTy, ty202, ty203, unkTy, ty205, ty206, ty207, ty208, unkTy, ty210, ty211, ty212, ty213, ty214, ty215, ty216, ty217, ty218, ty219, ty220, ty221, ty222]
def T (t : Nat) : Ty := tys.getD t unkTy

inductive FitsL (P : Program) : Nat → List Ty → Prop
  | nil (k : Nat) : FitsL P k []
  | cons {k : Nat} {ty : Ty} {l : List Ty} (h : TyOk P k ty) (r : FitsL P (k + 1) l) : FitsL P k (ty :: l)

theorem FitsL.get {P : Program} : ∀ {l : List Ty} {k : Nat}, FitsL P k l → ∀ i, TyOk P (k + i) (l.getD i unkTy)
  | _, _, .nil _, i => by simp [unkTy, TyOk]
  | _, _, .cons h r, 0 => h
  | _, _, .cons (k := k) h r, i + 1 => by
    have := r.get i
    rw [show k + 1 + i = k + (i + 1) by omega] at this
    simpa using this

theorem fits_unk (P : Program) (t : Nat) : TyOk P t unkTy := by simp [unkTy, TyOk]

theorem fits_of {P : Program} {t : Nat} {ty : Ty} {i : TypeInfo} {z : Value} (hs : t < P.types.size) (h1 : P.types[t]? = some i) (h2 : i.zero = some z) (h : i.size = ty.size ∧ i.bytes = ty.bytes ∧ z.cells.toList = ty.zero ∧ ty.zero.length = ty.size) (h3 : ty.zero.all (fun v => v.oneCell') = true) (h4 : kindOk P t ty.kind) : TyOk P t ty := by
  unfold TyOk
  split
  · trivial
  · exact ⟨⟨i, z, (by unfold Tables.info?; rw [if_pos hs]; exact h1), h.1, h.2.1, h2, h.2.2.1, h.2.2.2⟩, fun v hv => List.all_eq_true.1 h3 v hv, h4⟩

theorem fits1 : TyOk Go.Proofs.Try.prog 1 ty1 := fits_of (i := Go.Proofs.Try.t1) (by rw [Go.Proofs.Try.types_size]; decide) Go.Proofs.Try.type1 rfl ⟨rfl, rfl, rfl, rfl⟩ rfl (by exact ⟨_, Go.Proofs.Try.underlying1, rfl⟩)
theorem fits2 : TyOk Go.Proofs.Try.prog 2 ty2 := fits_of (i := Go.Proofs.Try.t2) (by rw [Go.Proofs.Try.types_size]; decide) Go.Proofs.Try.type2 rfl ⟨rfl, rfl, rfl, rfl⟩ rfl (by exact Go.Proofs.Try.underlying2)
theorem fits3 : TyOk Go.Proofs.Try.prog 3 ty3 := fits_of (i := Go.Proofs.Try.t3) (by rw [Go.Proofs.Try.types_size]; decide) Go.Proofs.Try.type3 rfl ⟨rfl, rfl, rfl, rfl⟩ rfl (by exact Go.Proofs.Try.underlying3)
theorem fits4 : TyOk Go.Proofs.Try.prog 4 ty4 := fits_of (i := Go.Proofs.Try.t4) (by rw [Go.Proofs.Try.types_size]; decide) Go.Proofs.Try.type4 rfl ⟨rfl, rfl, rfl, rfl⟩ rfl (by exact Go.Proofs.Try.underlying4)
theorem fits5 : TyOk Go.Proofs.Try.prog 5 ty5 := fits_of (i := Go.Proofs.Try.t5) (by rw [Go.Proofs.Try.types_size]; decide) Go.Proofs.Try.type5 rfl ⟨rfl, rfl, rfl, rfl⟩ rfl (by exact Go.Proofs.Try.underlying5)
theorem fits6 : TyOk Go.Proofs.Try.prog 6 ty6 := fits_of (i := Go.Proofs.Try.t6) (by rw [Go.Proofs.Try.types_size]; decide) Go.Proofs.Try.type6 rfl ⟨rfl, rfl, rfl, rfl⟩ rfl (by exact Go.Proofs.Try.underlying6)
theorem fits7 : TyOk Go.Proofs.Try.prog 7 ty7 := fits_of (i := Go.Proofs.Try.t7) (by rw [Go.Proofs.Try.types_size]; decide) Go.Proofs.Try.type7 rfl ⟨rfl, rfl, rfl, rfl⟩ rfl (by exact ⟨_, Go.Proofs.Try.underlying7, rfl⟩)
theorem fits8 : TyOk Go.Proofs.Try.prog 8 ty8 := fits_of (i := Go.Proofs.Try.t8) (by rw [Go.Proofs.Try.types_size]; decide) Go.Proofs.Try.type8 rfl ⟨rfl, rfl, rfl, rfl⟩ rfl (by exact ⟨_, Go.Proofs.Try.underlying8, rfl⟩)
theorem fits9 : TyOk Go.Proofs.Try.prog 9 ty9 := fits_of (i := Go.Proofs.Try.t9) (by rw [Go.Proofs.Try.types_size]; decide) Go.Proofs.Try.type9 rfl ⟨rfl, rfl, rfl, rfl⟩ rfl (by exact Go.Proofs.Try.underlying9)
theorem fits10 : TyOk Go.Proofs.Try.prog 10 ty10 := fits_of (i := Go.Proofs.Try.t10) (by rw [Go.Proofs.Try.types_size]; decide) Go.Proofs.Try.type10 rfl ⟨rfl, rfl, rfl, rfl⟩ rfl (by exact Go.Proofs.Try.underlying10)
theorem fits11 : TyOk Go.Proofs.Try.prog 11 ty11 := fits_of (i := Go.Proofs.Try.t11) (by rw [Go.Proofs.Try.types_size]; decide) Go.Proofs.Try.type11 rfl ⟨rfl, rfl, rfl, rfl⟩ rfl (by exact Go.Proofs.Try.underlying11)
theorem fits12 : TyOk Go.Proofs.Try.prog 12 ty12 := fits_of (i := Go.Proofs.Try.t12) (by rw [Go.Proofs.Try.types_size]; decide) Go.Proofs.Try.type12 rfl ⟨rfl, rfl, rfl, rfl⟩ rfl (by exact Go.Proofs.Try.underlying12)
theorem fits13 : TyOk Go.Proofs.Try.prog 13 ty13 := fits_of (i := Go.Proofs.Try.t13) (by rw [Go.Proofs.Try.types_size]; decide) Go.Proofs.Try.type13 rfl ⟨rfl, rfl, rfl, rfl⟩ rfl (by exact ⟨_, Go.Proofs.Try.underlying13, rfl⟩)
theorem fits14 : TyOk Go.Proofs.Try.prog 14 ty14 := fits_of (i := Go.Proofs.Try.t14) (by rw [Go.Proofs.Try.types_size]; decide) Go.Proofs.Try.type14 rfl ⟨rfl, rfl, rfl, rfl⟩ rfl (by exact ⟨_, Go.Proofs.Try.underlying14, rfl⟩)
theorem fits15 : TyOk Go.Proofs.Try.prog 15 ty15 := fits_of (i := Go.Proofs.Try.t15) (by rw [Go.Proofs.Try.types_size]; decide) Go.Proofs.Try.type15 rfl ⟨rfl, rfl, rfl, rfl⟩ rfl (by exact ⟨_, Go.Proofs.Try.underlying15, rfl⟩)
theorem fits16 : TyOk Go.Proofs.Try.prog 16 ty16 := fits_of (i := Go.Proofs.Try.t16) (by rw [Go.Proofs.Try.types_size]; decide) Go.Proofs.Try.type16 rfl ⟨rfl, rfl, rfl, rfl⟩ rfl (by exact ⟨_, Go.Proofs.Try.underlying16, rfl⟩)
theorem fits17 : TyOk Go.Proofs.Try.prog 17 ty17 := fits_of (i := Go.Proofs.Try.t17) (by rw [Go.Proofs.Try.types_size]; decide) Go.Proofs.Try.type17 rfl ⟨rfl, rfl, rfl, rfl⟩ rfl (by exact ⟨_, Go.Proofs.Try.underlying17, rfl⟩)
theorem fits18 : TyOk Go.Proofs.Try.prog 18 ty18 := fits_of (i := Go.Proofs.Try.t18) (by rw [Go.Proofs.Try.types_size]; decide) Go.Proofs.Try.type18 rfl ⟨rfl, rfl, rfl, rfl⟩ rfl (by exact ⟨_, Go.Proofs.Try.underlying18, rfl⟩)
theorem fits19 : TyOk Go.Proofs.Try.prog 19 ty19 := fits_of (i := Go.Proofs.Try.t19) (by rw [Go.Proofs.Try.types_size]; decide) Go.Proofs.Try.type19 rfl ⟨rfl, rfl, rfl, rfl⟩ rfl (by exact ⟨_, Go.Proofs.Try.underlying19, rfl⟩)
theorem fits20 : TyOk Go.Proofs.Try.prog 20 ty20 := fits_of (i := Go.Proofs.Try.t20) (by rw [Go.Proofs.Try.types_size]; decide) Go.Proofs.Try.type20 rfl ⟨rfl, rfl, rfl, rfl⟩ rfl (by exact ⟨_, Go.Proofs.Try.underlying20, rfl⟩)
theorem fits21 : TyOk Go.Proofs.Try.prog 21 ty21 := fits_of (i := Go.Proofs.Try.t21) (by rw [Go.Proofs.Try.types_size]; decide) Go.Proofs.Try.type21 rfl ⟨rfl, rfl, rfl, rfl⟩ rfl (by exact Go.Proofs.Try.underlying21)
theorem fits22 : TyOk Go.Proofs.Try.prog 22 ty22 := fits_of (i := Go.Proofs.Try.t22) (by rw [Go.Proofs.Try.types_size]; decide) Go.Proofs.Try.type22 rfl ⟨rfl, rfl, rfl, rfl⟩ rfl (by exact Go.Proofs.Try.underlying22)
theorem fits23 : TyOk Go.Proofs.Try.prog 23 ty23 := fits_of (i := Go.Proofs.Try.t23) (by rw [Go.Proofs.Try.types_size]; decide) Go.Proofs.Try.type23 rfl ⟨rfl, rfl, rfl, rfl⟩ rfl (by exact Go.Proofs.Try.underlying23)
theorem fits24 : TyOk Go.Proofs.Try.prog 24 ty24 := fits_of (i := Go.Proofs.Try.t24) (by rw [Go.Proofs.Try.types_size]; decide) Go.Proofs.Try.type24 rfl ⟨rfl, rfl, rfl, rfl⟩ rfl (by exact ⟨_, Go.Proofs.Try.underlying24, rfl⟩)
theorem fits25 : TyOk Go.Proofs.Try.prog 25 ty25 := fits_of (i := Go.Proofs.Try.t25) (by rw [Go.Proofs.Try.types_size]; decide) Go.Proofs.Try.type25 rfl ⟨rfl, rfl, rfl, rfl⟩ rfl (by exact ⟨_, Go.Proofs.Try.underlying25, rfl⟩)
theorem fits26 : TyOk Go.Proofs.Try.prog 26 ty26 := fits_of (i := Go.Proofs.Try.t26) (by rw [Go.Proofs.Try.types_size]; decide) Go.Proofs.Try.type26 rfl ⟨rfl, rfl, rfl, rfl⟩ rfl (by exact Go.Proofs.Try.underlying26)
theorem fits27 : TyOk Go.Proofs.Try.prog 27 ty27 := fits_of (i := Go.Proofs.Try.t27) (by rw [Go.Proofs.Try.types_size]; decide) Go.Proofs.Try.type27 rfl ⟨rfl, rfl, rfl, rfl⟩ rfl (by exact ⟨_, Go.Proofs.Try.underlying27, rfl⟩)
theorem fits28 : TyOk Go.Proofs.Try.prog 28 ty28 := fits_of (i := Go.Proofs.Try.t28) (by rw [Go.Proofs.Try.types_size]; decide) Go.Proofs.Try.type28 rfl ⟨rfl, rfl, rfl, rfl⟩ rfl (by exact ⟨_, Go.Proofs.Try.underlying28, rfl⟩)
theorem fits29 : TyOk Go.Proofs.Try.prog 29 ty29 := fits_of (i := Go.Proofs.Try.t29) (by rw [Go.Proofs.Try.types_size]; decide) Go.Proofs.Try.type29 rfl ⟨rfl, rfl, rfl, rfl⟩ rfl (by exact Go.Proofs.Try.underlying29)
theorem fits30 : TyOk Go.Proofs.Try.prog 30 ty30 := fits_of (i := Go.Proofs.Try.t30) (by rw [Go.Proofs.Try.types_size]; decide) Go.Proofs.Try.type30 rfl ⟨rfl, rfl, rfl, rfl⟩ rfl (by exact Go.Proofs.Try.underlying30)
theorem fits31 : TyOk Go.Proofs.Try.prog 31 ty31 := fits_of (i := Go.Proofs.Try.t31) (by rw [Go.Proofs.Try.types_size]; decide) Go.Proofs.Try.type31 rfl ⟨rfl, rfl, rfl, rfl⟩ rfl (by exact ⟨_, Go.Proofs.Try.underlying31, rfl⟩)
theorem fits32 : TyOk Go.Proofs.Try.prog 32 ty32 := fits_of (i := Go.Proofs.Try.t32) (by rw [Go.Proofs.Try.types_size]; decide) Go.Proofs.Try.type32 rfl ⟨rfl, rfl, rfl, rfl⟩ rfl (by exact ⟨_, Go.Proofs.Try.underlying32, rfl⟩)
theorem fits33 : TyOk Go.Proofs.Try.prog 33 ty33 := fits_of (i := Go.Proofs.Try.t33) (by rw [Go.Proofs.Try.types_size]; decide) Go.Proofs.Try.type33 rfl ⟨rfl, rfl, rfl, rfl⟩ rfl (by exact ⟨_, Go.Proofs.Try.underlying33, rfl⟩)
theorem fits34 : TyOk Go.Proofs.Try.prog 34 ty34 := fits_of (i := Go.Proofs.Try.t34) (by rw [Go.Proofs.Try.types_size]; decide) Go.Proofs.Try.type34 rfl ⟨rfl, rfl, rfl, rfl⟩ rfl (by exact ⟨_, Go.Proofs.Try.underlying34, rfl⟩)
theorem fits35 : TyOk Go.Proofs.Try.prog 35 ty35 := fits_of (i := Go.Proofs.Try.t35) (by rw [Go.Proofs.Try.types_size]; decide) Go.Proofs.Try.type35 rfl ⟨rfl, rfl, rfl, rfl⟩ rfl (by exact ⟨_, Go.Proofs.Try.underlying35, rfl⟩)
theorem fits36 : TyOk Go.Proofs.Try.prog 36 ty36 := fits_of (i := Go.Proofs.Try.t36) (by rw [Go.Proofs.Try.types_size]; decide) Go.Proofs.Try.type36 rfl ⟨rfl, rfl, rfl, rfl⟩ rfl (by exact ⟨_, Go.Proofs.Try.underlying36, rfl⟩)
theorem fits37 : TyOk Go.Proofs.Try.prog 37 ty37 := fits_of (i := Go.Proofs.Try.t37) (by rw [Go.Proofs.Try.types_size]; decide) Go.Proofs.Try.type37 rfl ⟨rfl, rfl, rfl, rfl⟩ rfl (by exact ⟨_, Go.Proofs.Try.underlying37, rfl⟩)
theorem fits38 : TyOk Go.Proofs.Try.prog 38 ty38 := fits_of (i := Go.Proofs.Try.t38) (by rw [Go.Proofs.Try.types_size]; decide) Go.Proofs.Try.type38 rfl ⟨rfl, rfl, rfl, rfl⟩ rfl (by exact ⟨_, Go.Proofs.Try.underlying38, rfl⟩)
theorem fits39 : TyOk Go.Proofs.Try.prog 39 ty39 := fits_of (i := Go.Proofs.Try.t39) (by rw [Go.Proofs.Try.types_size]; decide) Go.Proofs.Try.type39 rfl ⟨rfl, rfl, rfl, rfl⟩ rfl (by exact ⟨_, Go.Proofs.Try.underlying39, rfl⟩)
theorem fits40 : TyOk Go.Proofs.Try.prog 40 ty40 := fits_of (i := Go.Proofs.Try.t40) (by rw [Go.Proofs.Try.types_size]; decide) Go.Proofs.Try.type40 rfl ⟨rfl, rfl, rfl, rfl⟩ rfl (by exact Go.Proofs.Try.underlying40)
theorem fits41 : TyOk Go.Proofs.Try.prog 41 ty41 := fits_of (i := Go.Proofs.Try.t41) (by rw [Go.Proofs.Try.types_size]; decide) Go.Proofs.Try.type41 rfl ⟨rfl, rfl, rfl, rfl⟩ rfl (by exact ⟨_, Go.Proofs.Try.underlying41, rfl⟩)
theorem fits42 : TyOk Go.Proofs.Try.prog 42 ty42 := fits_of (i := Go.Proofs.Try.t42) (by rw [Go.Proofs.Try.types_size]; decide) Go.Proofs.Try.type42 rfl ⟨rfl, rfl, rfl, rfl⟩ rfl (by exact ⟨_, Go.Proofs.Try.underlying42, rfl⟩)
theorem fits43 : TyOk Go.Proofs.Try.prog 43 ty43 := fits_of (i := Go.Proofs.Try.t43) (by rw [Go.Proofs.Try.types_size]; decide) Go.Proofs.Try.type43 rfl ⟨rfl, rfl, rfl, rfl⟩ rfl (by exact ⟨_, Go.Proofs.Try.underlying43, rfl⟩)
theorem fits44 : TyOk Go.Proofs.Try.prog 44 ty44 := fits_of (i := Go.Proofs.Try.t44) (by rw [Go.Proofs.Try.types_size]; decide) Go.Proofs.Try.type44 rfl ⟨rfl, rfl, rfl, rfl⟩ rfl (by exact ⟨_, Go.Proofs.Try.underlying44, rfl⟩)
theorem fits45 : TyOk Go.Proofs.Try.prog 45 ty45 := fits_of (i := Go.Proofs.Try.t45) (by rw [Go.Proofs.Try.types_size]; decide) Go.Proofs.Try.type45 rfl ⟨rfl, rfl, rfl, rfl⟩ rfl (by exact ⟨_, Go.Proofs.Try.underlying45, rfl⟩)
theorem fits47 : TyOk Go.Proofs.Try.prog 47 ty47 := fits_of (i := Go.Proofs.Try.t47) (by rw [Go.Proofs.Try.types_size]; decide) Go.Proofs.Try.type47 rfl ⟨rfl, rfl, rfl, rfl⟩ rfl (by exact ⟨_, Go.Proofs.Try.underlying47, rfl⟩)
theorem fits48 : TyOk Go.Proofs.Try.prog 48 ty48 := fits_of (i := Go.Proofs.Try.t48) (by rw [Go.Proofs.Try.types_size]; decide) Go.Proofs.Try.type48 rfl ⟨rfl, rfl, rfl, rfl⟩ rfl (by exact ⟨_, Go.Proofs.Try.underlying48, rfl⟩)
theorem fits49 : TyOk Go.Proofs.Try.prog 49 ty49 := fits_of (i := Go.Proofs.Try.t49) (by rw [Go.Proofs.Try.types_size]; decide) Go.Proofs.Try.type49 rfl ⟨rfl, rfl, rfl, rfl⟩ rfl (by exact ⟨_, Go.Proofs.Try.underlying49, rfl⟩)
theorem fits50 : TyOk Go.Proofs.Try.prog 50 ty50 := fits_of (i := Go.Proofs.Try.t50) (by rw [Go.Proofs.Try.types_size]; decide) Go.Proofs.Try.type50 rfl ⟨rfl, rfl, rfl, rfl⟩ rfl (by exact ⟨_, Go.Proofs.Try.underlying50, rfl⟩)
theorem fits51 : TyOk Go.Proofs.Try.prog 51 ty51 := fits_of (i := Go.Proofs.Try.t51) (by rw [Go.Proofs.Try.types_size]; decide) Go.Proofs.Try.type51 rfl ⟨rfl, rfl, rfl, rfl⟩ rfl (by exact ⟨_, Go.Proofs.Try.underlying51, rfl⟩)
theorem fits52 : TyOk Go.Proofs.Try.prog 52 ty52 := fits_of (i := Go.Proofs.Try.t52) (by rw [Go.Proofs.Try.types_size]; decide) Go.Proofs.Try.type52 rfl ⟨rfl, rfl, rfl, rfl⟩ rfl (by exact ⟨_, Go.Proofs.Try.underlying52, rfl⟩)
theorem fits53 : TyOk Go.Proofs.Try.prog 53 ty53 := fits_of (i := Go.Proofs.Try.t53) (by rw [Go.Proofs.Try.types_size]; decide) Go.Proofs.Try.type53 rfl ⟨rfl, rfl, rfl, rfl⟩ rfl (by exact ⟨_, Go.Proofs.Try.underlying53, rfl⟩)
theorem fits54 : TyOk Go.Proofs.Try.prog 54 ty54 := fits_of (i := Go.Proofs.Try.t54) (by rw [Go.Proofs.Try.types_size]; decide) Go.Proofs.Try.type54 rfl ⟨rfl, rfl, rfl, rfl⟩ rfl (by exact ⟨_, Go.Proofs.Try.underlying54, rfl⟩)
theorem fits55 : TyOk Go.Proofs.Try.prog 55 ty55 := fits_of (i := Go.Proofs.Try.t55) (by rw [Go.Proofs.Try.types_size]; decide) Go.Proofs.Try.type55 rfl ⟨rfl, rfl, rfl, rfl⟩ rfl (by exact Go.Proofs.Try.underlying55)
theorem fits56 : TyOk Go.Proofs.Try.prog 56 ty56 := fits_of (i := Go.Proofs.Try.t56) (by rw [Go.Proofs.Try.types_size]; decide) Go.Proofs.Try.type56 rfl ⟨rfl, rfl, rfl, rfl⟩ rfl (by exact ⟨_, Go.Proofs.Try.underlying56, rfl⟩)
theorem fits57 : TyOk Go.Proofs.Try.prog 57 ty57 := fits_of (i := Go.Proofs.Try.t57) (by rw [Go.Proofs.Try.types_size]; decide) Go.Proofs.Try.type57 rfl ⟨rfl, rfl, rfl, rfl⟩ rfl (by exact ⟨_, Go.Proofs.Try.underlying57, rfl⟩)
theorem fits58 : TyOk Go.Proofs.Try.prog 58 ty58 := fits_of (i := Go.Proofs.Try.t58) (by rw [Go.Proofs.Try.types_size]; decide) Go.Proofs.Try.type58 rfl ⟨rfl, rfl, rfl, rfl⟩ rfl (by exact ⟨_, Go.Proofs.Try.underlying58, rfl⟩)
theorem fits59 : TyOk Go.Proofs.Try.prog 59 ty59 := fits_of (i := Go.Proofs.Try.t59) (by rw [Go.Proofs.Try.types_size]; decide) Go.Proofs.Try.type59 rfl ⟨rfl, rfl, rfl, rfl⟩ rfl (by exact ⟨_, Go.Proofs.Try.underlying59, rfl⟩)
theorem fits60 : TyOk Go.Proofs.Try.prog 60 ty60 := fits_of (i := Go.Proofs.Try.t60) (by rw [Go.Proofs.Try.types_size]; decide) Go.Proofs.Try.type60 rfl ⟨rfl, rfl, rfl, rfl⟩ rfl (by exact ⟨_, Go.Proofs.Try.underlying60, rfl⟩)
theorem fits61 : TyOk Go.Proofs.Try.prog 61 ty61 := fits_of (i := Go.Proofs.Try.t61) (by rw [Go.Proofs.Try.types_size]; decide) Go.Proofs.Try.type61 rfl ⟨rfl, rfl, rfl, rfl⟩ rfl (by exact Go.Proofs.Try.underlying61)
theorem fits62 : TyOk Go.Proofs.Try.prog 62 ty62 := fits_of (i := Go.Proofs.Try.t62) (by rw [Go.Proofs.Try.types_size]; decide) Go.Proofs.Try.type62 rfl ⟨rfl, rfl, rfl, rfl⟩ rfl (by exact ⟨_, Go.Proofs.Try.underlying62, rfl⟩)
theorem fits63 : TyOk Go.Proofs.Try.prog 63 ty63 := fits_of (i := Go.Proofs.Try.t63) (by rw [Go.Proofs.Try.types_size]; decide) Go.Proofs.Try.type63 rfl ⟨rfl, rfl, rfl, rfl⟩ rfl (by exact ⟨_, Go.Proofs.Try.underlying63, rfl⟩)
theorem fits64 : TyOk Go.Proofs.Try.prog 64 ty64 := fits_of (i := Go.Proofs.Try.t64) (by rw [Go.Proofs.Try.types_size]; decide) Go.Proofs.Try.type64 rfl ⟨rfl, rfl, rfl, rfl⟩ rfl (by exact ⟨_, Go.Proofs.Try.underlying64, rfl⟩)
theorem fits65 : TyOk Go.Proofs.Try.prog 65 ty65 := fits_of (i := Go.Proofs.Try.t65) (by rw [Go.Proofs.Try.types_size]; decide) Go.Proofs.Try.type65 rfl ⟨rfl, rfl, rfl, rfl⟩ rfl (by exact ⟨_, Go.Proofs.Try.underlying65, rfl⟩)
theorem fits66 : TyOk Go.Proofs.Try.prog 66 ty66 := fits_of (i := Go.Proofs.Try.t66) (by rw [Go.Proofs.Try.types_size]; decide) Go.Proofs.Try.type66 rfl ⟨rfl, rfl, rfl, rfl⟩ rfl (by exact ⟨_, Go.Proofs.Try.underlying66, rfl⟩)
theorem fits67 : TyOk Go.Proofs.Try.prog 67 ty67 := fits_of (i := Go.Proofs.Try.t67) (by rw [Go.Proofs.Try.types_size]; decide) Go.Proofs.Try.type67 rfl ⟨rfl, rfl, rfl, rfl⟩ rfl (by exact ⟨_, Go.Proofs.Try.underlying67, rfl⟩)
theorem fits68 : TyOk Go.Proofs.Try.prog 68 ty68 := fits_of (i := Go.Proofs.Try.t68) (by rw [Go.Proofs.Try.types_size]; decide) Go.Proofs.Try.type68 rfl ⟨rfl, rfl, rfl, rfl⟩ rfl (by exact Go.Proofs.Try.underlying68)
theorem fits69 : TyOk Go.Proofs.Try.prog 69 ty69 := fits_of (i := Go.Proofs.Try.t69) (by rw [Go.Proofs.Try.types_size]; decide) Go.Proofs.Try.type69 rfl ⟨rfl, rfl, rfl, rfl⟩ rfl (by exact ⟨_, Go.Proofs.Try.underlying69, rfl⟩)
theorem fits70 : TyOk Go.Proofs.Try.prog 70 ty70 := fits_of (i := Go.Proofs.Try.t70) (by rw [Go.Proofs.Try.types_size]; decide) Go.Proofs.Try.type70 rfl ⟨rfl, rfl, rfl, rfl⟩ rfl (by exact ⟨_, Go.Proofs.Try.underlying70, rfl⟩)
theorem fits71 : TyOk Go.Proofs.Try.prog 71 ty71 := fits_of (i := Go.Proofs.Try.t71) (by rw [Go.Proofs.Try.types_size]; decide) Go.Proofs.Try.type71 rfl ⟨rfl, rfl, rfl, rfl⟩ rfl (by exact Go.Proofs.Try.underlying71)
theorem fits72 : TyOk Go.Proofs.Try.prog 72 ty72 := fits_of (i := Go.Proofs.Try.t72) (by rw [Go.Proofs.Try.types_size]; decide) Go.Proofs.Try.type72 rfl ⟨rfl, rfl, rfl, rfl⟩ rfl (by exact ⟨_, Go.Proofs.Try.underlying72, rfl⟩)
theorem fits73 : TyOk Go.Proofs.Try.prog 73 ty73 := fits_of (i := Go.Proofs.Try.t73) (by rw [Go.Proofs.Try.types_size]; decide) Go.Proofs.Try.type73 rfl ⟨rfl, rfl, rfl, rfl⟩ rfl (by exact ⟨_, Go.Proofs.Try.underlying73, rfl⟩)
theorem fits74 : TyOk Go.Proofs.Try.prog 74 ty74 := fits_of (i := Go.Proofs.Try.t74) (by rw [Go.Proofs.Try.types_size]; decide) Go.Proofs.Try.type74 rfl ⟨rfl, rfl, rfl, rfl⟩ rfl (by exact ⟨_, Go.Proofs.Try.underlying74, rfl⟩)
theorem fits75 : TyOk Go.Proofs.Try.prog 75 ty75 := fits_of (i := Go.Proofs.Try.t75) (by rw [Go.Proofs.Try.types_size]; decide) Go.Proofs.Try.type75 rfl ⟨rfl, rfl, rfl, rfl⟩ rfl (by exact ⟨_, Go.Proofs.Try.underlying75, rfl⟩)
theorem fits76 : TyOk Go.Proofs.Try.prog 76 ty76 := fits_of (i := Go.Proofs.Try.t76) (by rw [Go.Proofs.Try.types_size]; decide) Go.Proofs.Try.type76 rfl ⟨rfl, rfl, rfl, rfl⟩ rfl (by exact ⟨_, Go.Proofs.Try.underlying76, rfl⟩)
theorem fits77 : TyOk Go.Proofs.Try.prog 77 ty77 := fits_of (i := Go.Proofs.Try.t77) (by rw [Go.Proofs.Try.types_size]; decide) Go.Proofs.Try.type77 rfl ⟨rfl, rfl, rfl, rfl⟩ rfl (by exact ⟨_, Go.Proofs.Try.underlying77, rfl⟩)
theorem fits79 : TyOk Go.Proofs.Try.prog 79 ty79 := fits_of (i := Go.Proofs.Try.t79) (by rw [Go.Proofs.Try.types_size]; decide) Go.Proofs.Try.type79 rfl ⟨rfl, rfl, rfl, rfl⟩ rfl (by exact ⟨_, Go.Proofs.Try.underlying79, rfl⟩)
theorem fits80 : TyOk Go.Proofs.Try.prog 80 ty80 := fits_of (i := Go.Proofs.Try.t80) (by rw [Go.Proofs.Try.types_size]; decide) Go.Proofs.Try.type80 rfl ⟨rfl, rfl, rfl, rfl⟩ rfl (by exact ⟨_, Go.Proofs.Try.underlying80, rfl⟩)
theorem fits81 : TyOk Go.Proofs.Try.prog 81 ty81 := fits_of (i := Go.Proofs.Try.t81) (by rw [Go.Proofs.Try.types_size]; decide) Go.Proofs.Try.type81 rfl ⟨rfl, rfl, rfl, rfl⟩ rfl (by exact ⟨_, Go.Proofs.Try.underlying81, rfl⟩)
theorem fits82 : TyOk Go.Proofs.Try.prog 82 ty82 := fits_of (i := Go.Proofs.Try.t82) (by rw [Go.Proofs.Try.types_size]; decide) Go.Proofs.Try.type82 rfl ⟨rfl, rfl, rfl, rfl⟩ rfl (by exact Go.Proofs.Try.underlying82)
theorem fits83 : TyOk Go.Proofs.Try.prog 83 ty83 := fits_of (i := Go.Proofs.Try.t83) (by rw [Go.Proofs.Try.types_size]; decide) Go.Proofs.Try.type83 rfl ⟨rfl, rfl, rfl, rfl⟩ rfl (by exact ⟨_, Go.Proofs.Try.underlying83, rfl⟩)
theorem fits84 : TyOk Go.Proofs.Try.prog 84 ty84 := fits_of (i := Go.Proofs.Try.t84) (by rw [Go.Proofs.Try.types_size]; decide) Go.Proofs.Try.type84 rfl ⟨rfl, rfl, rfl, rfl⟩ rfl (by exact ⟨_, Go.Proofs.Try.underlying84, rfl⟩)
theorem fits85 : TyOk Go.Proofs.Try.prog 85 ty85 := fits_of (i := Go.Proofs.Try.t85) (by rw [Go.Proofs.Try.types_size]; decide) Go.Proofs.Try.type85 rfl ⟨rfl, rfl, rfl, rfl⟩ rfl (by exact ⟨_, Go.Proofs.Try.underlying85, rfl⟩)
theorem fits86 : TyOk Go.Proofs.Try.prog 86 ty86 := fits_of (i := Go.Proofs.Try.t86) (by rw [Go.Proofs.Try.types_size]; decide) Go.Proofs.Try.type86 rfl ⟨rfl, rfl, rfl, rfl⟩ rfl (by exact ⟨_, Go.Proofs.Try.underlying86, rfl⟩)
theorem fits87 : TyOk Go.Proofs.Try.prog 87 ty87 := fits_of (i := Go.Proofs.Try.t87) (by rw [Go.Proofs.Try.types_size]; decide) Go.Proofs.Try.type87 rfl ⟨rfl, rfl, rfl, rfl⟩ rfl (by exact ⟨_, Go.Proofs.Try.underlying87, rfl⟩)
theorem fits88 : TyOk Go.Proofs.Try.prog 88 ty88 := fits_of (i := Go.Proofs.Try.t88) (by rw [Go.Proofs.Try.types_size]; decide) Go.Proofs.Try.type88 rfl ⟨rfl, rfl, rfl, rfl⟩ rfl (by exact ⟨_, Go.Proofs.Try.underlying88, rfl⟩)
theorem fits89 : TyOk Go.Proofs.Try.prog 89 ty89 := fits_of (i := Go.Proofs.Try.t89) (by rw [Go.Proofs.Try.types_size]; decide) Go.Proofs.Try.type89 rfl ⟨rfl, rfl, rfl, rfl⟩ rfl (by exact ⟨_, Go.Proofs.Try.underlying89, rfl⟩)
theorem fits90 : TyOk Go.Proofs.Try.prog 90 ty90 := fits_of (i := Go.Proofs.Try.t90) (by rw [Go.Proofs.Try.types_size]; decide) Go.Proofs.Try.type90 rfl ⟨rfl, rfl, rfl, rfl⟩ rfl (by exact ⟨_, Go.Proofs.Try.underlying90, rfl⟩)
theorem fits91 : TyOk Go.Proofs.Try.prog 91 ty91 := fits_of (i := Go.Proofs.Try.t91) (by rw [Go.Proofs.Try.types_size]; decide) Go.Proofs.Try.type91 rfl ⟨rfl, rfl, rfl, rfl⟩ rfl (by exact ⟨_, Go.Proofs.Try.underlying91, rfl⟩)
theorem fits92 : TyOk Go.Proofs.Try.prog 92 ty92 := fits_of (i := Go.Proofs.Try.t92) (by rw [Go.Proofs.Try.types_size]; decide) Go.Proofs.Try.type92 rfl ⟨rfl, rfl, rfl, rfl⟩ rfl (by exact ⟨_, Go.Proofs.Try.underlying92, rfl⟩)
theorem fits93 : TyOk Go.Proofs.Try.prog 93 ty93 := fits_of (i := Go.Proofs.Try.t93) (by rw [Go.Proofs.Try.types_size]; decide) Go.Proofs.Try.type93 rfl ⟨rfl, rfl, rfl, rfl⟩ rfl (by exact ⟨_, Go.Proofs.Try.underlying93, rfl⟩)
theorem fits94 : TyOk Go.Proofs.Try.prog 94 ty94 := fits_of (i := Go.Proofs.Try.t94) (by rw [Go.Proofs.Try.types_size]; decide) Go.Proofs.Try.type94 rfl ⟨rfl, rfl, rfl, rfl⟩ rfl (by exact ⟨_, Go.Proofs.Try.underlying94, rfl⟩)
theorem fits95 : TyOk Go.Proofs.Try.prog 95 ty95 := fits_of (i := Go.Proofs.Try.t95) (by rw [Go.Proofs.Try.types_size]; decide) Go.Proofs.Try.type95 rfl ⟨rfl, rfl, rfl, rfl⟩ rfl (by exact ⟨_, Go.Proofs.Try.underlying95, rfl⟩)
theorem fits96 : TyOk Go.Proofs.Try.prog 96 ty96 := fits_of (i := Go.Proofs.Try.t96) (by rw [Go.Proofs.Try.types_size]; decide) Go.Proofs.Try.type96 rfl ⟨rfl, rfl, rfl, rfl⟩ rfl (by exact ⟨_, Go.Proofs.Try.underlying96, rfl⟩)
theorem fits97 : TyOk Go.Proofs.Try.prog 97 ty97 := fits_of (i := Go.Proofs.Try.t97) (by rw [Go.Proofs.Try.types_size]; decide) Go.Proofs.Try.type97 rfl ⟨rfl, rfl, rfl, rfl⟩ rfl (by exact ⟨_, Go.Proofs.Try.underlying97, rfl⟩)
theorem fits98 : TyOk Go.Proofs.Try.prog 98 ty98 := fits_of (i := Go.Proofs.Try.t98) (by rw [Go.Proofs.Try.types_size]; decide) Go.Proofs.Try.type98 rfl ⟨rfl, rfl, rfl, rfl⟩ rfl (by exact ⟨_, Go.Proofs.Try.underlying98, rfl⟩)
theorem fits99 : TyOk Go.Proofs.Try.prog 99 ty99 := fits_of (i := Go.Proofs.Try.t99) (by rw [Go.Proofs.Try.types_size]; decide) Go.Proofs.Try.type99 rfl ⟨rfl, rfl, rfl, rfl⟩ rfl (by exact ⟨_, Go.Proofs.Try.underlying99, rfl⟩)
theorem fits100 : TyOk Go.Proofs.Try.prog 100 ty100 := fits_of (i := Go.Proofs.Try.t100) (by rw [Go.Proofs.Try.types_size]; decide) Go.Proofs.Try.type100 rfl ⟨rfl, rfl, rfl, rfl⟩ rfl (by exact ⟨_, Go.Proofs.Try.underlying100, rfl⟩)
theorem fits101 : TyOk Go.Proofs.Try.prog 101 ty101 := fits_of (i := Go.Proofs.Try.t101) (by rw [Go.Proofs.Try.types_size]; decide) Go.Proofs.Try.type101 rfl ⟨rfl, rfl, rfl, rfl⟩ rfl (by exact ⟨_, Go.Proofs.Try.underlying101, rfl⟩)
theorem fits102 : TyOk Go.Proofs.Try.prog 102 ty102 := fits_of (i := Go.Proofs.Try.t102) (by rw [Go.Proofs.Try.types_size]; decide) Go.Proofs.Try.type102 rfl ⟨rfl, rfl, rfl, rfl⟩ rfl (by exact ⟨_, Go.Proofs.Try.underlying102, rfl⟩)
theorem fits103 : TyOk Go.Proofs.Try.prog 103 ty103 := fits_of (i := Go.Proofs.Try.t103) (by rw [Go.Proofs.Try.types_size]; decide) Go.Proofs.Try.type103 rfl ⟨rfl, rfl, rfl, rfl⟩ rfl (by exact ⟨_, Go.Proofs.Try.underlying103, rfl⟩)
theorem fits104 : TyOk Go.Proofs.Try.prog 104 ty104 := fits_of (i := Go.Proofs.Try.t104) (by rw [Go.Proofs.Try.types_size]; decide) Go.Proofs.Try.type104 rfl ⟨rfl, rfl, rfl, rfl⟩ rfl (by exact ⟨_, Go.Proofs.Try.underlying104, rfl⟩)
theorem fits105 : TyOk Go.Proofs.Try.prog 105 ty105 := fits_of (i := Go.Proofs.Try.t105) (by rw [Go.Proofs.Try.types_size]; decide) Go.Proofs.Try.type105 rfl ⟨rfl, rfl, rfl, rfl⟩ rfl (by exact ⟨_, Go.Proofs.Try.underlying105, rfl⟩)
theorem fits106 : TyOk Go.Proofs.Try.prog 106 ty106 := fits_of (i := Go.Proofs.Try.t106) (by rw [Go.Proofs.Try.types_size]; decide) Go.Proofs.Try.type106 rfl ⟨rfl, rfl, rfl, rfl⟩ rfl (by exact ⟨_, Go.Proofs.Try.underlying106, rfl⟩)
theorem fits107 : TyOk Go.Proofs.Try.prog 107 ty107 := fits_of (i := Go.Proofs.Try.t107) (by rw [Go.Proofs.Try.types_size]; decide) Go.Proofs.Try.type107 rfl ⟨rfl, rfl, rfl, rfl⟩ rfl (by exact ⟨_, Go.Proofs.Try.underlying107, rfl⟩)
theorem fits109 : TyOk Go.Proofs.Try.prog 109 ty109 := fits_of (i := Go.Proofs.Try.t109) (by rw [Go.Proofs.Try.types_size]; decide) Go.Proofs.Try.type109 rfl ⟨rfl, rfl, rfl, rfl⟩ rfl (by exact ⟨_, Go.Proofs.Try.underlying109, rfl⟩)
theorem fits110 : TyOk Go.Proofs.Try.prog 110 ty110 := fits_of (i := Go.Proofs.Try.t110) (by rw [Go.Proofs.Try.types_size]; decide) Go.Proofs.Try.type110 rfl ⟨rfl, rfl, rfl, rfl⟩ rfl (by exact ⟨_, Go.Proofs.Try.underlying110, rfl⟩)
theorem fits111 : TyOk Go.Proofs.Try.prog 111 ty111 := fits_of (i := Go.Proofs.Try.t111) (by rw [Go.Proofs.Try.types_size]; decide) Go.Proofs.Try.type111 rfl ⟨rfl, rfl, rfl, rfl⟩ rfl (by exact ⟨_, Go.Proofs.Try.underlying111, rfl⟩)
theorem fits112 : TyOk Go.Proofs.Try.prog 112 ty112 := fits_of (i := Go.Proofs.Try.t112) (by rw [Go.Proofs.Try.types_size]; decide) Go.Proofs.Try.type112 rfl ⟨rfl, rfl, rfl, rfl⟩ rfl (by exact ⟨_, Go.Proofs.Try.underlying112, rfl⟩)
theorem fits113 : TyOk Go.Proofs.Try.prog 113 ty113 := fits_of (i := Go.Proofs.Try.t113) (by rw [Go.Proofs.Try.types_size]; decide) Go.Proofs.Try.type113 rfl ⟨rfl, rfl, rfl, rfl⟩ rfl (by exact ⟨_, Go.Proofs.Try.underlying113, rfl⟩)
theorem fits114 : TyOk Go.Proofs.Try.prog 114 ty114 := fits_of (i := Go.Proofs.Try.t114) (by rw [Go.Proofs.Try.types_size]; decide) Go.Proofs.Try.type114 rfl ⟨rfl, rfl, rfl, rfl⟩ rfl (by exact ⟨_, Go.Proofs.Try.underlying114, rfl⟩)
theorem fits115 : TyOk Go.Proofs.Try.prog 115 ty115 := fits_of (i := Go.Proofs.Try.t115) (by rw [Go.Proofs.Try.types_size]; decide) Go.Proofs.Try.type115 rfl ⟨rfl, rfl, rfl, rfl⟩ rfl (by exact ⟨_, Go.Proofs.Try.underlying115, rfl⟩)
theorem fits116 : TyOk Go.Proofs.Try.prog 116 ty116 := fits_of (i := Go.Proofs.Try.t116) (by rw [Go.Proofs.Try.types_size]; decide) Go.Proofs.Try.type116 rfl ⟨rfl, rfl, rfl, rfl⟩ rfl (by exact ⟨_, Go.Proofs.Try.underlying116, rfl⟩)
theorem fits117 : TyOk Go.Proofs.Try.prog 117 ty117 := fits_of (i := Go.Proofs.Try.t117) (by rw [Go.Proofs.Try.types_size]; decide) Go.Proofs.Try.type117 rfl ⟨rfl, rfl, rfl, rfl⟩ rfl (by exact ⟨_, Go.Proofs.Try.underlying117, rfl⟩)
theorem fits118 : TyOk Go.Proofs.Try.prog 118 ty118 := fits_of (i := Go.Proofs.Try.t118) (by rw [Go.Proofs.Try.types_size]; decide) Go.Proofs.Try.type118 rfl ⟨rfl, rfl, rfl, rfl⟩ rfl (by exact ⟨_, Go.Proofs.Try.underlying118, rfl⟩)
theorem fits119 : TyOk Go.Proofs.Try.prog 119 ty119 := fits_of (i := Go.Proofs.Try.t119) (by rw [Go.Proofs.Try.types_size]; decide) Go.Proofs.Try.type119 rfl ⟨rfl, rfl, rfl, rfl⟩ rfl (by exact ⟨_, Go.Proofs.Try.underlying119, rfl⟩)
theorem fits120 : TyOk Go.Proofs.Try.prog 120 ty120 := fits_of (i := Go.Proofs.Try.t120) (by rw [Go.Proofs.Try.types_size]; decide) Go.Proofs.Try.type120 rfl ⟨rfl, rfl, rfl, rfl⟩ rfl (by exact ⟨_, Go.Proofs.Try.underlying120, rfl⟩)
theorem fits121 : TyOk Go.Proofs.Try.prog 121 ty121 := fits_of (i := Go.Proofs.Try.t121) (by rw [Go.Proofs.Try.types_size]; decide) Go.Proofs.Try.type121 rfl ⟨rfl, rfl, rfl, rfl⟩ rfl (by exact ⟨_, Go.Proofs.Try.underlying121, rfl⟩)
theorem fits122 : TyOk Go.Proofs.Try.prog 122 ty122 := fits_of (i := Go.Proofs.Try.t122) (by rw [Go.Proofs.Try.types_size]; decide) Go.Proofs.Try.type122 rfl ⟨rfl, rfl, rfl, rfl⟩ rfl (by exact ⟨_, Go.Proofs.Try.underlying122, rfl⟩)
theorem fits123 : TyOk Go.Proofs.Try.prog 123 ty123 := fits_of (i := Go.Proofs.Try.t123) (by rw [Go.Proofs.Try.types_size]; decide) Go.Proofs.Try.type123 rfl ⟨rfl, rfl, rfl, rfl⟩ rfl (by exact ⟨_, Go.Proofs.Try.underlying123, rfl⟩)
theorem fits124 : TyOk Go.Proofs.Try.prog 124 ty124 := fits_of (i := Go.Proofs.Try.t124) (by rw [Go.Proofs.Try.types_size]; decide) Go.Proofs.Try.type124 rfl ⟨rfl, rfl, rfl, rfl⟩ rfl (by exact ⟨_, Go.Proofs.Try.underlying124, rfl⟩)
theorem fits125 : TyOk Go.Proofs.Try.prog 125 ty125 := fits_of (i := Go.Proofs.Try.t125) (by rw [Go.Proofs.Try.types_size]; decide) Go.Proofs.Try.type125 rfl ⟨rfl, rfl, rfl, rfl⟩ rfl (by exact ⟨_, Go.Proofs.Try.underlying125, rfl⟩)
theorem fits126 : TyOk Go.Proofs.Try.prog 126 ty126 := fits_of (i := Go.Proofs.Try.t126) (by rw [Go.Proofs.Try.types_size]; decide) Go.Proofs.Try.type126 rfl ⟨rfl, rfl, rfl, rfl⟩ rfl (by exact ⟨_, Go.Proofs.Try.underlying126, rfl⟩)
theorem fits127 : TyOk Go.Proofs.Try.prog 127 ty127 := fits_of (i := Go.Proofs.Try.t127) (by rw [Go.Proofs.Try.types_size]; decide) Go.Proofs.Try.type127 rfl ⟨rfl, rfl, rfl, rfl⟩ rfl (by exact ⟨_, Go.Proofs.Try.underlying127, rfl⟩)
theorem fits128 : TyOk Go.Proofs.Try.prog 128 ty128 := fits_of (i := Go.Proofs.Try.t128) (by rw [Go.Proofs.Try.types_size]; decide) Go.Proofs.Try.type128 rfl ⟨rfl, rfl, rfl, rfl⟩ rfl (by exact ⟨_, Go.Proofs.Try.underlying128, rfl⟩)
theorem fits129 : TyOk Go.Proofs.Try.prog 129 ty129 := fits_of (i := Go.Proofs.Try.t129) (by rw [Go.Proofs.Try.types_size]; decide) Go.Proofs.Try.type129 rfl ⟨rfl, rfl, rfl, rfl⟩ rfl (by exact ⟨_, Go.Proofs.Try.underlying129, rfl⟩)
theorem fits130 : TyOk Go.Proofs.Try.prog 130 ty130 := fits_of (i := Go.Proofs.Try.t130) (by rw [Go.Proofs.Try.types_size]; decide) Go.Proofs.Try.type130 rfl ⟨rfl, rfl, rfl, rfl⟩ rfl (by exact ⟨_, Go.Proofs.Try.underlying130, rfl⟩)
theorem fits131 : TyOk Go.Proofs.Try.prog 131 ty131 := fits_of (i := Go.Proofs.Try.t131) (by rw [Go.Proofs.Try.types_size]; decide) Go.Proofs.Try.type131 rfl ⟨rfl, rfl, rfl, rfl⟩ rfl (by exact ⟨_, Go.Proofs.Try.underlying131, rfl⟩)
theorem fits132 : TyOk Go.Proofs.Try.prog 132 ty132 := fits_of (i := Go.Proofs.Try.t132) (by rw [Go.Proofs.Try.types_size]; decide) Go.Proofs.Try.type132 rfl ⟨rfl, rfl, rfl, rfl⟩ rfl (by exact ⟨_, Go.Proofs.Try.underlying132, rfl⟩)
theorem fits133 : TyOk Go.Proofs.Try.prog 133 ty133 := fits_of (i := Go.Proofs.Try.t133) (by rw [Go.Proofs.Try.types_size]; decide) Go.Proofs.Try.type133 rfl ⟨rfl, rfl, rfl, rfl⟩ rfl (by exact ⟨_, Go.Proofs.Try.underlying133, rfl⟩)
theorem fits134 : TyOk Go.Proofs.Try.prog 134 ty134 := fits_of (i := Go.Proofs.Try.t134) (by rw [Go.Proofs.Try.types_size]; decide) Go.Proofs.Try.type134 rfl ⟨rfl, rfl, rfl, rfl⟩ rfl (by exact ⟨_, Go.Proofs.Try.underlying134, rfl⟩)
theorem fits135 : TyOk Go.Proofs.Try.prog 135 ty135 := fits_of (i := Go.Proofs.Try.t135) (by rw [Go.Proofs.Try.types_size]; decide) Go.Proofs.Try.type135 rfl ⟨rfl, rfl, rfl, rfl⟩ rfl (by exact ⟨_, Go.Proofs.Try.underlying135, rfl⟩)
theorem fits136 : TyOk Go.Proofs.Try.prog 136 ty136 := fits_of (i := Go.Proofs.Try.t136) (by rw [Go.Proofs.Try.types_size]; decide) Go.Proofs.Try.type136 rfl ⟨rfl, rfl, rfl, rfl⟩ rfl (by exact ⟨_, Go.Proofs.Try.underlying136, rfl⟩)
theorem fits137 : TyOk Go.Proofs.Try.prog 137 ty137 := fits_of (i := Go.Proofs.Try.t137) (by rw [Go.Proofs.Try.types_size]; decide) Go.Proofs.Try.type137 rfl ⟨rfl, rfl, rfl, rfl⟩ rfl (by exact ⟨_, Go.Proofs.Try.underlying137, rfl⟩)
theorem fits138 : TyOk Go.Proofs.Try.prog 138 ty138 := fits_of (i := Go.Proofs.Try.t138) (by rw [Go.Proofs.Try.types_size]; decide) Go.Proofs.Try.type138 rfl ⟨rfl, rfl, rfl, rfl⟩ rfl (by exact ⟨_, Go.Proofs.Try.underlying138, rfl⟩)
theorem fits139 : TyOk Go.Proofs.Try.prog 139 ty139 := fits_of (i := Go.Proofs.Try.t139) (by rw [Go.Proofs.Try.types_size]; decide) Go.Proofs.Try.type139 rfl ⟨rfl, rfl, rfl, rfl⟩ rfl (by exact ⟨_, Go.Proofs.Try.underlying139, rfl⟩)
theorem fits140 : TyOk Go.Proofs.Try.prog 140 ty140 := fits_of (i := Go.Proofs.Try.t140) (by rw [Go.Proofs.Try.types_size]; decide) Go.Proofs.Try.type140 rfl ⟨rfl, rfl, rfl, rfl⟩ rfl (by exact ⟨_, Go.Proofs.Try.underlying140, rfl⟩)
theorem fits141 : TyOk Go.Proofs.Try.prog 141 ty141 := fits_of (i := Go.Proofs.Try.t141) (by rw [Go.Proofs.Try.types_size]; decide) Go.Proofs.Try.type141 rfl ⟨rfl, rfl, rfl, rfl⟩ rfl (by exact ⟨_, Go.Proofs.Try.underlying141, rfl⟩)
theorem fits142 : TyOk Go.Proofs.Try.prog 142 ty142 := fits_of (i := Go.Proofs.Try.t142) (by rw [Go.Proofs.Try.types_size]; decide) Go.Proofs.Try.type142 rfl ⟨rfl, rfl, rfl, rfl⟩ rfl (by exact ⟨_, Go.Proofs.Try.underlying142, rfl⟩)
theorem fits143 : TyOk Go.Proofs.Try.prog 143 ty143 := fits_of (i := Go.Proofs.Try.t143) (by rw [Go.Proofs.Try.types_size]; decide) Go.Proofs.Try.type143 rfl ⟨rfl, rfl, rfl, rfl⟩ rfl (by exact ⟨_, Go.Proofs.Try.underlying143, rfl⟩)
theorem fits144 : TyOk Go.Proofs.Try.prog 144 ty144 := fits_of (i := Go.Proofs.Try.t144) (by rw [Go.Proofs.Try.types_size]; decide) Go.Proofs.Try.type144 rfl ⟨rfl, rfl, rfl, rfl⟩ rfl (by exact ⟨_, Go.Proofs.Try.underlying144, rfl⟩)
theorem fits145 : TyOk Go.Proofs.Try.prog 145 ty145 := fits_of (i := Go.Proofs.Try.t145) (by rw [Go.Proofs.Try.types_size]; decide) Go.Proofs.Try.type145 rfl ⟨rfl, rfl, rfl, rfl⟩ rfl (by exact ⟨_, Go.Proofs.Try.underlying145, rfl⟩)
theorem fits146 : TyOk Go.Proofs.Try.prog 146 ty146 := fits_of (i := Go.Proofs.Try.t146) (by rw [Go.Proofs.Try.types_size]; decide) Go.Proofs.Try.type146 rfl ⟨rfl, rfl, rfl, rfl⟩ rfl (by exact ⟨_, Go.Proofs.Try.underlying146, rfl⟩)
theorem fits147 : TyOk Go.Proofs.Try.prog 147 ty147 := fits_of (i := Go.Proofs.Try.t147) (by rw [Go.Proofs.Try.types_size]; decide) Go.Proofs.Try.type147 rfl ⟨rfl, rfl, rfl, rfl⟩ rfl (by exact ⟨_, Go.Proofs.Try.underlying147, rfl⟩)
theorem fits148 : TyOk Go.Proofs.Try.prog 148 ty148 := fits_of (i := Go.Proofs.Try.t148) (by rw [Go.Proofs.Try.types_size]; decide) Go.Proofs.Try.type148 rfl ⟨rfl, rfl, rfl, rfl⟩ rfl (by exact ⟨_, Go.Proofs.Try.underlying148, rfl⟩)
theorem fits149 : TyOk Go.Proofs.Try.prog 149 ty149 := fits_of (i := Go.Proofs.Try.t149) (by rw [Go.Proofs.Try.types_size]; decide) Go.Proofs.Try.type149 rfl ⟨rfl, rfl, rfl, rfl⟩ rfl (by exact ⟨_, Go.Proofs.Try.underlying149, rfl⟩)
theorem fits150 : TyOk Go.Proofs.Try.prog 150 ty150 := fits_of (i := Go.Proofs.Try.t150) (by rw [Go.Proofs.Try.types_size]; decide) Go.Proofs.Try.type150 rfl ⟨rfl, rfl, rfl, rfl⟩ rfl (by exact ⟨_, Go.Proofs.Try.underlying150, rfl⟩)
theorem fits151 : TyOk Go.Proofs.Try.prog 151 ty151 := fits_of (i := Go.Proofs.Try.t151) (by rw [Go.Proofs.Try.types_size]; decide) Go.Proofs.Try.type151 rfl ⟨rfl, rfl, rfl, rfl⟩ rfl (by exact ⟨_, Go.Proofs.Try.underlying151, rfl⟩)
theorem fits152 : TyOk Go.Proofs.Try.prog 152 ty152 := fits_of (i := Go.Proofs.Try.t152) (by rw [Go.Proofs.Try.types_size]; decide) Go.Proofs.Try.type152 rfl ⟨rfl, rfl, rfl, rfl⟩ rfl (by exact ⟨_, Go.Proofs.Try.underlying152, rfl⟩)
theorem fits153 : TyOk Go.Proofs.Try.prog 153 ty153 := fits_of (i := Go.Proofs.Try.t153) (by rw [Go.Proofs.Try.types_size]; decide) Go.Proofs.Try.type153 rfl ⟨rfl, rfl, rfl, rfl⟩ rfl (by exact ⟨_, Go.Proofs.Try.underlying153, rfl⟩)
theorem fits154 : TyOk Go.Proofs.Try.prog 154 ty154 := fits_of (i := Go.Proofs.Try.t154) (by rw [Go.Proofs.Try.types_size]; decide) Go.Proofs.Try.type154 rfl ⟨rfl, rfl, rfl, rfl⟩ rfl (by exact ⟨_, Go.Proofs.Try.underlying154, rfl⟩)
theorem fits155 : TyOk Go.Proofs.Try.prog 155 ty155 := fits_of (i := Go.Proofs.Try.t155) (by rw [Go.Proofs.Try.types_size]; decide) Go.Proofs.Try.type155 rfl ⟨rfl, rfl, rfl, rfl⟩ rfl (by exact ⟨_, Go.Proofs.Try.underlying155, rfl⟩)
theorem fits156 : TyOk Go.Proofs.Try.prog 156 ty156 := fits_of (i := Go.Proofs.Try.t156) (by rw [Go.Proofs.Try.types_size]; decide) Go.Proofs.Try.type156 rfl ⟨rfl, rfl, rfl, rfl⟩ rfl (by exact ⟨_, Go.Proofs.Try.underlying156, rfl⟩)
theorem fits157 : TyOk Go.Proofs.Try.prog 157 ty157 := fits_of (i := Go.Proofs.Try.t157) (by rw [Go.Proofs.Try.types_size]; decide) Go.Proofs.Try.type157 rfl ⟨rfl, rfl, rfl, rfl⟩ rfl (by exact ⟨_, Go.Proofs.Try.underlying157, rfl⟩)
theorem fits158 : TyOk Go.Proofs.Try.prog 158 ty158 := fits_of (i := Go.Proofs.Try.t158) (by rw [Go.Proofs.Try.types_size]; decide) Go.Proofs.Try.type158 rfl ⟨rfl, rfl, rfl, rfl⟩ rfl (by exact ⟨_, Go.Proofs.Try.underlying158, rfl⟩)
theorem fits159 : TyOk Go.Proofs.Try.prog 159 ty159 := fits_of (i := Go.Proofs.Try.t159) (by rw [Go.Proofs.Try.types_size]; decide) Go.Proofs.Try.type159 rfl ⟨rfl, rfl, rfl, rfl⟩ rfl (by exact ⟨_, Go.Proofs.Try.underlying159, rfl⟩)
theorem fits160 : TyOk Go.Proofs.Try.prog 160 ty160 := fits_of (i := Go.Proofs.Try.t160) (by rw [Go.Proofs.Try.types_size]; decide) Go.Proofs.Try.type160 rfl ⟨rfl, rfl, rfl, rfl⟩ rfl (by exact ⟨_, Go.Proofs.Try.underlying160, rfl⟩)
theorem fits161 : TyOk Go.Proofs.Try.prog 161 ty161 := fits_of (i := Go.Proofs.Try.t161) (by rw [Go.Proofs.Try.types_size]; decide) Go.Proofs.Try.type161 rfl ⟨rfl, rfl, rfl, rfl⟩ rfl (by exact ⟨_, Go.Proofs.Try.underlying161, rfl⟩)
theorem fits162 : TyOk Go.Proofs.Try.prog 162 ty162 := fits_of (i := Go.Proofs.Try.t162) (by rw [Go.Proofs.Try.types_size]; decide) Go.Proofs.Try.type162 rfl ⟨rfl, rfl, rfl, rfl⟩ rfl (by exact ⟨_, Go.Proofs.Try.underlying162, rfl⟩)
theorem fits163 : TyOk Go.Proofs.Try.prog 163 ty163 := fits_of (i := Go.Proofs.Try.t163) (by rw [Go.Proofs.Try.types_size]; decide) Go.Proofs.Try.type163 rfl ⟨rfl, rfl, rfl, rfl⟩ rfl (by exact ⟨_, Go.Proofs.Try.underlying163, rfl⟩)
theorem fits164 : TyOk Go.Proofs.Try.prog 164 ty164 := fits_of (i := Go.Proofs.Try.t164) (by rw [Go.Proofs.Try.types_size]; decide) Go.Proofs.Try.type164 rfl ⟨rfl, rfl, rfl, rfl⟩ rfl (by exact ⟨_, Go.Proofs.Try.underlying164, rfl⟩)
theorem fits165 : TyOk Go.Proofs.Try.prog 165 ty165 := fits_of (i := Go.Proofs.Try.t165) (by rw [Go.Proofs.Try.types_size]; decide) Go.Proofs.Try.type165 rfl ⟨rfl, rfl, rfl, rfl⟩ rfl (by exact ⟨_, Go.Proofs.Try.underlying165, rfl⟩)
theorem fits166 : TyOk Go.Proofs.Try.prog 166 ty166 := fits_of (i := Go.Proofs.Try.t166) (by rw [Go.Proofs.Try.types_size]; decide) Go.Proofs.Try.type166 rfl ⟨rfl, rfl, rfl, rfl⟩ rfl (by exact ⟨_, Go.Proofs.Try.underlying166, rfl⟩)
theorem fits167 : TyOk Go.Proofs.Try.prog 167 ty167 := fits_of (i := Go.Proofs.Try.t167) (by rw [Go.Proofs.Try.types_size]; decide) Go.Proofs.Try.type167 rfl ⟨rfl, rfl, rfl, rfl⟩ rfl (by exact ⟨_, Go.Proofs.Try.underlying167, rfl⟩)
theorem fits168 : TyOk Go.Proofs.Try.prog 168 ty168 := fits_of (i := Go.Proofs.Try.t168) (by rw [Go.Proofs.Try.types_size]; decide) Go.Proofs.Try.type168 rfl ⟨rfl, rfl, rfl, rfl⟩ rfl (by exact ⟨_, Go.Proofs.Try.underlying168, rfl⟩)
theorem fits169 : TyOk Go.Proofs.Try.prog 169 ty169 := fits_of (i := Go.Proofs.Try.t169) (by rw [Go.Proofs.Try.types_size]; decide) Go.Proofs.Try.type169 rfl ⟨rfl, rfl, rfl, rfl⟩ rfl (by exact ⟨_, Go.Proofs.Try.underlying169, rfl⟩)
theorem fits170 : TyOk Go.Proofs.Try.prog 170 ty170 := fits_of (i := Go.Proofs.Try.t170) (by rw [Go.Proofs.Try.types_size]; decide) Go.Proofs.Try.type170 rfl ⟨rfl, rfl, rfl, rfl⟩ rfl (by exact ⟨_, Go.Proofs.Try.underlying170, rfl⟩)
theorem fits171 : TyOk Go.Proofs.Try.prog 171 ty171 := fits_of (i := Go.Proofs.Try.t171) (by rw [Go.Proofs.Try.types_size]; decide) Go.Proofs.Try.type171 rfl ⟨rfl, rfl, rfl, rfl⟩ rfl (by exact ⟨_, Go.Proofs.Try.underlying171, rfl⟩)
theorem fits172 : TyOk Go.Proofs.Try.prog 172 ty172 := fits_of (i := Go.Proofs.Try.t172) (by rw [Go.Proofs.Try.types_size]; decide) Go.Proofs.Try.type172 rfl ⟨rfl, rfl, rfl, rfl⟩ rfl (by exact ⟨_, Go.Proofs.Try.underlying172, rfl⟩)
theorem fits173 : TyOk Go.Proofs.Try.prog 173 ty173 := fits_of (i := Go.Proofs.Try.t173) (by rw [Go.Proofs.Try.types_size]; decide) Go.Proofs.Try.type173 rfl ⟨rfl, rfl, rfl, rfl⟩ rfl (by exact ⟨_, Go.Proofs.Try.underlying173, rfl⟩)
theorem fits174 : TyOk Go.Proofs.Try.prog 174 ty174 := fits_of (i := Go.Proofs.Try.t174) (by rw [Go.Proofs.Try.types_size]; decide) Go.Proofs.Try.type174 rfl ⟨rfl, rfl, rfl, rfl⟩ rfl (by exact Go.Proofs.Try.underlying174)
theorem fits175 : TyOk Go.Proofs.Try.prog 175 ty175 := fits_of (i := Go.Proofs.Try.t175) (by rw [Go.Proofs.Try.types_size]; decide) Go.Proofs.Try.type175 rfl ⟨rfl, rfl, rfl, rfl⟩ rfl (by exact ⟨_, Go.Proofs.Try.underlying175, rfl⟩)
theorem fits176 : TyOk Go.Proofs.Try.prog 176 ty176 := fits_of (i := Go.Proofs.Try.t176) (by rw [Go.Proofs.Try.types_size]; decide) Go.Proofs.Try.type176 rfl ⟨rfl, rfl, rfl, rfl⟩ rfl (by exact ⟨_, Go.Proofs.Try.underlying176, rfl⟩)
theorem fits177 : TyOk Go.Proofs.Try.prog 177 ty177 := fits_of (i := Go.Proofs.Try.t177) (by rw [Go.Proofs.Try.types_size]; decide) Go.Proofs.Try.type177 rfl ⟨rfl, rfl, rfl, rfl⟩ rfl (by exact ⟨_, Go.Proofs.Try.underlying177, rfl⟩)
theorem fits178 : TyOk Go.Proofs.Try.prog 178 ty178 := fits_of (i := Go.Proofs.Try.t178) (by rw [Go.Proofs.Try.types_size]; decide) Go.Proofs.Try.type178 rfl ⟨rfl, rfl, rfl, rfl⟩ rfl (by exact ⟨_, Go.Proofs.Try.underlying178, rfl⟩)
theorem fits179 : TyOk Go.Proofs.Try.prog 179 ty179 := fits_of (i := Go.Proofs.Try.t179) (by rw [Go.Proofs.Try.types_size]; decide) Go.Proofs.Try.type179 rfl ⟨rfl, rfl, rfl, rfl⟩ rfl (by exact ⟨_, Go.Proofs.Try.underlying179, rfl⟩)
theorem fits180 : TyOk Go.Proofs.Try.prog 180 ty180 := fits_of (i := Go.Proofs.Try.t180) (by rw [Go.Proofs.Try.types_size]; decide) Go.Proofs.Try.type180 rfl ⟨rfl, rfl, rfl, rfl⟩ rfl (by exact ⟨_, Go.Proofs.Try.underlying180, rfl⟩)
theorem fits181 : TyOk Go.Proofs.Try.prog 181 ty181 := fits_of (i := Go.Proofs.Try.t181) (by rw [Go.Proofs.Try.types_size]; decide) Go.Proofs.Try.type181 rfl ⟨rfl, rfl, rfl, rfl⟩ rfl (by exact ⟨_, Go.Proofs.Try.underlying181, rfl⟩)
theorem fits182 : TyOk Go.Proofs.Try.prog 182 ty182 := fits_of (i := Go.Proofs.Try.t182) (by rw [Go.Proofs.Try.types_size]; decide) Go.Proofs.Try.type182 rfl ⟨rfl, rfl, rfl, rfl⟩ rfl (by exact ⟨_, Go.Proofs.Try.underlying182, rfl⟩)
theorem fits183 : TyOk Go.Proofs.Try.prog 183 ty183 := fits_of (i := Go.Proofs.Try.t183) (by rw [Go.Proofs.Try.types_size]; decide) Go.Proofs.Try.type183 rfl ⟨rfl, rfl, rfl, rfl⟩ rfl (by exact ⟨_, Go.Proofs.Try.underlying183, rfl⟩)
theorem fits184 : TyOk Go.Proofs.Try.prog 184 ty184 := fits_of (i := Go.Proofs.Try.t184) (by rw [Go.Proofs.Try.types_size]; decide) Go.Proofs.Try.type184 rfl ⟨rfl, rfl, rfl, rfl⟩ rfl (by exact ⟨_, Go.Proofs.Try.underlying184, rfl⟩)
theorem fits185 : TyOk Go.Proofs.Try.prog 185 ty185 := fits_of (i := Go.Proofs.Try.t185) (by rw [Go.Proofs.Try.types_size]; decide) Go.Proofs.Try.type185 rfl ⟨rfl, rfl, rfl, rfl⟩ rfl (by exact ⟨_, Go.Proofs.Try.underlying185, rfl⟩)
theorem fits186 : TyOk Go.Proofs.Try.prog 186 ty186 := fits_of (i := Go.Proofs.Try.t186) (by rw [Go.Proofs.Try.types_size]; decide) Go.Proofs.Try.type186 rfl ⟨rfl, rfl, rfl, rfl⟩ rfl (by exact ⟨_, Go.Proofs.Try.underlying186, rfl⟩)
theorem fits187 : TyOk Go.Proofs.Try.prog 187 ty187 := fits_of (i := Go.Proofs.Try.t187) (by rw [Go.Proofs.Try.types_size]; decide) Go.Proofs.Try.type187 rfl ⟨rfl, rfl, rfl, rfl⟩ rfl (by exact ⟨_, Go.Proofs.Try.underlying187, rfl⟩)
theorem fits188 : TyOk Go.Proofs.Try.prog 188 ty188 := fits_of (i := Go.Proofs.Try.t188) (by rw [Go.Proofs.Try.types_size]; decide) Go.Proofs.Try.type188 rfl ⟨rfl, rfl, rfl, rfl⟩ rfl (by exact ⟨_, Go.Proofs.Try.underlying188, rfl⟩)
theorem fits189 : TyOk Go.Proofs.Try.prog 189 ty189 := fits_of (i := Go.Proofs.Try.t189) (by rw [Go.Proofs.Try.types_size]; decide) Go.Proofs.Try.type189 rfl ⟨rfl, rfl, rfl, rfl⟩ rfl (by exact ⟨_, Go.Proofs.Try.underlying189, rfl⟩)
theorem fits190 : TyOk Go.Proofs.Try.prog 190 ty190 := fits_of (i := Go.Proofs.Try.t190) (by rw [Go.Proofs.Try.types_size]; decide) Go.Proofs.Try.type190 rfl ⟨rfl, rfl, rfl, rfl⟩ rfl (by exact ⟨_, Go.Proofs.Try.underlying190, rfl⟩)
theorem fits191 : TyOk Go.Proofs.Try.prog 191 ty191 := fits_of (i := Go.Proofs.Try.t191) (by rw [Go.Proofs.Try.types_size]; decide) Go.Proofs.Try.type191 rfl ⟨rfl, rfl, rfl, rfl⟩ rfl (by exact Go.Proofs.Try.underlying191)
theorem fits192 : TyOk Go.Proofs.Try.prog 192 ty192 := fits_of (i := Go.Proofs.Try.t192) (by rw [Go.Proofs.Try.types_size]; decide) Go.Proofs.Try.type192 rfl ⟨rfl, rfl, rfl, rfl⟩ rfl (by exact ⟨_, Go.Proofs.Try.underlying192, rfl⟩)
theorem fits193 : TyOk Go.Proofs.Try.prog 193 ty193 := fits_of (i := Go.Proofs.Try.t193) (by rw [Go.Proofs.Try.types_size]; decide) Go.Proofs.Try.type193 rfl ⟨rfl, rfl, rfl, rfl⟩ rfl (by exact ⟨_, Go.Proofs.Try.underlying193, rfl⟩)
theorem fits194 : TyOk Go.Proofs.Try.prog 194 ty194 := fits_of (i := Go.Proofs.Try.t194) (by rw [Go.Proofs.Try.types_size]; decide) Go.Proofs.Try.type194 rfl ⟨rfl, rfl, rfl, rfl⟩ rfl (by exact ⟨_, Go.Proofs.Try.underlying194, rfl⟩)
theorem fits195 : TyOk Go.Proofs.Try.prog 195 ty195 := fits_of (i := Go.Proofs.Try.t195) (by rw [Go.Proofs.Try.types_size]; decide) Go.Proofs.Try.type195 rfl ⟨rfl, rfl, rfl, rfl⟩ rfl (by exact ⟨_, Go.Proofs.Try.underlying195, rfl⟩)
theorem fits196 : TyOk Go.Proofs.Try.prog 196 ty196 := fits_of (i := Go.Proofs.Try.t196) (by rw [Go.Proofs.Try.types_size]; decide) Go.Proofs.Try.type196 rfl ⟨rfl, rfl, rfl, rfl⟩ rfl (by exact ⟨_, Go.Proofs.Try.underlying196, rfl⟩)
theorem fits197 : TyOk Go.Proofs.Try.prog 197 ty197 := fits_of (i := Go.Proofs.Try.t197) (by rw [Go.Proofs.Try.types_size]; decide) Go.Proofs.Try.type197 rfl ⟨rfl, rfl, rfl, rfl⟩ rfl (by exact ⟨_, Go.Proofs.Try.underlying197, rfl⟩)
theorem fits199 : TyOk Go.Proofs.Try.prog 199 ty199 := fits_of (i := Go.Proofs.Try.t199) (by rw [Go.Proofs.Try.types_size]; decide) Go.Proofs.Try.type199 rfl ⟨rfl, rfl, rfl, rfl⟩ rfl (by exact ⟨_, Go.Proofs.Try.underlying199, rfl⟩)
theorem fits200 : TyOk Go.Proofs.Try.prog 200 ty200 := fits_of (i := Go.Proofs.Try.t200) (by rw [Go.Proofs.Try.types_size]; decide) Go.Proofs.Try.type200 rfl ⟨rfl, rfl, rfl, rfl⟩ rfl (by exact Go.Proofs.Try.underlying200)
theorem fits202 : TyOk Go.Proofs.Try.prog 202 ty202 := fits_of (i := Go.Proofs.Try.t202) (by rw [Go.Proofs.Try.types_size]; decide) Go.Proofs.Try.type202 rfl ⟨rfl, rfl, rfl, rfl⟩ rfl (by exact ⟨_, Go.Proofs.Try.underlying202, rfl⟩)
theorem fits203 : TyOk Go.Proofs.Try.prog 203 ty203 := fits_of (i := Go.Proofs.Try.t203) (by rw [Go.Proofs.Try.types_size]; decide) Go.Proofs.Try.type203 rfl ⟨rfl, rfl, rfl, rfl⟩ rfl (by exact Go.Proofs.Try.underlying203)
theorem fits205 : TyOk Go.Proofs.Try.prog 205 ty205 := fits_of (i := Go.Proofs.Try.t205) (by rw [Go.Proofs.Try.types_size]; decide) Go.Proofs.Try.type205 rfl ⟨rfl, rfl, rfl, rfl⟩ rfl (by exact ⟨_, Go.Proofs.Try.underlying205, rfl⟩)
theorem fits206 : TyOk Go.Proofs.Try.prog 206 ty206 := fits_of (i := Go.Proofs.Try.t206) (by rw [Go.Proofs.Try.types_size]; decide) Go.Proofs.Try.type206 rfl ⟨rfl, rfl, rfl, rfl⟩ rfl (by exact ⟨_, Go.Proofs.Try.underlying206, rfl⟩)
theorem fits207 : TyOk Go.Proofs.Try.prog 207 ty207 := fits_of (i := Go.Proofs.Try.t207) (by rw [Go.Proofs.Try.types_size]; decide) Go.Proofs.Try.type207 rfl ⟨rfl, rfl, rfl, rfl⟩ rfl (by exact ⟨_, Go.Proofs.Try.underlying207, rfl⟩)
theorem fits208 : TyOk Go.Proofs.Try.prog 208 ty208 := fits_of (i := Go.Proofs.Try.t208) (by rw [Go.Proofs.Try.types_size]; decide) Go.Proofs.Try.type208 rfl ⟨rfl, rfl, rfl, rfl⟩ rfl (by exact ⟨_, Go.Proofs.Try.underlying208, rfl⟩)
theorem fits210 : TyOk Go.Proofs.Try.prog 210 ty210 := fits_of (i := Go.Proofs.Try.t210) (by rw [Go.Proofs.Try.types_size]; decide) Go.Proofs.Try.type210 rfl ⟨rfl, rfl, rfl, rfl⟩ rfl (by exact ⟨_, Go.Proofs.Try.underlying210, rfl⟩)
theorem fits211 : TyOk Go.Proofs.Try.prog 211 ty211 := fits_of (i := Go.Proofs.Try.t211) (by rw [Go.Proofs.Try.types_size]; decide) Go.Proofs.Try.type211 rfl ⟨rfl, rfl, rfl, rfl⟩ rfl (by exact ⟨_, Go.Proofs.Try.underlying211, rfl⟩)
theorem fits212 : TyOk Go.Proofs.Try.prog 212 ty212 := fits_of (i := Go.Proofs.Try.t212) (by rw [Go.Proofs.Try.types_size]; decide) Go.Proofs.Try.type212 rfl ⟨rfl, rfl, rfl, rfl⟩ rfl (by exact ⟨_, Go.Proofs.Try.underlying212, rfl⟩)
theorem fits213 : TyOk Go.Proofs.Try.prog 213 ty213 := fits_of (i := Go.Proofs.Try.t213) (by rw [Go.Proofs.Try.types_size]; decide) Go.Proofs.Try.type213 rfl ⟨rfl, rfl, rfl, rfl⟩ rfl (by exact Go.Proofs.Try.underlying213)
theorem fits214 : TyOk Go.Proofs.Try.prog 214 ty214 := fits_of (i := Go.Proofs.Try.t214) (by rw [Go.Proofs.Try.types_size]; decide) Go.Proofs.Try.type214 rfl ⟨rfl, rfl, rfl, rfl⟩ rfl (by exact Go.Proofs.Try.underlying214)
theorem fits215 : TyOk Go.Proofs.Try.prog 215 ty215 := fits_of (i := Go.Proofs.Try.t215) (by rw [Go.Proofs.Try.types_size]; decide) Go.Proofs.Try.type215 rfl ⟨rfl, rfl, rfl, rfl⟩ rfl (by exact ⟨_, Go.Proofs.Try.underlying215, rfl⟩)
theorem fits216 : TyOk Go.Proofs.Try.prog 216 ty216 := fits_of (i := Go.Proofs.Try.t216) (by rw [Go.Proofs.Try.types_size]; decide) Go.Proofs.Try.type216 rfl ⟨rfl, rfl, rfl, rfl⟩ rfl (by exact ⟨_, Go.Proofs.Try.underlying216, rfl⟩)
theorem fits217 : TyOk Go.Proofs.Try.prog 217 ty217 := fits_of (i := Go.Proofs.Try.t217) (by rw [Go.Proofs.Try.types_size]; decide) Go.Proofs.Try.type217 rfl ⟨rfl, rfl, rfl, rfl⟩ rfl (by exact Go.Proofs.Try.underlying217)
theorem fits218 : TyOk Go.Proofs.Try.prog 218 ty218 := fits_of (i := Go.Proofs.Try.t218) (by rw [Go.Proofs.Try.types_size]; decide) Go.Proofs.Try.type218 rfl ⟨rfl, rfl, rfl, rfl⟩ rfl (by exact Go.Proofs.Try.underlying218)
theorem fits219 : TyOk Go.Proofs.Try.prog 219 ty219 := fits_of (i := Go.Proofs.Try.t219) (by rw [Go.Proofs.Try.types_size]; decide) Go.Proofs.Try.type219 rfl ⟨rfl, rfl, rfl, rfl⟩ rfl (by exact ⟨_, Go.Proofs.Try.underlying219, rfl⟩)
theorem fits220 : TyOk Go.Proofs.Try.prog 220 ty220 := fits_of (i := Go.Proofs.Try.t220) (by rw [Go.Proofs.Try.types_size]; decide) Go.Proofs.Try.type220 rfl ⟨rfl, rfl, rfl, rfl⟩ rfl (by exact ⟨_, Go.Proofs.Try.underlying220, rfl⟩)
theorem fits221 : TyOk Go.Proofs.Try.prog 221 ty221 := fits_of (i := Go.Proofs.Try.t221) (by rw [Go.Proofs.Try.types_size]; decide) Go.Proofs.Try.type221 rfl ⟨rfl, rfl, rfl, rfl⟩ rfl (by exact ⟨_, Go.Proofs.Try.underlying221, rfl⟩)
theorem fits222 : TyOk Go.Proofs.Try.prog 222 ty222 := fits_of (i := Go.Proofs.Try.t222) (by rw [Go.Proofs.Try.types_size]; decide) Go.Proofs.Try.type222 rfl ⟨rfl, rfl, rfl, rfl⟩ rfl (by exact ⟨_, Go.Proofs.Try.underlying222, rfl⟩)
theorem fitsL0 {l : List Ty} (r : FitsL Go.Proofs.Try.prog 16 l) : FitsL Go.Proofs.Try.prog 0 (unkTy :: ty1 :: ty2 :: ty3 :: ty4 :: ty5 :: ty6 :: ty7 :: ty8 :: ty9 :: ty10 :: ty11 :: ty12 :: ty13 :: ty14 :: ty15 :: l) :=
  .cons (fits_unk _ _) (.cons fits1 (.cons fits2 (.cons fits3 (.cons fits4 (.cons fits5 (.cons fits6 (.cons fits7 (.cons fits8 (.cons fits9 (.cons fits10 (.cons fits11 (.cons fits12 (.cons fits13 (.cons fits14 (.cons fits15 (r))))))))))))))))
theorem fitsL16 {l : List Ty} (r : FitsL Go.Proofs.Try.prog 32 l) : FitsL Go.Proofs.Try.prog 16 (ty16 :: ty17 :: ty18 :: ty19 :: ty20 :: ty21 :: ty22 :: ty23 :: ty24 :: ty25 :: ty26 :: ty27 :: ty28 :: ty29 :: ty30 :: ty31 :: l) :=
  .cons fits16 (.cons fits17 (.cons fits18 (.cons fits19 (.cons fits20 (.cons fits21 (.cons fits22 (.cons fits23 (.cons fits24 (.cons fits25 (.cons fits26 (.cons fits27 (.cons fits28 (.cons fits29 (.cons fits30 (.cons fits31 (r))))))))))))))))
theorem fitsL32 {l : List Ty} (r : FitsL Go.Proofs.Try.prog 48 l) : FitsL Go.Proofs.Try.prog 32 (ty32 :: ty33 :: ty34 :: ty35 :: ty36 :: ty37 :: ty38 :: ty39 :: ty40 :: ty41 :: ty42 :: ty43 :: ty44 :: ty45 :: unkTy :: ty47 :: l) :=
  .cons fits32 (.cons fits33 (.cons fits34 (.cons fits35 (.cons fits36 (.cons fits37 (.cons fits38 (.cons fits39 (.cons fits40 (.cons fits41 (.cons fits42 (.cons fits43 (.cons fits44 (.cons fits45 (.cons (fits_unk _ _) (.cons fits47 (r))))))))))))))))
theorem fitsL48 {l : List Ty} (r : FitsL Go.Proofs.Try.prog 64 l) : FitsL Go.Proofs.Try.prog 48 (ty48 :: ty49 :: ty50 :: ty51 :: ty52 :: ty53 :: ty54 :: ty55 :: ty56 :: ty57 :: ty58 :: ty59 :: ty60 :: ty61 :: ty62 :: ty63 :: l) :=
  .cons fits48 (.cons fits49 (.cons fits50 (.cons fits51 (.cons fits52 (.cons fits53 (.cons fits54 (.cons fits55 (.cons fits56 (.cons fits57 (.cons fits58 (.cons fits59 (.cons fits60 (.cons fits61 (.cons fits62 (.cons fits63 (r))))))))))))))))
theorem fitsL64 {l : List Ty} (r : FitsL Go.Proofs.Try.prog 80 l) : FitsL Go.Proofs.Try.prog 64 (ty64 :: ty65 :: ty66 :: ty67 :: ty68 :: ty69 :: ty70 :: ty71 :: ty72 :: ty73 :: ty74 :: ty75 :: ty76 :: ty77 :: unkTy :: ty79 :: l) :=
  .cons fits64 (.cons fits65 (.cons fits66 (.cons fits67 (.cons fits68 (.cons fits69 (.cons fits70 (.cons fits71 (.cons fits72 (.cons fits73 (.cons fits74 (.cons fits75 (.cons fits76 (.cons fits77 (.cons (fits_unk _ _) (.cons fits79 (r))))))))))))))))
theorem fitsL80 {l : List Ty} (r : FitsL Go.Proofs.Try.prog 96 l) : FitsL Go.Proofs.Try.prog 80 (ty80 :: ty81 :: ty82 :: ty83 :: ty84 :: ty85 :: ty86 :: ty87 :: ty88 :: ty89 :: ty90 :: ty91 :: ty92 :: ty93 :: ty94 :: ty95 :: l) :=
  .cons fits80 (.cons fits81 (.cons fits82 (.cons fits83 (.cons fits84 (.cons fits85 (.cons fits86 (.cons fits87 (.cons fits88 (.cons fits89 (.cons fits90 (.cons fits91 (.cons fits92 (.cons fits93 (.cons fits94 (.cons fits95 (r))))))))))))))))
theorem fitsL96 {l : List Ty} (r : FitsL Go.Proofs.Try.prog 112 l) : FitsL Go.Proofs.Try.prog 96 (ty96 :: ty97 :: ty98 :: ty99 :: ty100 :: ty101 :: ty102 :: ty103 :: ty104 :: ty105 :: ty106 :: ty107 :: unkTy :: ty109 :: ty110 :: ty111 :: l) :=
  .cons fits96 (.cons fits97 (.cons fits98 (.cons fits99 (.cons fits100 (.cons fits101 (.cons fits102 (.cons fits103 (.cons fits104 (.cons fits105 (.cons fits106 (.cons fits107 (.cons (fits_unk _ _) (.cons fits109 (.cons fits110 (.cons fits111 (r))))))))))))))))
theorem fitsL112 {l : List Ty} (r : FitsL Go.Proofs.Try.prog 128 l) : FitsL Go.Proofs.Try.prog 112 (ty112 :: ty113 :: ty114 :: ty115 :: ty116 :: ty117 :: ty118 :: ty119 :: ty120 :: ty121 :: ty122 :: ty123 :: ty124 :: ty125 :: ty126 :: ty127 :: l) :=
  .cons fits112 (.cons fits113 (.cons fits114 (.cons fits115 (.cons fits116 (.cons fits117 (.cons fits118 (.cons fits119 (.cons fits120 (.cons fits121 (.cons fits122 (.cons fits123 (.cons fits124 (.cons fits125 (.cons fits126 (.cons fits127 (r))))))))))))))))
theorem fitsL128 {l : List Ty} (r : FitsL Go.Proofs.Try.prog 144 l) : FitsL Go.Proofs.Try.prog 128 (ty128 :: ty129 :: ty130 :: ty131 :: ty132 :: ty133 :: ty134 :: ty135 :: ty136 :: ty137 :: ty138 :: ty139 :: ty140 :: ty141 :: ty142 :: ty143 :: l) :=
  .cons fits128 (.cons fits129 (.cons fits130 (.cons fits131 (.cons fits132 (.cons fits133 (.cons fits134 (.cons fits135 (.cons fits136 (.cons fits137 (.cons fits138 (.cons fits139 (.cons fits140 (.cons fits141 (.cons fits142 (.cons fits143 (r))))))))))))))))
theorem fitsL144 {l : List Ty} (r : FitsL Go.Proofs.Try.prog 160 l) : FitsL Go.Proofs.Try.prog 144 (ty144 :: ty145 :: ty146 :: ty147 :: ty148 :: ty149 :: ty150 :: ty151 :: ty152 :: ty153 :: ty154 :: ty155 :: ty156 :: ty157 :: ty158 :: ty159 :: l) :=
  .cons fits144 (.cons fits145 (.cons fits146 (.cons fits147 (.cons fits148 (.cons fits149 (.cons fits150 (.cons fits151 (.cons fits152 (.cons fits153 (.cons fits154 (.cons fits155 (.cons fits156 (.cons fits157 (.cons fits158 (.cons fits159 (r))))))))))))))))
theorem fitsL160 {l : List Ty} (r : FitsL Go.Proofs.Try.prog 176 l) : FitsL Go.Proofs.Try.prog 160 (ty160 :: ty161 :: ty162 :: ty163 :: ty164 :: ty165 :: ty166 :: ty167 :: ty168 :: ty169 :: ty170 :: ty171 :: ty172 :: ty173 :: ty174 :: ty175 :: l) :=
  .cons fits160 (.cons fits161 (.cons fits162 (.cons fits163 (.cons fits164 (.cons fits165 (.cons fits166 (.cons fits167 (.cons fits168 (.cons fits169 (.cons fits170 (.cons fits171 (.cons fits172 (.cons fits173 (.cons fits174 (.cons fits175 (r))))))))))))))))
theorem fitsL176 {l : List Ty} (r : FitsL Go.Proofs.Try.prog 192 l) : FitsL Go.Proofs.Try.prog 176 (ty176 :: ty177 :: ty178 :: ty179 :: ty180 :: ty181 :: ty182 :: ty183 :: ty184 :: ty185 :: ty186 :: ty187 :: ty188 :: ty189 :: ty190 :: ty191 :: l) :=
  .cons fits176 (.cons fits177 (.cons fits178 (.cons fits179 (.cons fits180 (.cons fits181 (.cons fits182 (.cons fits183 (.cons fits184 (.cons fits185 (.cons fits186 (.cons fits187 (.cons fits188 (.cons fits189 (.cons fits190 (.cons fits191 (r))))))))))))))))
theorem fitsL192 {l : List Ty} (r : FitsL Go.Proofs.Try.prog 208 l) : FitsL Go.Proofs.Try.prog 192 (ty192 :: ty193 :: ty194 :: ty195 :: ty196 :: ty197 :: unkTy :: ty199 :: ty200 :: unkTy :: ty202 :: ty203 :: unkTy :: ty205 :: ty206 :: ty207 :: l) :=
  .cons fits192 (.cons fits193 (.cons fits194 (.cons fits195 (.cons fits196 (.cons fits197 (.cons (fits_unk _ _) (.cons fits199 (.cons fits200 (.cons (fits_unk _ _) (.cons fits202 (.cons fits203 (.cons (fits_unk _ _) (.cons fits205 (.cons fits206 (.cons fits207 (r))))))))))))))))
theorem fitsL208 {l : List Ty} (r : FitsL Go.Proofs.Try.prog 223 l) : FitsL Go.Proofs.Try.prog 208 (ty208 :: unkTy :: ty210 :: ty211 :: ty212 :: ty213 :: ty214 :: ty215 :: ty216 :: ty217 :: ty218 :: ty219 :: ty220 :: ty221 :: ty222 :: l) :=
  .cons fits208 (.cons (fits_unk _ _) (.cons fits210 (.cons fits211 (.cons fits212 (.cons fits213 (.cons fits214 (.cons fits215 (.cons fits216 (.cons fits217 (.cons fits218 (.cons fits219 (.cons fits220 (.cons fits221 (.cons fits222 (r)))))))))))))))
theorem hT (t : Nat) : TyOk Go.Proofs.Try.prog t (T t) := by
  have h : FitsL Go.Proofs.Try.prog 0 tys := fitsL0 (fitsL16 (fitsL32 (fitsL48 (fitsL64 (fitsL80 (fitsL96 (fitsL112 (fitsL128 (fitsL144 (fitsL160 (fitsL176 (fitsL192 (fitsL208 (.nil _))))))))))))))
  have := h.get t
  rw [Nat.zero_add] at this
  exact this

section
open TK
@[simp, go_sem] theorem Tk1 : (T 1).kind = .other := rfl
@[simp, go_sem] theorem Ts1 : (T 1).size = 1 := rfl
@[simp, go_sem] theorem Tb1 : (T 1).bytes = 8 := rfl
@[simp, go_sem] theorem Tz1 : (T 1).zero = [Go.Value.nilFunc] := rfl
@[simp, go_sem] theorem Tk2 : (T 2).kind = .int .i64 := rfl
@[simp, go_sem] theorem Ts2 : (T 2).size = 1 := rfl
@[simp, go_sem] theorem Tb2 : (T 2).bytes = 8 := rfl
@[simp, go_sem] theorem Tz2 : (T 2).zero = [Go.Value.int Go.IntKind.i64 0] := rfl
@[simp, go_sem] theorem Tk3 : (T 3).kind = .int .i64 := rfl
@[simp, go_sem] theorem Ts3 : (T 3).size = 1 := rfl
@[simp, go_sem] theorem Tb3 : (T 3).bytes = 8 := rfl
@[simp, go_sem] theorem Tz3 : (T 3).zero = [Go.Value.int Go.IntKind.i64 0] := rfl
@[simp, go_sem] theorem Tk4 : (T 4).kind = .bool := rfl
@[simp, go_sem] theorem Ts4 : (T 4).size = 1 := rfl
@[simp, go_sem] theorem Tb4 : (T 4).bytes = 1 := rfl
@[simp, go_sem] theorem Tz4 : (T 4).zero = [Go.Value.bool false] := rfl
@[simp, go_sem] theorem Tk5 : (T 5).kind = .int .u8 := rfl
@[simp, go_sem] theorem Ts5 : (T 5).size = 1 := rfl
@[simp, go_sem] theorem Tb5 : (T 5).bytes = 1 := rfl
@[simp, go_sem] theorem Tz5 : (T 5).zero = [Go.Value.int Go.IntKind.u8 0] := rfl
@[simp, go_sem] theorem Tk6 : (T 6).kind = .int .u8 := rfl
@[simp, go_sem] theorem Ts6 : (T 6).size = 1 := rfl
@[simp, go_sem] theorem Tb6 : (T 6).bytes = 1 := rfl
@[simp, go_sem] theorem Tz6 : (T 6).zero = [Go.Value.int Go.IntKind.u8 0] := rfl
@[simp, go_sem] theorem Tk7 : (T 7).kind = .struct [(0, 2), (1, 3), (2, 4), (3, 6)] := rfl
@[simp, go_sem] theorem Ts7 : (T 7).size = 4 := rfl
@[simp, go_sem] theorem Tb7 : (T 7).bytes = 24 := rfl
@[simp, go_sem] theorem Tz7 : (T 7).zero = [Go.Value.int Go.IntKind.i64 0, Go.Value.int Go.IntKind.i64 0, Go.Value.bool false, Go.Value.int Go.IntKind.u8 0] := rfl
@[simp, go_sem] theorem Tk8 : (T 8).kind = .struct [(0, 2), (1, 3), (2, 4), (3, 6)] := rfl
@[simp, go_sem] theorem Ts8 : (T 8).size = 4 := rfl
@[simp, go_sem] theorem Tb8 : (T 8).bytes = 24 := rfl
@[simp, go_sem] theorem Tz8 : (T 8).zero = [Go.Value.int Go.IntKind.i64 0, Go.Value.int Go.IntKind.i64 0, Go.Value.bool false, Go.Value.int Go.IntKind.u8 0] := rfl
@[simp, go_sem] theorem Tk9 : (T 9).kind = .str := rfl
@[simp, go_sem] theorem Ts9 : (T 9).size = 1 := rfl
@[simp, go_sem] theorem Tb9 : (T 9).bytes = 16 := rfl
@[simp, go_sem] theorem Tz9 : (T 9).zero = [Go.Value.string { data := #[] }] := rfl
@[simp, go_sem] theorem Tk10 : (T 10).kind = .str := rfl
@[simp, go_sem] theorem Ts10 : (T 10).size = 1 := rfl
@[simp, go_sem] theorem Tb10 : (T 10).bytes = 16 := rfl
@[simp, go_sem] theorem Tz10 : (T 10).zero = [Go.Value.string { data := #[] }] := rfl
@[simp, go_sem] theorem Tk11 : (T 11).kind = .str := rfl
@[simp, go_sem] theorem Ts11 : (T 11).size = 1 := rfl
@[simp, go_sem] theorem Tb11 : (T 11).bytes = 16 := rfl
@[simp, go_sem] theorem Tz11 : (T 11).zero = [Go.Value.string { data := #[] }] := rfl
@[simp, go_sem] theorem Tk12 : (T 12).kind = .int .u64 := rfl
@[simp, go_sem] theorem Ts12 : (T 12).size = 1 := rfl
@[simp, go_sem] theorem Tb12 : (T 12).bytes = 8 := rfl
@[simp, go_sem] theorem Tz12 : (T 12).zero = [Go.Value.int Go.IntKind.u64 0] := rfl
@[simp, go_sem] theorem Tk13 : (T 13).kind = .struct [(0, 9), (1, 12)] := rfl
@[simp, go_sem] theorem Ts13 : (T 13).size = 2 := rfl
@[simp, go_sem] theorem Tb13 : (T 13).bytes = 24 := rfl
@[simp, go_sem] theorem Tz13 : (T 13).zero = [Go.Value.string { data := #[] }, Go.Value.int Go.IntKind.u64 0] := rfl
@[simp, go_sem] theorem Tk14 : (T 14).kind = .struct [(0, 9), (1, 12)] := rfl
@[simp, go_sem] theorem Ts14 : (T 14).size = 2 := rfl
@[simp, go_sem] theorem Tb14 : (T 14).bytes = 24 := rfl
@[simp, go_sem] theorem Tz14 : (T 14).zero = [Go.Value.string { data := #[] }, Go.Value.int Go.IntKind.u64 0] := rfl
@[simp, go_sem] theorem Tk15 : (T 15).kind = .other := rfl
@[simp, go_sem] theorem Ts15 : (T 15).size = 1 := rfl
@[simp, go_sem] theorem Tb15 : (T 15).bytes = 8 := rfl
@[simp, go_sem] theorem Tz15 : (T 15).zero = [Go.Value.pointer none] := rfl
@[simp, go_sem] theorem Tk16 : (T 16).kind = .other := rfl
@[simp, go_sem] theorem Ts16 : (T 16).size = 1 := rfl
@[simp, go_sem] theorem Tb16 : (T 16).bytes = 8 := rfl
@[simp, go_sem] theorem Tz16 : (T 16).zero = [Go.Value.pointer none] := rfl
@[simp, go_sem] theorem Tk17 : (T 17).kind = .other := rfl
@[simp, go_sem] theorem Ts17 : (T 17).size = 1 := rfl
@[simp, go_sem] theorem Tb17 : (T 17).bytes = 8 := rfl
@[simp, go_sem] theorem Tz17 : (T 17).zero = [Go.Value.pointer none] := rfl
@[simp, go_sem] theorem Tk18 : (T 18).kind = .struct [(0, 17)] := rfl
@[simp, go_sem] theorem Ts18 : (T 18).size = 1 := rfl
@[simp, go_sem] theorem Tb18 : (T 18).bytes = 8 := rfl
@[simp, go_sem] theorem Tz18 : (T 18).zero = [Go.Value.pointer none] := rfl
@[simp, go_sem] theorem Tk19 : (T 19).kind = .struct [(0, 17)] := rfl
@[simp, go_sem] theorem Ts19 : (T 19).size = 1 := rfl
@[simp, go_sem] theorem Tb19 : (T 19).bytes = 8 := rfl
@[simp, go_sem] theorem Tz19 : (T 19).zero = [Go.Value.pointer none] := rfl
@[simp, go_sem] theorem Tk20 : (T 20).kind = .other := rfl
@[simp, go_sem] theorem Ts20 : (T 20).size = 1 := rfl
@[simp, go_sem] theorem Tb20 : (T 20).bytes = 16 := rfl
@[simp, go_sem] theorem Tz20 : (T 20).zero = [Go.Value.nilIface] := rfl
@[simp, go_sem] theorem Tk21 : (T 21).kind = .int .i32 := rfl
@[simp, go_sem] theorem Ts21 : (T 21).size = 1 := rfl
@[simp, go_sem] theorem Tb21 : (T 21).bytes = 4 := rfl
@[simp, go_sem] theorem Tz21 : (T 21).zero = [Go.Value.int Go.IntKind.i32 0] := rfl
@[simp, go_sem] theorem Tk22 : (T 22).kind = .slice 161 := rfl
@[simp, go_sem] theorem Ts22 : (T 22).size = 1 := rfl
@[simp, go_sem] theorem Tb22 : (T 22).bytes = 24 := rfl
@[simp, go_sem] theorem Tz22 : (T 22).zero = [Go.Value.slice none 0 0] := rfl
@[simp, go_sem] theorem Tk23 : (T 23).kind = .slice 164 := rfl
@[simp, go_sem] theorem Ts23 : (T 23).size = 1 := rfl
@[simp, go_sem] theorem Tb23 : (T 23).bytes = 24 := rfl
@[simp, go_sem] theorem Tz23 : (T 23).zero = [Go.Value.slice none 0 0] := rfl
@[simp, go_sem] theorem Tk24 : (T 24).kind = .struct [(0, 22), (1, 23), (2, 3)] := rfl
@[simp, go_sem] theorem Ts24 : (T 24).size = 3 := rfl
@[simp, go_sem] theorem Tb24 : (T 24).bytes = 56 := rfl
@[simp, go_sem] theorem Tz24 : (T 24).zero = [Go.Value.slice none 0 0, Go.Value.slice none 0 0, Go.Value.int Go.IntKind.i64 0] := rfl
@[simp, go_sem] theorem Tk25 : (T 25).kind = .struct [(0, 22), (1, 23), (2, 3)] := rfl
@[simp, go_sem] theorem Ts25 : (T 25).size = 3 := rfl
@[simp, go_sem] theorem Tb25 : (T 25).bytes = 56 := rfl
@[simp, go_sem] theorem Tz25 : (T 25).zero = [Go.Value.slice none 0 0, Go.Value.slice none 0 0, Go.Value.int Go.IntKind.i64 0] := rfl
@[simp, go_sem] theorem Tk26 : (T 26).kind = .slice 3 := rfl
@[simp, go_sem] theorem Ts26 : (T 26).size = 1 := rfl
@[simp, go_sem] theorem Tb26 : (T 26).bytes = 24 := rfl
@[simp, go_sem] theorem Tz26 : (T 26).zero = [Go.Value.slice none 0 0] := rfl
@[simp, go_sem] theorem Tk27 : (T 27).kind = .other := rfl
@[simp, go_sem] theorem Ts27 : (T 27).size = 1 := rfl
@[simp, go_sem] theorem Tb27 : (T 27).bytes = 8 := rfl
@[simp, go_sem] theorem Tz27 : (T 27).zero = [Go.Value.nilFunc] := rfl
@[simp, go_sem] theorem Tk28 : (T 28).kind = .other := rfl
@[simp, go_sem] theorem Ts28 : (T 28).size = 1 := rfl
@[simp, go_sem] theorem Tb28 : (T 28).bytes = 8 := rfl
@[simp, go_sem] theorem Tz28 : (T 28).zero = [Go.Value.nilFunc] := rfl
@[simp, go_sem] theorem Tk29 : (T 29).kind = .slice 129 := rfl
@[simp, go_sem] theorem Ts29 : (T 29).size = 1 := rfl
@[simp, go_sem] theorem Tb29 : (T 29).bytes = 24 := rfl
@[simp, go_sem] theorem Tz29 : (T 29).zero = [Go.Value.slice none 0 0] := rfl
@[simp, go_sem] theorem Tk30 : (T 30).kind = .slice 44 := rfl
@[simp, go_sem] theorem Ts30 : (T 30).size = 1 := rfl
@[simp, go_sem] theorem Tb30 : (T 30).bytes = 24 := rfl
@[simp, go_sem] theorem Tz30 : (T 30).zero = [Go.Value.slice none 0 0] := rfl
@[simp, go_sem] theorem Tk31 : (T 31).kind = .struct [(0, 29), (1, 30), (2, 3)] := rfl
@[simp, go_sem] theorem Ts31 : (T 31).size = 3 := rfl
@[simp, go_sem] theorem Tb31 : (T 31).bytes = 56 := rfl
@[simp, go_sem] theorem Tz31 : (T 31).zero = [Go.Value.slice none 0 0, Go.Value.slice none 0 0, Go.Value.int Go.IntKind.i64 0] := rfl
@[simp, go_sem] theorem Tk32 : (T 32).kind = .struct [(0, 29), (1, 30), (2, 3)] := rfl
@[simp, go_sem] theorem Ts32 : (T 32).size = 3 := rfl
@[simp, go_sem] theorem Tb32 : (T 32).bytes = 56 := rfl
@[simp, go_sem] theorem Tz32 : (T 32).zero = [Go.Value.slice none 0 0, Go.Value.slice none 0 0, Go.Value.int Go.IntKind.i64 0] := rfl
@[simp, go_sem] theorem Tk33 : (T 33).kind = .other := rfl
@[simp, go_sem] theorem Ts33 : (T 33).size = 1 := rfl
@[simp, go_sem] theorem Tb33 : (T 33).bytes = 8 := rfl
@[simp, go_sem] theorem Tz33 : (T 33).zero = [Go.Value.nilFunc] := rfl
@[simp, go_sem] theorem Tk34 : (T 34).kind = .other := rfl
@[simp, go_sem] theorem Ts34 : (T 34).size = 1 := rfl
@[simp, go_sem] theorem Tb34 : (T 34).bytes = 8 := rfl
@[simp, go_sem] theorem Tz34 : (T 34).zero = [Go.Value.nilFunc] := rfl
@[simp, go_sem] theorem Tk35 : (T 35).kind = .other := rfl
@[simp, go_sem] theorem Ts35 : (T 35).size = 1 := rfl
@[simp, go_sem] theorem Tb35 : (T 35).bytes = 8 := rfl
@[simp, go_sem] theorem Tz35 : (T 35).zero = [Go.Value.nilFunc] := rfl
@[simp, go_sem] theorem Tk36 : (T 36).kind = .other := rfl
@[simp, go_sem] theorem Ts36 : (T 36).size = 1 := rfl
@[simp, go_sem] theorem Tb36 : (T 36).bytes = 8 := rfl
@[simp, go_sem] theorem Tz36 : (T 36).zero = [Go.Value.nilFunc] := rfl
@[simp, go_sem] theorem Tk37 : (T 37).kind = .other := rfl
@[simp, go_sem] theorem Ts37 : (T 37).size = 1 := rfl
@[simp, go_sem] theorem Tb37 : (T 37).bytes = 8 := rfl
@[simp, go_sem] theorem Tz37 : (T 37).zero = [Go.Value.nilFunc] := rfl
@[simp, go_sem] theorem Tk38 : (T 38).kind = .other := rfl
@[simp, go_sem] theorem Ts38 : (T 38).size = 1 := rfl
@[simp, go_sem] theorem Tb38 : (T 38).bytes = 8 := rfl
@[simp, go_sem] theorem Tz38 : (T 38).zero = [Go.Value.nilFunc] := rfl
@[simp, go_sem] theorem Tk39 : (T 39).kind = .other := rfl
@[simp, go_sem] theorem Ts39 : (T 39).size = 1 := rfl
@[simp, go_sem] theorem Tb39 : (T 39).bytes = 8 := rfl
@[simp, go_sem] theorem Tz39 : (T 39).zero = [Go.Value.nilFunc] := rfl
@[simp, go_sem] theorem Tk40 : (T 40).kind = .slice 5 := rfl
@[simp, go_sem] theorem Ts40 : (T 40).size = 1 := rfl
@[simp, go_sem] theorem Tb40 : (T 40).bytes = 24 := rfl
@[simp, go_sem] theorem Tz40 : (T 40).zero = [Go.Value.slice none 0 0] := rfl
@[simp, go_sem] theorem Tk41 : (T 41).kind = .other := rfl
@[simp, go_sem] theorem Ts41 : (T 41).size = 1 := rfl
@[simp, go_sem] theorem Tb41 : (T 41).bytes = 8 := rfl
@[simp, go_sem] theorem Tz41 : (T 41).zero = [Go.Value.nilFunc] := rfl
@[simp, go_sem] theorem Tk42 : (T 42).kind = .other := rfl
@[simp, go_sem] theorem Ts42 : (T 42).size = 1 := rfl
@[simp, go_sem] theorem Tb42 : (T 42).bytes = 8 := rfl
@[simp, go_sem] theorem Tz42 : (T 42).zero = [Go.Value.nilFunc] := rfl
@[simp, go_sem] theorem Tk43 : (T 43).kind = .struct [(0, 3), (1, 3), (2, 3), (3, 3), (4, 4)] := rfl
@[simp, go_sem] theorem Ts43 : (T 43).size = 5 := rfl
@[simp, go_sem] theorem Tb43 : (T 43).bytes = 40 := rfl
@[simp, go_sem] theorem Tz43 : (T 43).zero = [Go.Value.int Go.IntKind.i64 0, Go.Value.int Go.IntKind.i64 0, Go.Value.int Go.IntKind.i64 0, Go.Value.int Go.IntKind.i64 0, Go.Value.bool false] := rfl
@[simp, go_sem] theorem Tk44 : (T 44).kind = .struct [(0, 3), (1, 3), (2, 3), (3, 3), (4, 4)] := rfl
@[simp, go_sem] theorem Ts44 : (T 44).size = 5 := rfl
@[simp, go_sem] theorem Tb44 : (T 44).bytes = 40 := rfl
@[simp, go_sem] theorem Tz44 : (T 44).zero = [Go.Value.int Go.IntKind.i64 0, Go.Value.int Go.IntKind.i64 0, Go.Value.int Go.IntKind.i64 0, Go.Value.int Go.IntKind.i64 0, Go.Value.bool false] := rfl
@[simp, go_sem] theorem Tk45 : (T 45).kind = .other := rfl
@[simp, go_sem] theorem Ts45 : (T 45).size = 1 := rfl
@[simp, go_sem] theorem Tb45 : (T 45).bytes = 8 := rfl
@[simp, go_sem] theorem Tz45 : (T 45).zero = [Go.Value.nilFunc] := rfl
@[simp, go_sem] theorem Tk47 : (T 47).kind = .other := rfl
@[simp, go_sem] theorem Ts47 : (T 47).size = 1 := rfl
@[simp, go_sem] theorem Tb47 : (T 47).bytes = 8 := rfl
@[simp, go_sem] theorem Tz47 : (T 47).zero = [Go.Value.nilFunc] := rfl
@[simp, go_sem] theorem Tk48 : (T 48).kind = .other := rfl
@[simp, go_sem] theorem Ts48 : (T 48).size = 1 := rfl
@[simp, go_sem] theorem Tb48 : (T 48).bytes = 8 := rfl
@[simp, go_sem] theorem Tz48 : (T 48).zero = [Go.Value.nilFunc] := rfl
@[simp, go_sem] theorem Tk49 : (T 49).kind = .other := rfl
@[simp, go_sem] theorem Ts49 : (T 49).size = 1 := rfl
@[simp, go_sem] theorem Tb49 : (T 49).bytes = 8 := rfl
@[simp, go_sem] theorem Tz49 : (T 49).zero = [Go.Value.nilFunc] := rfl
@[simp, go_sem] theorem Tk50 : (T 50).kind = .other := rfl
@[simp, go_sem] theorem Ts50 : (T 50).size = 1 := rfl
@[simp, go_sem] theorem Tb50 : (T 50).bytes = 8 := rfl
@[simp, go_sem] theorem Tz50 : (T 50).zero = [Go.Value.nilFunc] := rfl
@[simp, go_sem] theorem Tk51 : (T 51).kind = .other := rfl
@[simp, go_sem] theorem Ts51 : (T 51).size = 1 := rfl
@[simp, go_sem] theorem Tb51 : (T 51).bytes = 8 := rfl
@[simp, go_sem] theorem Tz51 : (T 51).zero = [Go.Value.nilFunc] := rfl
@[simp, go_sem] theorem Tk52 : (T 52).kind = .other := rfl
@[simp, go_sem] theorem Ts52 : (T 52).size = 1 := rfl
@[simp, go_sem] theorem Tb52 : (T 52).bytes = 8 := rfl
@[simp, go_sem] theorem Tz52 : (T 52).zero = [Go.Value.nilFunc] := rfl
@[simp, go_sem] theorem Tk53 : (T 53).kind = .struct [(0, 3), (1, 26), (2, 26)] := rfl
@[simp, go_sem] theorem Ts53 : (T 53).size = 3 := rfl
@[simp, go_sem] theorem Tb53 : (T 53).bytes = 56 := rfl
@[simp, go_sem] theorem Tz53 : (T 53).zero = [Go.Value.int Go.IntKind.i64 0, Go.Value.slice none 0 0, Go.Value.slice none 0 0] := rfl
@[simp, go_sem] theorem Tk54 : (T 54).kind = .struct [(0, 3), (1, 26), (2, 26)] := rfl
@[simp, go_sem] theorem Ts54 : (T 54).size = 3 := rfl
@[simp, go_sem] theorem Tb54 : (T 54).bytes = 56 := rfl
@[simp, go_sem] theorem Tz54 : (T 54).zero = [Go.Value.int Go.IntKind.i64 0, Go.Value.slice none 0 0, Go.Value.slice none 0 0] := rfl
@[simp, go_sem] theorem Tk55 : (T 55).kind = .slice 181 := rfl
@[simp, go_sem] theorem Ts55 : (T 55).size = 1 := rfl
@[simp, go_sem] theorem Tb55 : (T 55).bytes = 24 := rfl
@[simp, go_sem] theorem Tz55 : (T 55).zero = [Go.Value.slice none 0 0] := rfl
@[simp, go_sem] theorem Tk56 : (T 56).kind = .struct [(0, 25), (3, 54), (6, 4), (7, 55)] := rfl
@[simp, go_sem] theorem Ts56 : (T 56).size = 8 := rfl
@[simp, go_sem] theorem Tb56 : (T 56).bytes = 144 := rfl
@[simp, go_sem] theorem Tz56 : (T 56).zero = [Go.Value.slice none 0 0, Go.Value.slice none 0 0, Go.Value.int Go.IntKind.i64 0, Go.Value.int Go.IntKind.i64 0, Go.Value.slice none 0 0, Go.Value.slice none 0 0, Go.Value.bool false, Go.Value.slice none 0 0] := rfl
@[simp, go_sem] theorem Tk57 : (T 57).kind = .struct [(0, 25), (3, 54), (6, 4), (7, 55)] := rfl
@[simp, go_sem] theorem Ts57 : (T 57).size = 8 := rfl
@[simp, go_sem] theorem Tb57 : (T 57).bytes = 144 := rfl
@[simp, go_sem] theorem Tz57 : (T 57).zero = [Go.Value.slice none 0 0, Go.Value.slice none 0 0, Go.Value.int Go.IntKind.i64 0, Go.Value.int Go.IntKind.i64 0, Go.Value.slice none 0 0, Go.Value.slice none 0 0, Go.Value.bool false, Go.Value.slice none 0 0] := rfl
@[simp, go_sem] theorem Tk58 : (T 58).kind = .other := rfl
@[simp, go_sem] theorem Ts58 : (T 58).size = 1 := rfl
@[simp, go_sem] theorem Tb58 : (T 58).bytes = 8 := rfl
@[simp, go_sem] theorem Tz58 : (T 58).zero = [Go.Value.nilFunc] := rfl
@[simp, go_sem] theorem Tk59 : (T 59).kind = .other := rfl
@[simp, go_sem] theorem Ts59 : (T 59).size = 1 := rfl
@[simp, go_sem] theorem Tb59 : (T 59).bytes = 8 := rfl
@[simp, go_sem] theorem Tz59 : (T 59).zero = [Go.Value.nilFunc] := rfl
@[simp, go_sem] theorem Tk60 : (T 60).kind = .struct [(0, 3), (1, 26), (2, 26)] := rfl
@[simp, go_sem] theorem Ts60 : (T 60).size = 3 := rfl
@[simp, go_sem] theorem Tb60 : (T 60).bytes = 56 := rfl
@[simp, go_sem] theorem Tz60 : (T 60).zero = [Go.Value.int Go.IntKind.i64 0, Go.Value.slice none 0 0, Go.Value.slice none 0 0] := rfl
@[simp, go_sem] theorem Tk61 : (T 61).kind = .slice 136 := rfl
@[simp, go_sem] theorem Ts61 : (T 61).size = 1 := rfl
@[simp, go_sem] theorem Tb61 : (T 61).bytes = 24 := rfl
@[simp, go_sem] theorem Tz61 : (T 61).zero = [Go.Value.slice none 0 0] := rfl
@[simp, go_sem] theorem Tk62 : (T 62).kind = .struct [(0, 32), (3, 60), (6, 4), (7, 61)] := rfl
@[simp, go_sem] theorem Ts62 : (T 62).size = 8 := rfl
@[simp, go_sem] theorem Tb62 : (T 62).bytes = 144 := rfl
@[simp, go_sem] theorem Tz62 : (T 62).zero = [Go.Value.slice none 0 0, Go.Value.slice none 0 0, Go.Value.int Go.IntKind.i64 0, Go.Value.int Go.IntKind.i64 0, Go.Value.slice none 0 0, Go.Value.slice none 0 0, Go.Value.bool false, Go.Value.slice none 0 0] := rfl
@[simp, go_sem] theorem Tk63 : (T 63).kind = .struct [(0, 32), (3, 60), (6, 4), (7, 61)] := rfl
@[simp, go_sem] theorem Ts63 : (T 63).size = 8 := rfl
@[simp, go_sem] theorem Tb63 : (T 63).bytes = 144 := rfl
@[simp, go_sem] theorem Tz63 : (T 63).zero = [Go.Value.slice none 0 0, Go.Value.slice none 0 0, Go.Value.int Go.IntKind.i64 0, Go.Value.int Go.IntKind.i64 0, Go.Value.slice none 0 0, Go.Value.slice none 0 0, Go.Value.bool false, Go.Value.slice none 0 0] := rfl
@[simp, go_sem] theorem Tk64 : (T 64).kind = .other := rfl
@[simp, go_sem] theorem Ts64 : (T 64).size = 1 := rfl
@[simp, go_sem] theorem Tb64 : (T 64).bytes = 8 := rfl
@[simp, go_sem] theorem Tz64 : (T 64).zero = [Go.Value.nilFunc] := rfl
@[simp, go_sem] theorem Tk65 : (T 65).kind = .other := rfl
@[simp, go_sem] theorem Ts65 : (T 65).size = 1 := rfl
@[simp, go_sem] theorem Tb65 : (T 65).bytes = 8 := rfl
@[simp, go_sem] theorem Tz65 : (T 65).zero = [Go.Value.nilFunc] := rfl
@[simp, go_sem] theorem Tk66 : (T 66).kind = .other := rfl
@[simp, go_sem] theorem Ts66 : (T 66).size = 1 := rfl
@[simp, go_sem] theorem Tb66 : (T 66).bytes = 8 := rfl
@[simp, go_sem] theorem Tz66 : (T 66).zero = [Go.Value.nilFunc] := rfl
@[simp, go_sem] theorem Tk67 : (T 67).kind = .other := rfl
@[simp, go_sem] theorem Ts67 : (T 67).size = 1 := rfl
@[simp, go_sem] theorem Tb67 : (T 67).bytes = 8 := rfl
@[simp, go_sem] theorem Tz67 : (T 67).zero = [Go.Value.nilFunc] := rfl
@[simp, go_sem] theorem Tk68 : (T 68).kind = .slice 145 := rfl
@[simp, go_sem] theorem Ts68 : (T 68).size = 1 := rfl
@[simp, go_sem] theorem Tb68 : (T 68).bytes = 24 := rfl
@[simp, go_sem] theorem Tz68 : (T 68).zero = [Go.Value.slice none 0 0] := rfl
@[simp, go_sem] theorem Tk69 : (T 69).kind = .other := rfl
@[simp, go_sem] theorem Ts69 : (T 69).size = 1 := rfl
@[simp, go_sem] theorem Tb69 : (T 69).bytes = 8 := rfl
@[simp, go_sem] theorem Tz69 : (T 69).zero = [Go.Value.nilFunc] := rfl
@[simp, go_sem] theorem Tk70 : (T 70).kind = .other := rfl
@[simp, go_sem] theorem Ts70 : (T 70).size = 1 := rfl
@[simp, go_sem] theorem Tb70 : (T 70).bytes = 8 := rfl
@[simp, go_sem] theorem Tz70 : (T 70).zero = [Go.Value.nilFunc] := rfl
@[simp, go_sem] theorem Tk71 : (T 71).kind = .slice 143 := rfl
@[simp, go_sem] theorem Ts71 : (T 71).size = 1 := rfl
@[simp, go_sem] theorem Tb71 : (T 71).bytes = 24 := rfl
@[simp, go_sem] theorem Tz71 : (T 71).zero = [Go.Value.slice none 0 0] := rfl
@[simp, go_sem] theorem Tk72 : (T 72).kind = .other := rfl
@[simp, go_sem] theorem Ts72 : (T 72).size = 1 := rfl
@[simp, go_sem] theorem Tb72 : (T 72).bytes = 8 := rfl
@[simp, go_sem] theorem Tz72 : (T 72).zero = [Go.Value.nilFunc] := rfl
@[simp, go_sem] theorem Tk73 : (T 73).kind = .other := rfl
@[simp, go_sem] theorem Ts73 : (T 73).size = 1 := rfl
@[simp, go_sem] theorem Tb73 : (T 73).bytes = 8 := rfl
@[simp, go_sem] theorem Tz73 : (T 73).zero = [Go.Value.nilFunc] := rfl
@[simp, go_sem] theorem Tk74 : (T 74).kind = .other := rfl
@[simp, go_sem] theorem Ts74 : (T 74).size = 1 := rfl
@[simp, go_sem] theorem Tb74 : (T 74).bytes = 8 := rfl
@[simp, go_sem] theorem Tz74 : (T 74).zero = [Go.Value.nilFunc] := rfl
@[simp, go_sem] theorem Tk75 : (T 75).kind = .other := rfl
@[simp, go_sem] theorem Ts75 : (T 75).size = 1 := rfl
@[simp, go_sem] theorem Tb75 : (T 75).bytes = 8 := rfl
@[simp, go_sem] theorem Tz75 : (T 75).zero = [Go.Value.nilFunc] := rfl
@[simp, go_sem] theorem Tk76 : (T 76).kind = .struct [(0, 3), (1, 3)] := rfl
@[simp, go_sem] theorem Ts76 : (T 76).size = 2 := rfl
@[simp, go_sem] theorem Tb76 : (T 76).bytes = 16 := rfl
@[simp, go_sem] theorem Tz76 : (T 76).zero = [Go.Value.int Go.IntKind.i64 0, Go.Value.int Go.IntKind.i64 0] := rfl
@[simp, go_sem] theorem Tk77 : (T 77).kind = .struct [(0, 3), (1, 3)] := rfl
@[simp, go_sem] theorem Ts77 : (T 77).size = 2 := rfl
@[simp, go_sem] theorem Tb77 : (T 77).bytes = 16 := rfl
@[simp, go_sem] theorem Tz77 : (T 77).zero = [Go.Value.int Go.IntKind.i64 0, Go.Value.int Go.IntKind.i64 0] := rfl
@[simp, go_sem] theorem Tk79 : (T 79).kind = .other := rfl
@[simp, go_sem] theorem Ts79 : (T 79).size = 1 := rfl
@[simp, go_sem] theorem Tb79 : (T 79).bytes = 8 := rfl
@[simp, go_sem] theorem Tz79 : (T 79).zero = [Go.Value.nilFunc] := rfl
@[simp, go_sem] theorem Tk80 : (T 80).kind = .other := rfl
@[simp, go_sem] theorem Ts80 : (T 80).size = 1 := rfl
@[simp, go_sem] theorem Tb80 : (T 80).bytes = 8 := rfl
@[simp, go_sem] theorem Tz80 : (T 80).zero = [Go.Value.nilFunc] := rfl
@[simp, go_sem] theorem Tk81 : (T 81).kind = .other := rfl
@[simp, go_sem] theorem Ts81 : (T 81).size = 1 := rfl
@[simp, go_sem] theorem Tb81 : (T 81).bytes = 8 := rfl
@[simp, go_sem] theorem Tz81 : (T 81).zero = [Go.Value.nilFunc] := rfl
@[simp, go_sem] theorem Tk82 : (T 82).kind = .slice 197 := rfl
@[simp, go_sem] theorem Ts82 : (T 82).size = 1 := rfl
@[simp, go_sem] theorem Tb82 : (T 82).bytes = 24 := rfl
@[simp, go_sem] theorem Tz82 : (T 82).zero = [Go.Value.slice none 0 0] := rfl
@[simp, go_sem] theorem Tk83 : (T 83).kind = .struct [(0, 82), (1, 26), (2, 3)] := rfl
@[simp, go_sem] theorem Ts83 : (T 83).size = 3 := rfl
@[simp, go_sem] theorem Tb83 : (T 83).bytes = 56 := rfl
@[simp, go_sem] theorem Tz83 : (T 83).zero = [Go.Value.slice none 0 0, Go.Value.slice none 0 0, Go.Value.int Go.IntKind.i64 0] := rfl
@[simp, go_sem] theorem Tk84 : (T 84).kind = .struct [(0, 82), (1, 26), (2, 3)] := rfl
@[simp, go_sem] theorem Ts84 : (T 84).size = 3 := rfl
@[simp, go_sem] theorem Tb84 : (T 84).bytes = 56 := rfl
@[simp, go_sem] theorem Tz84 : (T 84).zero = [Go.Value.slice none 0 0, Go.Value.slice none 0 0, Go.Value.int Go.IntKind.i64 0] := rfl
@[simp, go_sem] theorem Tk85 : (T 85).kind = .struct [(0, 84), (3, 63), (11, 71)] := rfl
@[simp, go_sem] theorem Ts85 : (T 85).size = 12 := rfl
@[simp, go_sem] theorem Tb85 : (T 85).bytes = 224 := rfl
@[simp, go_sem] theorem Tz85 : (T 85).zero = [Go.Value.slice none 0 0, Go.Value.slice none 0 0, Go.Value.int Go.IntKind.i64 0, Go.Value.slice none 0 0, Go.Value.slice none 0 0, Go.Value.int Go.IntKind.i64 0, Go.Value.int Go.IntKind.i64 0, Go.Value.slice none 0 0, Go.Value.slice none 0 0, Go.Value.bool false, Go.Value.slice none 0 0, Go.Value.slice none 0 0] := rfl
@[simp, go_sem] theorem Tk86 : (T 86).kind = .struct [(0, 84), (3, 63), (11, 71)] := rfl
@[simp, go_sem] theorem Ts86 : (T 86).size = 12 := rfl
@[simp, go_sem] theorem Tb86 : (T 86).bytes = 224 := rfl
@[simp, go_sem] theorem Tz86 : (T 86).zero = [Go.Value.slice none 0 0, Go.Value.slice none 0 0, Go.Value.int Go.IntKind.i64 0, Go.Value.slice none 0 0, Go.Value.slice none 0 0, Go.Value.int Go.IntKind.i64 0, Go.Value.int Go.IntKind.i64 0, Go.Value.slice none 0 0, Go.Value.slice none 0 0, Go.Value.bool false, Go.Value.slice none 0 0, Go.Value.slice none 0 0] := rfl
@[simp, go_sem] theorem Tk87 : (T 87).kind = .other := rfl
@[simp, go_sem] theorem Ts87 : (T 87).size = 1 := rfl
@[simp, go_sem] theorem Tb87 : (T 87).bytes = 8 := rfl
@[simp, go_sem] theorem Tz87 : (T 87).zero = [Go.Value.nilFunc] := rfl
@[simp, go_sem] theorem Tk88 : (T 88).kind = .other := rfl
@[simp, go_sem] theorem Ts88 : (T 88).size = 1 := rfl
@[simp, go_sem] theorem Tb88 : (T 88).bytes = 8 := rfl
@[simp, go_sem] theorem Tz88 : (T 88).zero = [Go.Value.nilFunc] := rfl
@[simp, go_sem] theorem Tk89 : (T 89).kind = .other := rfl
@[simp, go_sem] theorem Ts89 : (T 89).size = 1 := rfl
@[simp, go_sem] theorem Tb89 : (T 89).bytes = 8 := rfl
@[simp, go_sem] theorem Tz89 : (T 89).zero = [Go.Value.nilFunc] := rfl
@[simp, go_sem] theorem Tk90 : (T 90).kind = .other := rfl
@[simp, go_sem] theorem Ts90 : (T 90).size = 1 := rfl
@[simp, go_sem] theorem Tb90 : (T 90).bytes = 8 := rfl
@[simp, go_sem] theorem Tz90 : (T 90).zero = [Go.Value.nilFunc] := rfl
@[simp, go_sem] theorem Tk91 : (T 91).kind = .other := rfl
@[simp, go_sem] theorem Ts91 : (T 91).size = 1 := rfl
@[simp, go_sem] theorem Tb91 : (T 91).bytes = 8 := rfl
@[simp, go_sem] theorem Tz91 : (T 91).zero = [Go.Value.nilFunc] := rfl
@[simp, go_sem] theorem Tk92 : (T 92).kind = .other := rfl
@[simp, go_sem] theorem Ts92 : (T 92).size = 1 := rfl
@[simp, go_sem] theorem Tb92 : (T 92).bytes = 8 := rfl
@[simp, go_sem] theorem Tz92 : (T 92).zero = [Go.Value.nilFunc] := rfl
@[simp, go_sem] theorem Tk93 : (T 93).kind = .other := rfl
@[simp, go_sem] theorem Ts93 : (T 93).size = 1 := rfl
@[simp, go_sem] theorem Tb93 : (T 93).bytes = 8 := rfl
@[simp, go_sem] theorem Tz93 : (T 93).zero = [Go.Value.nilFunc] := rfl
@[simp, go_sem] theorem Tk94 : (T 94).kind = .other := rfl
@[simp, go_sem] theorem Ts94 : (T 94).size = 1 := rfl
@[simp, go_sem] theorem Tb94 : (T 94).bytes = 8 := rfl
@[simp, go_sem] theorem Tz94 : (T 94).zero = [Go.Value.nilFunc] := rfl
@[simp, go_sem] theorem Tk95 : (T 95).kind = .other := rfl
@[simp, go_sem] theorem Ts95 : (T 95).size = 1 := rfl
@[simp, go_sem] theorem Tb95 : (T 95).bytes = 8 := rfl
@[simp, go_sem] theorem Tz95 : (T 95).zero = [Go.Value.nilFunc] := rfl
@[simp, go_sem] theorem Tk96 : (T 96).kind = .other := rfl
@[simp, go_sem] theorem Ts96 : (T 96).size = 1 := rfl
@[simp, go_sem] theorem Tb96 : (T 96).bytes = 8 := rfl
@[simp, go_sem] theorem Tz96 : (T 96).zero = [Go.Value.nilFunc] := rfl
@[simp, go_sem] theorem Tk97 : (T 97).kind = .other := rfl
@[simp, go_sem] theorem Ts97 : (T 97).size = 1 := rfl
@[simp, go_sem] theorem Tb97 : (T 97).bytes = 8 := rfl
@[simp, go_sem] theorem Tz97 : (T 97).zero = [Go.Value.nilFunc] := rfl
@[simp, go_sem] theorem Tk98 : (T 98).kind = .other := rfl
@[simp, go_sem] theorem Ts98 : (T 98).size = 1 := rfl
@[simp, go_sem] theorem Tb98 : (T 98).bytes = 8 := rfl
@[simp, go_sem] theorem Tz98 : (T 98).zero = [Go.Value.nilFunc] := rfl
@[simp, go_sem] theorem Tk99 : (T 99).kind = .struct [(0, 26), (1, 26)] := rfl
@[simp, go_sem] theorem Ts99 : (T 99).size = 2 := rfl
@[simp, go_sem] theorem Tb99 : (T 99).bytes = 48 := rfl
@[simp, go_sem] theorem Tz99 : (T 99).zero = [Go.Value.slice none 0 0, Go.Value.slice none 0 0] := rfl
@[simp, go_sem] theorem Tk100 : (T 100).kind = .struct [(0, 26), (1, 26)] := rfl
@[simp, go_sem] theorem Ts100 : (T 100).size = 2 := rfl
@[simp, go_sem] theorem Tb100 : (T 100).bytes = 48 := rfl
@[simp, go_sem] theorem Tz100 : (T 100).zero = [Go.Value.slice none 0 0, Go.Value.slice none 0 0] := rfl
@[simp, go_sem] theorem Tk101 : (T 101).kind = .other := rfl
@[simp, go_sem] theorem Ts101 : (T 101).size = 1 := rfl
@[simp, go_sem] theorem Tb101 : (T 101).bytes = 8 := rfl
@[simp, go_sem] theorem Tz101 : (T 101).zero = [Go.Value.nilFunc] := rfl
@[simp, go_sem] theorem Tk102 : (T 102).kind = .other := rfl
@[simp, go_sem] theorem Ts102 : (T 102).size = 1 := rfl
@[simp, go_sem] theorem Tb102 : (T 102).bytes = 8 := rfl
@[simp, go_sem] theorem Tz102 : (T 102).zero = [Go.Value.nilFunc] := rfl
@[simp, go_sem] theorem Tk103 : (T 103).kind = .struct [(0, 26), (1, 26)] := rfl
@[simp, go_sem] theorem Ts103 : (T 103).size = 2 := rfl
@[simp, go_sem] theorem Tb103 : (T 103).bytes = 48 := rfl
@[simp, go_sem] theorem Tz103 : (T 103).zero = [Go.Value.slice none 0 0, Go.Value.slice none 0 0] := rfl
@[simp, go_sem] theorem Tk104 : (T 104).kind = .other := rfl
@[simp, go_sem] theorem Ts104 : (T 104).size = 1 := rfl
@[simp, go_sem] theorem Tb104 : (T 104).bytes = 8 := rfl
@[simp, go_sem] theorem Tz104 : (T 104).zero = [Go.Value.nilFunc] := rfl
@[simp, go_sem] theorem Tk105 : (T 105).kind = .other := rfl
@[simp, go_sem] theorem Ts105 : (T 105).size = 1 := rfl
@[simp, go_sem] theorem Tb105 : (T 105).bytes = 8 := rfl
@[simp, go_sem] theorem Tz105 : (T 105).zero = [Go.Value.nilFunc] := rfl
@[simp, go_sem] theorem Tk106 : (T 106).kind = .other := rfl
@[simp, go_sem] theorem Ts106 : (T 106).size = 1 := rfl
@[simp, go_sem] theorem Tb106 : (T 106).bytes = 8 := rfl
@[simp, go_sem] theorem Tz106 : (T 106).zero = [Go.Value.nilFunc] := rfl
@[simp, go_sem] theorem Tk107 : (T 107).kind = .other := rfl
@[simp, go_sem] theorem Ts107 : (T 107).size = 1 := rfl
@[simp, go_sem] theorem Tb107 : (T 107).bytes = 8 := rfl
@[simp, go_sem] theorem Tz107 : (T 107).zero = [Go.Value.nilFunc] := rfl
@[simp, go_sem] theorem Tk109 : (T 109).kind = .other := rfl
@[simp, go_sem] theorem Ts109 : (T 109).size = 1 := rfl
@[simp, go_sem] theorem Tb109 : (T 109).bytes = 8 := rfl
@[simp, go_sem] theorem Tz109 : (T 109).zero = [Go.Value.nilFunc] := rfl
@[simp, go_sem] theorem Tk110 : (T 110).kind = .other := rfl
@[simp, go_sem] theorem Ts110 : (T 110).size = 1 := rfl
@[simp, go_sem] theorem Tb110 : (T 110).bytes = 8 := rfl
@[simp, go_sem] theorem Tz110 : (T 110).zero = [Go.Value.nilFunc] := rfl
@[simp, go_sem] theorem Tk111 : (T 111).kind = .other := rfl
@[simp, go_sem] theorem Ts111 : (T 111).size = 1 := rfl
@[simp, go_sem] theorem Tb111 : (T 111).bytes = 8 := rfl
@[simp, go_sem] theorem Tz111 : (T 111).zero = [Go.Value.nilFunc] := rfl
@[simp, go_sem] theorem Tk112 : (T 112).kind = .other := rfl
@[simp, go_sem] theorem Ts112 : (T 112).size = 1 := rfl
@[simp, go_sem] theorem Tb112 : (T 112).bytes = 8 := rfl
@[simp, go_sem] theorem Tz112 : (T 112).zero = [Go.Value.nilFunc] := rfl
@[simp, go_sem] theorem Tk113 : (T 113).kind = .other := rfl
@[simp, go_sem] theorem Ts113 : (T 113).size = 1 := rfl
@[simp, go_sem] theorem Tb113 : (T 113).bytes = 8 := rfl
@[simp, go_sem] theorem Tz113 : (T 113).zero = [Go.Value.nilFunc] := rfl
@[simp, go_sem] theorem Tk114 : (T 114).kind = .other := rfl
@[simp, go_sem] theorem Ts114 : (T 114).size = 1 := rfl
@[simp, go_sem] theorem Tb114 : (T 114).bytes = 8 := rfl
@[simp, go_sem] theorem Tz114 : (T 114).zero = [Go.Value.nilFunc] := rfl
@[simp, go_sem] theorem Tk115 : (T 115).kind = .other := rfl
@[simp, go_sem] theorem Ts115 : (T 115).size = 1 := rfl
@[simp, go_sem] theorem Tb115 : (T 115).bytes = 8 := rfl
@[simp, go_sem] theorem Tz115 : (T 115).zero = [Go.Value.nilFunc] := rfl
@[simp, go_sem] theorem Tk116 : (T 116).kind = .other := rfl
@[simp, go_sem] theorem Ts116 : (T 116).size = 1 := rfl
@[simp, go_sem] theorem Tb116 : (T 116).bytes = 8 := rfl
@[simp, go_sem] theorem Tz116 : (T 116).zero = [Go.Value.nilFunc] := rfl
@[simp, go_sem] theorem Tk117 : (T 117).kind = .other := rfl
@[simp, go_sem] theorem Ts117 : (T 117).size = 1 := rfl
@[simp, go_sem] theorem Tb117 : (T 117).bytes = 8 := rfl
@[simp, go_sem] theorem Tz117 : (T 117).zero = [Go.Value.nilFunc] := rfl
@[simp, go_sem] theorem Tk118 : (T 118).kind = .other := rfl
@[simp, go_sem] theorem Ts118 : (T 118).size = 1 := rfl
@[simp, go_sem] theorem Tb118 : (T 118).bytes = 8 := rfl
@[simp, go_sem] theorem Tz118 : (T 118).zero = [Go.Value.nilFunc] := rfl
@[simp, go_sem] theorem Tk119 : (T 119).kind = .other := rfl
@[simp, go_sem] theorem Ts119 : (T 119).size = 1 := rfl
@[simp, go_sem] theorem Tb119 : (T 119).bytes = 8 := rfl
@[simp, go_sem] theorem Tz119 : (T 119).zero = [Go.Value.nilFunc] := rfl
@[simp, go_sem] theorem Tk120 : (T 120).kind = .other := rfl
@[simp, go_sem] theorem Ts120 : (T 120).size = 1 := rfl
@[simp, go_sem] theorem Tb120 : (T 120).bytes = 8 := rfl
@[simp, go_sem] theorem Tz120 : (T 120).zero = [Go.Value.nilFunc] := rfl
@[simp, go_sem] theorem Tk121 : (T 121).kind = .other := rfl
@[simp, go_sem] theorem Ts121 : (T 121).size = 1 := rfl
@[simp, go_sem] theorem Tb121 : (T 121).bytes = 8 := rfl
@[simp, go_sem] theorem Tz121 : (T 121).zero = [Go.Value.pointer none] := rfl
@[simp, go_sem] theorem Tk122 : (T 122).kind = .other := rfl
@[simp, go_sem] theorem Ts122 : (T 122).size = 1 := rfl
@[simp, go_sem] theorem Tb122 : (T 122).bytes = 8 := rfl
@[simp, go_sem] theorem Tz122 : (T 122).zero = [Go.Value.nilFunc] := rfl
@[simp, go_sem] theorem Tk123 : (T 123).kind = .other := rfl
@[simp, go_sem] theorem Ts123 : (T 123).size = 1 := rfl
@[simp, go_sem] theorem Tb123 : (T 123).bytes = 8 := rfl
@[simp, go_sem] theorem Tz123 : (T 123).zero = [Go.Value.nilFunc] := rfl
@[simp, go_sem] theorem Tk124 : (T 124).kind = .other := rfl
@[simp, go_sem] theorem Ts124 : (T 124).size = 1 := rfl
@[simp, go_sem] theorem Tb124 : (T 124).bytes = 8 := rfl
@[simp, go_sem] theorem Tz124 : (T 124).zero = [Go.Value.nilFunc] := rfl
@[simp, go_sem] theorem Tk125 : (T 125).kind = .other := rfl
@[simp, go_sem] theorem Ts125 : (T 125).size = 1 := rfl
@[simp, go_sem] theorem Tb125 : (T 125).bytes = 8 := rfl
@[simp, go_sem] theorem Tz125 : (T 125).zero = [Go.Value.nilFunc] := rfl
@[simp, go_sem] theorem Tk126 : (T 126).kind = .other := rfl
@[simp, go_sem] theorem Ts126 : (T 126).size = 1 := rfl
@[simp, go_sem] theorem Tb126 : (T 126).bytes = 8 := rfl
@[simp, go_sem] theorem Tz126 : (T 126).zero = [Go.Value.nilFunc] := rfl
@[simp, go_sem] theorem Tk127 : (T 127).kind = .other := rfl
@[simp, go_sem] theorem Ts127 : (T 127).size = 1 := rfl
@[simp, go_sem] theorem Tb127 : (T 127).bytes = 8 := rfl
@[simp, go_sem] theorem Tz127 : (T 127).zero = [Go.Value.nilFunc] := rfl
@[simp, go_sem] theorem Tk128 : (T 128).kind = .struct [(0, 9), (1, 26), (2, 3)] := rfl
@[simp, go_sem] theorem Ts128 : (T 128).size = 3 := rfl
@[simp, go_sem] theorem Tb128 : (T 128).bytes = 48 := rfl
@[simp, go_sem] theorem Tz128 : (T 128).zero = [Go.Value.string { data := #[] }, Go.Value.slice none 0 0, Go.Value.int Go.IntKind.i64 0] := rfl
@[simp, go_sem] theorem Tk129 : (T 129).kind = .struct [(0, 9), (1, 26), (2, 3)] := rfl
@[simp, go_sem] theorem Ts129 : (T 129).size = 3 := rfl
@[simp, go_sem] theorem Tb129 : (T 129).bytes = 48 := rfl
@[simp, go_sem] theorem Tz129 : (T 129).zero = [Go.Value.string { data := #[] }, Go.Value.slice none 0 0, Go.Value.int Go.IntKind.i64 0] := rfl
@[simp, go_sem] theorem Tk130 : (T 130).kind = .other := rfl
@[simp, go_sem] theorem Ts130 : (T 130).size = 1 := rfl
@[simp, go_sem] theorem Tb130 : (T 130).bytes = 8 := rfl
@[simp, go_sem] theorem Tz130 : (T 130).zero = [Go.Value.nilFunc] := rfl
@[simp, go_sem] theorem Tk131 : (T 131).kind = .other := rfl
@[simp, go_sem] theorem Ts131 : (T 131).size = 1 := rfl
@[simp, go_sem] theorem Tb131 : (T 131).bytes = 8 := rfl
@[simp, go_sem] theorem Tz131 : (T 131).zero = [Go.Value.nilFunc] := rfl
@[simp, go_sem] theorem Tk132 : (T 132).kind = .other := rfl
@[simp, go_sem] theorem Ts132 : (T 132).size = 1 := rfl
@[simp, go_sem] theorem Tb132 : (T 132).bytes = 8 := rfl
@[simp, go_sem] theorem Tz132 : (T 132).zero = [Go.Value.nilFunc] := rfl
@[simp, go_sem] theorem Tk133 : (T 133).kind = .other := rfl
@[simp, go_sem] theorem Ts133 : (T 133).size = 1 := rfl
@[simp, go_sem] theorem Tb133 : (T 133).bytes = 8 := rfl
@[simp, go_sem] theorem Tz133 : (T 133).zero = [Go.Value.nilFunc] := rfl
@[simp, go_sem] theorem Tk134 : (T 134).kind = .other := rfl
@[simp, go_sem] theorem Ts134 : (T 134).size = 1 := rfl
@[simp, go_sem] theorem Tb134 : (T 134).bytes = 8 := rfl
@[simp, go_sem] theorem Tz134 : (T 134).zero = [Go.Value.nilFunc] := rfl
@[simp, go_sem] theorem Tk135 : (T 135).kind = .struct [(0, 3), (1, 26), (2, 26), (3, 26)] := rfl
@[simp, go_sem] theorem Ts135 : (T 135).size = 4 := rfl
@[simp, go_sem] theorem Tb135 : (T 135).bytes = 80 := rfl
@[simp, go_sem] theorem Tz135 : (T 135).zero = [Go.Value.int Go.IntKind.i64 0, Go.Value.slice none 0 0, Go.Value.slice none 0 0, Go.Value.slice none 0 0] := rfl
@[simp, go_sem] theorem Tk136 : (T 136).kind = .struct [(0, 3), (1, 26), (2, 26), (3, 26)] := rfl
@[simp, go_sem] theorem Ts136 : (T 136).size = 4 := rfl
@[simp, go_sem] theorem Tb136 : (T 136).bytes = 80 := rfl
@[simp, go_sem] theorem Tz136 : (T 136).zero = [Go.Value.int Go.IntKind.i64 0, Go.Value.slice none 0 0, Go.Value.slice none 0 0, Go.Value.slice none 0 0] := rfl
@[simp, go_sem] theorem Tk137 : (T 137).kind = .other := rfl
@[simp, go_sem] theorem Ts137 : (T 137).size = 1 := rfl
@[simp, go_sem] theorem Tb137 : (T 137).bytes = 8 := rfl
@[simp, go_sem] theorem Tz137 : (T 137).zero = [Go.Value.nilFunc] := rfl
@[simp, go_sem] theorem Tk138 : (T 138).kind = .other := rfl
@[simp, go_sem] theorem Ts138 : (T 138).size = 1 := rfl
@[simp, go_sem] theorem Tb138 : (T 138).bytes = 8 := rfl
@[simp, go_sem] theorem Tz138 : (T 138).zero = [Go.Value.nilFunc] := rfl
@[simp, go_sem] theorem Tk139 : (T 139).kind = .other := rfl
@[simp, go_sem] theorem Ts139 : (T 139).size = 1 := rfl
@[simp, go_sem] theorem Tb139 : (T 139).bytes = 8 := rfl
@[simp, go_sem] theorem Tz139 : (T 139).zero = [Go.Value.nilFunc] := rfl
@[simp, go_sem] theorem Tk140 : (T 140).kind = .other := rfl
@[simp, go_sem] theorem Ts140 : (T 140).size = 1 := rfl
@[simp, go_sem] theorem Tb140 : (T 140).bytes = 8 := rfl
@[simp, go_sem] theorem Tz140 : (T 140).zero = [Go.Value.nilFunc] := rfl
@[simp, go_sem] theorem Tk141 : (T 141).kind = .other := rfl
@[simp, go_sem] theorem Ts141 : (T 141).size = 1 := rfl
@[simp, go_sem] theorem Tb141 : (T 141).bytes = 8 := rfl
@[simp, go_sem] theorem Tz141 : (T 141).zero = [Go.Value.nilFunc] := rfl
@[simp, go_sem] theorem Tk142 : (T 142).kind = .struct [(0, 3), (1, 3)] := rfl
@[simp, go_sem] theorem Ts142 : (T 142).size = 2 := rfl
@[simp, go_sem] theorem Tb142 : (T 142).bytes = 16 := rfl
@[simp, go_sem] theorem Tz142 : (T 142).zero = [Go.Value.int Go.IntKind.i64 0, Go.Value.int Go.IntKind.i64 0] := rfl
@[simp, go_sem] theorem Tk143 : (T 143).kind = .struct [(0, 3), (1, 3)] := rfl
@[simp, go_sem] theorem Ts143 : (T 143).size = 2 := rfl
@[simp, go_sem] theorem Tb143 : (T 143).bytes = 16 := rfl
@[simp, go_sem] theorem Tz143 : (T 143).zero = [Go.Value.int Go.IntKind.i64 0, Go.Value.int Go.IntKind.i64 0] := rfl
@[simp, go_sem] theorem Tk144 : (T 144).kind = .other := rfl
@[simp, go_sem] theorem Ts144 : (T 144).size = 1 := rfl
@[simp, go_sem] theorem Tb144 : (T 144).bytes = 8 := rfl
@[simp, go_sem] theorem Tz144 : (T 144).zero = [Go.Value.nilFunc] := rfl
@[simp, go_sem] theorem Tk145 : (T 145).kind = .struct [(0, 3), (1, 3)] := rfl
@[simp, go_sem] theorem Ts145 : (T 145).size = 2 := rfl
@[simp, go_sem] theorem Tb145 : (T 145).bytes = 16 := rfl
@[simp, go_sem] theorem Tz145 : (T 145).zero = [Go.Value.int Go.IntKind.i64 0, Go.Value.int Go.IntKind.i64 0] := rfl
@[simp, go_sem] theorem Tk146 : (T 146).kind = .other := rfl
@[simp, go_sem] theorem Ts146 : (T 146).size = 1 := rfl
@[simp, go_sem] theorem Tb146 : (T 146).bytes = 8 := rfl
@[simp, go_sem] theorem Tz146 : (T 146).zero = [Go.Value.nilFunc] := rfl
@[simp, go_sem] theorem Tk147 : (T 147).kind = .other := rfl
@[simp, go_sem] theorem Ts147 : (T 147).size = 1 := rfl
@[simp, go_sem] theorem Tb147 : (T 147).bytes = 8 := rfl
@[simp, go_sem] theorem Tz147 : (T 147).zero = [Go.Value.nilFunc] := rfl
@[simp, go_sem] theorem Tk148 : (T 148).kind = .other := rfl
@[simp, go_sem] theorem Ts148 : (T 148).size = 1 := rfl
@[simp, go_sem] theorem Tb148 : (T 148).bytes = 8 := rfl
@[simp, go_sem] theorem Tz148 : (T 148).zero = [Go.Value.nilFunc] := rfl
@[simp, go_sem] theorem Tk149 : (T 149).kind = .other := rfl
@[simp, go_sem] theorem Ts149 : (T 149).size = 1 := rfl
@[simp, go_sem] theorem Tb149 : (T 149).bytes = 8 := rfl
@[simp, go_sem] theorem Tz149 : (T 149).zero = [Go.Value.nilFunc] := rfl
@[simp, go_sem] theorem Tk150 : (T 150).kind = .other := rfl
@[simp, go_sem] theorem Ts150 : (T 150).size = 1 := rfl
@[simp, go_sem] theorem Tb150 : (T 150).bytes = 8 := rfl
@[simp, go_sem] theorem Tz150 : (T 150).zero = [Go.Value.nilFunc] := rfl
@[simp, go_sem] theorem Tk151 : (T 151).kind = .other := rfl
@[simp, go_sem] theorem Ts151 : (T 151).size = 1 := rfl
@[simp, go_sem] theorem Tb151 : (T 151).bytes = 8 := rfl
@[simp, go_sem] theorem Tz151 : (T 151).zero = [Go.Value.nilFunc] := rfl
@[simp, go_sem] theorem Tk152 : (T 152).kind = .other := rfl
@[simp, go_sem] theorem Ts152 : (T 152).size = 1 := rfl
@[simp, go_sem] theorem Tb152 : (T 152).bytes = 8 := rfl
@[simp, go_sem] theorem Tz152 : (T 152).zero = [Go.Value.nilFunc] := rfl
@[simp, go_sem] theorem Tk153 : (T 153).kind = .other := rfl
@[simp, go_sem] theorem Ts153 : (T 153).size = 1 := rfl
@[simp, go_sem] theorem Tb153 : (T 153).bytes = 8 := rfl
@[simp, go_sem] theorem Tz153 : (T 153).zero = [Go.Value.nilFunc] := rfl
@[simp, go_sem] theorem Tk154 : (T 154).kind = .other := rfl
@[simp, go_sem] theorem Ts154 : (T 154).size = 1 := rfl
@[simp, go_sem] theorem Tb154 : (T 154).bytes = 8 := rfl
@[simp, go_sem] theorem Tz154 : (T 154).zero = [Go.Value.nilFunc] := rfl
@[simp, go_sem] theorem Tk155 : (T 155).kind = .other := rfl
@[simp, go_sem] theorem Ts155 : (T 155).size = 1 := rfl
@[simp, go_sem] theorem Tb155 : (T 155).bytes = 8 := rfl
@[simp, go_sem] theorem Tz155 : (T 155).zero = [Go.Value.nilFunc] := rfl
@[simp, go_sem] theorem Tk156 : (T 156).kind = .other := rfl
@[simp, go_sem] theorem Ts156 : (T 156).size = 1 := rfl
@[simp, go_sem] theorem Tb156 : (T 156).bytes = 8 := rfl
@[simp, go_sem] theorem Tz156 : (T 156).zero = [Go.Value.nilFunc] := rfl
@[simp, go_sem] theorem Tk157 : (T 157).kind = .other := rfl
@[simp, go_sem] theorem Ts157 : (T 157).size = 1 := rfl
@[simp, go_sem] theorem Tb157 : (T 157).bytes = 8 := rfl
@[simp, go_sem] theorem Tz157 : (T 157).zero = [Go.Value.nilFunc] := rfl
@[simp, go_sem] theorem Tk158 : (T 158).kind = .other := rfl
@[simp, go_sem] theorem Ts158 : (T 158).size = 1 := rfl
@[simp, go_sem] theorem Tb158 : (T 158).bytes = 8 := rfl
@[simp, go_sem] theorem Tz158 : (T 158).zero = [Go.Value.nilFunc] := rfl
@[simp, go_sem] theorem Tk159 : (T 159).kind = .other := rfl
@[simp, go_sem] theorem Ts159 : (T 159).size = 1 := rfl
@[simp, go_sem] theorem Tb159 : (T 159).bytes = 8 := rfl
@[simp, go_sem] theorem Tz159 : (T 159).zero = [Go.Value.nilFunc] := rfl
@[simp, go_sem] theorem Tk160 : (T 160).kind = .other := rfl
@[simp, go_sem] theorem Ts160 : (T 160).size = 1 := rfl
@[simp, go_sem] theorem Tb160 : (T 160).bytes = 8 := rfl
@[simp, go_sem] theorem Tz160 : (T 160).zero = [Go.Value.nilFunc] := rfl
@[simp, go_sem] theorem Tk161 : (T 161).kind = .struct [(0, 9), (1, 26), (2, 3)] := rfl
@[simp, go_sem] theorem Ts161 : (T 161).size = 3 := rfl
@[simp, go_sem] theorem Tb161 : (T 161).bytes = 48 := rfl
@[simp, go_sem] theorem Tz161 : (T 161).zero = [Go.Value.string { data := #[] }, Go.Value.slice none 0 0, Go.Value.int Go.IntKind.i64 0] := rfl
@[simp, go_sem] theorem Tk162 : (T 162).kind = .other := rfl
@[simp, go_sem] theorem Ts162 : (T 162).size = 1 := rfl
@[simp, go_sem] theorem Tb162 : (T 162).bytes = 8 := rfl
@[simp, go_sem] theorem Tz162 : (T 162).zero = [Go.Value.nilFunc] := rfl
@[simp, go_sem] theorem Tk163 : (T 163).kind = .other := rfl
@[simp, go_sem] theorem Ts163 : (T 163).size = 1 := rfl
@[simp, go_sem] theorem Tb163 : (T 163).bytes = 8 := rfl
@[simp, go_sem] theorem Tz163 : (T 163).zero = [Go.Value.nilFunc] := rfl
@[simp, go_sem] theorem Tk164 : (T 164).kind = .struct [(0, 3), (1, 3), (2, 3), (3, 3), (4, 4)] := rfl
@[simp, go_sem] theorem Ts164 : (T 164).size = 5 := rfl
@[simp, go_sem] theorem Tb164 : (T 164).bytes = 40 := rfl
@[simp, go_sem] theorem Tz164 : (T 164).zero = [Go.Value.int Go.IntKind.i64 0, Go.Value.int Go.IntKind.i64 0, Go.Value.int Go.IntKind.i64 0, Go.Value.int Go.IntKind.i64 0, Go.Value.bool false] := rfl
@[simp, go_sem] theorem Tk165 : (T 165).kind = .other := rfl
@[simp, go_sem] theorem Ts165 : (T 165).size = 1 := rfl
@[simp, go_sem] theorem Tb165 : (T 165).bytes = 8 := rfl
@[simp, go_sem] theorem Tz165 : (T 165).zero = [Go.Value.nilFunc] := rfl
@[simp, go_sem] theorem Tk166 : (T 166).kind = .other := rfl
@[simp, go_sem] theorem Ts166 : (T 166).size = 1 := rfl
@[simp, go_sem] theorem Tb166 : (T 166).bytes = 8 := rfl
@[simp, go_sem] theorem Tz166 : (T 166).zero = [Go.Value.nilFunc] := rfl
@[simp, go_sem] theorem Tk167 : (T 167).kind = .other := rfl
@[simp, go_sem] theorem Ts167 : (T 167).size = 1 := rfl
@[simp, go_sem] theorem Tb167 : (T 167).bytes = 8 := rfl
@[simp, go_sem] theorem Tz167 : (T 167).zero = [Go.Value.nilFunc] := rfl
@[simp, go_sem] theorem Tk168 : (T 168).kind = .other := rfl
@[simp, go_sem] theorem Ts168 : (T 168).size = 1 := rfl
@[simp, go_sem] theorem Tb168 : (T 168).bytes = 8 := rfl
@[simp, go_sem] theorem Tz168 : (T 168).zero = [Go.Value.nilFunc] := rfl
@[simp, go_sem] theorem Tk169 : (T 169).kind = .other := rfl
@[simp, go_sem] theorem Ts169 : (T 169).size = 1 := rfl
@[simp, go_sem] theorem Tb169 : (T 169).bytes = 8 := rfl
@[simp, go_sem] theorem Tz169 : (T 169).zero = [Go.Value.nilFunc] := rfl
@[simp, go_sem] theorem Tk170 : (T 170).kind = .struct [(0, 40), (1, 3), (2, 3)] := rfl
@[simp, go_sem] theorem Ts170 : (T 170).size = 3 := rfl
@[simp, go_sem] theorem Tb170 : (T 170).bytes = 40 := rfl
@[simp, go_sem] theorem Tz170 : (T 170).zero = [Go.Value.slice none 0 0, Go.Value.int Go.IntKind.i64 0, Go.Value.int Go.IntKind.i64 0] := rfl
@[simp, go_sem] theorem Tk171 : (T 171).kind = .struct [(0, 40), (1, 3), (2, 3)] := rfl
@[simp, go_sem] theorem Ts171 : (T 171).size = 3 := rfl
@[simp, go_sem] theorem Tb171 : (T 171).bytes = 40 := rfl
@[simp, go_sem] theorem Tz171 : (T 171).zero = [Go.Value.slice none 0 0, Go.Value.int Go.IntKind.i64 0, Go.Value.int Go.IntKind.i64 0] := rfl
@[simp, go_sem] theorem Tk172 : (T 172).kind = .other := rfl
@[simp, go_sem] theorem Ts172 : (T 172).size = 1 := rfl
@[simp, go_sem] theorem Tb172 : (T 172).bytes = 8 := rfl
@[simp, go_sem] theorem Tz172 : (T 172).zero = [Go.Value.nilFunc] := rfl
@[simp, go_sem] theorem Tk173 : (T 173).kind = .other := rfl
@[simp, go_sem] theorem Ts173 : (T 173).size = 1 := rfl
@[simp, go_sem] theorem Tb173 : (T 173).bytes = 8 := rfl
@[simp, go_sem] theorem Tz173 : (T 173).zero = [Go.Value.nilFunc] := rfl
@[simp, go_sem] theorem Tk174 : (T 174).kind = .int .u64 := rfl
@[simp, go_sem] theorem Ts174 : (T 174).size = 1 := rfl
@[simp, go_sem] theorem Tb174 : (T 174).bytes = 8 := rfl
@[simp, go_sem] theorem Tz174 : (T 174).zero = [Go.Value.int Go.IntKind.u64 0] := rfl
@[simp, go_sem] theorem Tk175 : (T 175).kind = .other := rfl
@[simp, go_sem] theorem Ts175 : (T 175).size = 1 := rfl
@[simp, go_sem] theorem Tb175 : (T 175).bytes = 8 := rfl
@[simp, go_sem] theorem Tz175 : (T 175).zero = [Go.Value.nilFunc] := rfl
@[simp, go_sem] theorem Tk176 : (T 176).kind = .other := rfl
@[simp, go_sem] theorem Ts176 : (T 176).size = 1 := rfl
@[simp, go_sem] theorem Tb176 : (T 176).bytes = 8 := rfl
@[simp, go_sem] theorem Tz176 : (T 176).zero = [Go.Value.nilFunc] := rfl
@[simp, go_sem] theorem Tk177 : (T 177).kind = .other := rfl
@[simp, go_sem] theorem Ts177 : (T 177).size = 1 := rfl
@[simp, go_sem] theorem Tb177 : (T 177).bytes = 8 := rfl
@[simp, go_sem] theorem Tz177 : (T 177).zero = [Go.Value.nilFunc] := rfl
@[simp, go_sem] theorem Tk178 : (T 178).kind = .other := rfl
@[simp, go_sem] theorem Ts178 : (T 178).size = 1 := rfl
@[simp, go_sem] theorem Tb178 : (T 178).bytes = 8 := rfl
@[simp, go_sem] theorem Tz178 : (T 178).zero = [Go.Value.nilFunc] := rfl
@[simp, go_sem] theorem Tk179 : (T 179).kind = .other := rfl
@[simp, go_sem] theorem Ts179 : (T 179).size = 1 := rfl
@[simp, go_sem] theorem Tb179 : (T 179).bytes = 8 := rfl
@[simp, go_sem] theorem Tz179 : (T 179).zero = [Go.Value.nilFunc] := rfl
@[simp, go_sem] theorem Tk180 : (T 180).kind = .other := rfl
@[simp, go_sem] theorem Ts180 : (T 180).size = 1 := rfl
@[simp, go_sem] theorem Tb180 : (T 180).bytes = 8 := rfl
@[simp, go_sem] theorem Tz180 : (T 180).zero = [Go.Value.nilFunc] := rfl
@[simp, go_sem] theorem Tk181 : (T 181).kind = .struct [(0, 3), (1, 26), (2, 26), (3, 26)] := rfl
@[simp, go_sem] theorem Ts181 : (T 181).size = 4 := rfl
@[simp, go_sem] theorem Tb181 : (T 181).bytes = 80 := rfl
@[simp, go_sem] theorem Tz181 : (T 181).zero = [Go.Value.int Go.IntKind.i64 0, Go.Value.slice none 0 0, Go.Value.slice none 0 0, Go.Value.slice none 0 0] := rfl
@[simp, go_sem] theorem Tk182 : (T 182).kind = .other := rfl
@[simp, go_sem] theorem Ts182 : (T 182).size = 1 := rfl
@[simp, go_sem] theorem Tb182 : (T 182).bytes = 8 := rfl
@[simp, go_sem] theorem Tz182 : (T 182).zero = [Go.Value.nilFunc] := rfl
@[simp, go_sem] theorem Tk183 : (T 183).kind = .other := rfl
@[simp, go_sem] theorem Ts183 : (T 183).size = 1 := rfl
@[simp, go_sem] theorem Tb183 : (T 183).bytes = 8 := rfl
@[simp, go_sem] theorem Tz183 : (T 183).zero = [Go.Value.nilFunc] := rfl
@[simp, go_sem] theorem Tk184 : (T 184).kind = .other := rfl
@[simp, go_sem] theorem Ts184 : (T 184).size = 1 := rfl
@[simp, go_sem] theorem Tb184 : (T 184).bytes = 8 := rfl
@[simp, go_sem] theorem Tz184 : (T 184).zero = [Go.Value.nilFunc] := rfl
@[simp, go_sem] theorem Tk185 : (T 185).kind = .other := rfl
@[simp, go_sem] theorem Ts185 : (T 185).size = 1 := rfl
@[simp, go_sem] theorem Tb185 : (T 185).bytes = 8 := rfl
@[simp, go_sem] theorem Tz185 : (T 185).zero = [Go.Value.nilFunc] := rfl
@[simp, go_sem] theorem Tk186 : (T 186).kind = .other := rfl
@[simp, go_sem] theorem Ts186 : (T 186).size = 1 := rfl
@[simp, go_sem] theorem Tb186 : (T 186).bytes = 8 := rfl
@[simp, go_sem] theorem Tz186 : (T 186).zero = [Go.Value.nilFunc] := rfl
@[simp, go_sem] theorem Tk187 : (T 187).kind = .other := rfl
@[simp, go_sem] theorem Ts187 : (T 187).size = 1 := rfl
@[simp, go_sem] theorem Tb187 : (T 187).bytes = 8 := rfl
@[simp, go_sem] theorem Tz187 : (T 187).zero = [Go.Value.nilFunc] := rfl
@[simp, go_sem] theorem Tk188 : (T 188).kind = .other := rfl
@[simp, go_sem] theorem Ts188 : (T 188).size = 1 := rfl
@[simp, go_sem] theorem Tb188 : (T 188).bytes = 8 := rfl
@[simp, go_sem] theorem Tz188 : (T 188).zero = [Go.Value.nilFunc] := rfl
@[simp, go_sem] theorem Tk189 : (T 189).kind = .other := rfl
@[simp, go_sem] theorem Ts189 : (T 189).size = 1 := rfl
@[simp, go_sem] theorem Tb189 : (T 189).bytes = 8 := rfl
@[simp, go_sem] theorem Tz189 : (T 189).zero = [Go.Value.nilFunc] := rfl
@[simp, go_sem] theorem Tk190 : (T 190).kind = .other := rfl
@[simp, go_sem] theorem Ts190 : (T 190).size = 1 := rfl
@[simp, go_sem] theorem Tb190 : (T 190).bytes = 8 := rfl
@[simp, go_sem] theorem Tz190 : (T 190).zero = [Go.Value.nilFunc] := rfl
@[simp, go_sem] theorem Tk191 : (T 191).kind = .slice 9 := rfl
@[simp, go_sem] theorem Ts191 : (T 191).size = 1 := rfl
@[simp, go_sem] theorem Tb191 : (T 191).bytes = 24 := rfl
@[simp, go_sem] theorem Tz191 : (T 191).zero = [Go.Value.slice none 0 0] := rfl
@[simp, go_sem] theorem Tk192 : (T 192).kind = .other := rfl
@[simp, go_sem] theorem Ts192 : (T 192).size = 1 := rfl
@[simp, go_sem] theorem Tb192 : (T 192).bytes = 8 := rfl
@[simp, go_sem] theorem Tz192 : (T 192).zero = [Go.Value.nilFunc] := rfl
@[simp, go_sem] theorem Tk193 : (T 193).kind = .other := rfl
@[simp, go_sem] theorem Ts193 : (T 193).size = 1 := rfl
@[simp, go_sem] theorem Tb193 : (T 193).bytes = 8 := rfl
@[simp, go_sem] theorem Tz193 : (T 193).zero = [Go.Value.nilFunc] := rfl
@[simp, go_sem] theorem Tk194 : (T 194).kind = .other := rfl
@[simp, go_sem] theorem Ts194 : (T 194).size = 1 := rfl
@[simp, go_sem] theorem Tb194 : (T 194).bytes = 8 := rfl
@[simp, go_sem] theorem Tz194 : (T 194).zero = [Go.Value.nilFunc] := rfl
@[simp, go_sem] theorem Tk195 : (T 195).kind = .other := rfl
@[simp, go_sem] theorem Ts195 : (T 195).size = 1 := rfl
@[simp, go_sem] theorem Tb195 : (T 195).bytes = 8 := rfl
@[simp, go_sem] theorem Tz195 : (T 195).zero = [Go.Value.nilFunc] := rfl
@[simp, go_sem] theorem Tk196 : (T 196).kind = .struct [(0, 9), (1, 3), (2, 4), (3, 3), (4, 3), (5, 3), (6, 3), (7, 4), (8, 3), (9, 3), (10, 3)] := rfl
@[simp, go_sem] theorem Ts196 : (T 196).size = 11 := rfl
@[simp, go_sem] theorem Tb196 : (T 196).bytes = 96 := rfl
@[simp, go_sem] theorem Tz196 : (T 196).zero = [Go.Value.string { data := #[] }, Go.Value.int Go.IntKind.i64 0, Go.Value.bool false, Go.Value.int Go.IntKind.i64 0, Go.Value.int Go.IntKind.i64 0, Go.Value.int Go.IntKind.i64 0, Go.Value.int Go.IntKind.i64 0, Go.Value.bool false, Go.Value.int Go.IntKind.i64 0, Go.Value.int Go.IntKind.i64 0, Go.Value.int Go.IntKind.i64 0] := rfl
@[simp, go_sem] theorem Tk197 : (T 197).kind = .struct [(0, 9), (1, 3), (2, 4), (3, 3), (4, 3), (5, 3), (6, 3), (7, 4), (8, 3), (9, 3), (10, 3)] := rfl
@[simp, go_sem] theorem Ts197 : (T 197).size = 11 := rfl
@[simp, go_sem] theorem Tb197 : (T 197).bytes = 96 := rfl
@[simp, go_sem] theorem Tz197 : (T 197).zero = [Go.Value.string { data := #[] }, Go.Value.int Go.IntKind.i64 0, Go.Value.bool false, Go.Value.int Go.IntKind.i64 0, Go.Value.int Go.IntKind.i64 0, Go.Value.int Go.IntKind.i64 0, Go.Value.int Go.IntKind.i64 0, Go.Value.bool false, Go.Value.int Go.IntKind.i64 0, Go.Value.int Go.IntKind.i64 0, Go.Value.int Go.IntKind.i64 0] := rfl
@[simp, go_sem] theorem Tk199 : (T 199).kind = .other := rfl
@[simp, go_sem] theorem Ts199 : (T 199).size = 1 := rfl
@[simp, go_sem] theorem Tb199 : (T 199).bytes = 8 := rfl
@[simp, go_sem] theorem Tz199 : (T 199).zero = [Go.Value.nilFunc] := rfl
@[simp, go_sem] theorem Tk200 : (T 200).kind = .int .u32 := rfl
@[simp, go_sem] theorem Ts200 : (T 200).size = 1 := rfl
@[simp, go_sem] theorem Tb200 : (T 200).bytes = 4 := rfl
@[simp, go_sem] theorem Tz200 : (T 200).zero = [Go.Value.int Go.IntKind.u32 0] := rfl
@[simp, go_sem] theorem Tk202 : (T 202).kind = .other := rfl
@[simp, go_sem] theorem Ts202 : (T 202).size = 1 := rfl
@[simp, go_sem] theorem Tb202 : (T 202).bytes = 8 := rfl
@[simp, go_sem] theorem Tz202 : (T 202).zero = [Go.Value.nilFunc] := rfl
@[simp, go_sem] theorem Tk203 : (T 203).kind = .int .u64 := rfl
@[simp, go_sem] theorem Ts203 : (T 203).size = 1 := rfl
@[simp, go_sem] theorem Tb203 : (T 203).bytes = 8 := rfl
@[simp, go_sem] theorem Tz203 : (T 203).zero = [Go.Value.int Go.IntKind.u64 0] := rfl
@[simp, go_sem] theorem Tk205 : (T 205).kind = .other := rfl
@[simp, go_sem] theorem Ts205 : (T 205).size = 1 := rfl
@[simp, go_sem] theorem Tb205 : (T 205).bytes = 8 := rfl
@[simp, go_sem] theorem Tz205 : (T 205).zero = [Go.Value.nilFunc] := rfl
@[simp, go_sem] theorem Tk206 : (T 206).kind = .other := rfl
@[simp, go_sem] theorem Ts206 : (T 206).size = 1 := rfl
@[simp, go_sem] theorem Tb206 : (T 206).bytes = 8 := rfl
@[simp, go_sem] theorem Tz206 : (T 206).zero = [Go.Value.nilFunc] := rfl
@[simp, go_sem] theorem Tk207 : (T 207).kind = .struct [(0, 17), (1, 17), (2, 17), (3, 9)] := rfl
@[simp, go_sem] theorem Ts207 : (T 207).size = 4 := rfl
@[simp, go_sem] theorem Tb207 : (T 207).bytes = 40 := rfl
@[simp, go_sem] theorem Tz207 : (T 207).zero = [Go.Value.pointer none, Go.Value.pointer none, Go.Value.pointer none, Go.Value.string { data := #[] }] := rfl
@[simp, go_sem] theorem Tk208 : (T 208).kind = .struct [(0, 17), (1, 17), (2, 17), (3, 9)] := rfl
@[simp, go_sem] theorem Ts208 : (T 208).size = 4 := rfl
@[simp, go_sem] theorem Tb208 : (T 208).bytes = 40 := rfl
@[simp, go_sem] theorem Tz208 : (T 208).zero = [Go.Value.pointer none, Go.Value.pointer none, Go.Value.pointer none, Go.Value.string { data := #[] }] := rfl
@[simp, go_sem] theorem Tk210 : (T 210).kind = .struct [(0, 209)] := rfl
@[simp, go_sem] theorem Ts210 : (T 210).size = 0 := rfl
@[simp, go_sem] theorem Tb210 : (T 210).bytes = 0 := rfl
@[simp, go_sem] theorem Tz210 : (T 210).zero = [] := rfl
@[simp, go_sem] theorem Tk211 : (T 211).kind = .struct [(0, 209)] := rfl
@[simp, go_sem] theorem Ts211 : (T 211).size = 0 := rfl
@[simp, go_sem] theorem Tb211 : (T 211).bytes = 0 := rfl
@[simp, go_sem] theorem Tz211 : (T 211).zero = [] := rfl
@[simp, go_sem] theorem Tk212 : (T 212).kind = .other := rfl
@[simp, go_sem] theorem Ts212 : (T 212).size = 1 := rfl
@[simp, go_sem] theorem Tb212 : (T 212).bytes = 8 := rfl
@[simp, go_sem] theorem Tz212 : (T 212).zero = [Go.Value.nilFunc] := rfl
@[simp, go_sem] theorem Tk213 : (T 213).kind = .int .u8 := rfl
@[simp, go_sem] theorem Ts213 : (T 213).size = 1 := rfl
@[simp, go_sem] theorem Tb213 : (T 213).bytes = 1 := rfl
@[simp, go_sem] theorem Tz213 : (T 213).zero = [Go.Value.int Go.IntKind.u8 0] := rfl
@[simp, go_sem] theorem Tk214 : (T 214).kind = .int .u8 := rfl
@[simp, go_sem] theorem Ts214 : (T 214).size = 1 := rfl
@[simp, go_sem] theorem Tb214 : (T 214).bytes = 1 := rfl
@[simp, go_sem] theorem Tz214 : (T 214).zero = [Go.Value.int Go.IntKind.u8 0] := rfl
@[simp, go_sem] theorem Tk215 : (T 215).kind = .other := rfl
@[simp, go_sem] theorem Ts215 : (T 215).size = 1 := rfl
@[simp, go_sem] theorem Tb215 : (T 215).bytes = 8 := rfl
@[simp, go_sem] theorem Tz215 : (T 215).zero = [Go.Value.nilFunc] := rfl
@[simp, go_sem] theorem Tk216 : (T 216).kind = .other := rfl
@[simp, go_sem] theorem Ts216 : (T 216).size = 1 := rfl
@[simp, go_sem] theorem Tb216 : (T 216).bytes = 8 := rfl
@[simp, go_sem] theorem Tz216 : (T 216).zero = [Go.Value.pointer none] := rfl
@[simp, go_sem] theorem Tk217 : (T 217).kind = .int .i32 := rfl
@[simp, go_sem] theorem Ts217 : (T 217).size = 1 := rfl
@[simp, go_sem] theorem Tb217 : (T 217).bytes = 4 := rfl
@[simp, go_sem] theorem Tz217 : (T 217).zero = [Go.Value.int Go.IntKind.i32 0] := rfl
@[simp, go_sem] theorem Tk218 : (T 218).kind = .int .i32 := rfl
@[simp, go_sem] theorem Ts218 : (T 218).size = 1 := rfl
@[simp, go_sem] theorem Tb218 : (T 218).bytes = 4 := rfl
@[simp, go_sem] theorem Tz218 : (T 218).zero = [Go.Value.int Go.IntKind.i32 0] := rfl
@[simp, go_sem] theorem Tk219 : (T 219).kind = .struct [(0, 12), (1, 12), (2, 200), (3, 213), (4, 5), (5, 5), (6, 214), (7, 215), (8, 216), (9, 217), (10, 218)] := rfl
@[simp, go_sem] theorem Ts219 : (T 219).size = 11 := rfl
@[simp, go_sem] theorem Tb219 : (T 219).bytes = 48 := rfl
@[simp, go_sem] theorem Tz219 : (T 219).zero = [Go.Value.int Go.IntKind.u64 0, Go.Value.int Go.IntKind.u64 0, Go.Value.int Go.IntKind.u32 0, Go.Value.int Go.IntKind.u8 0, Go.Value.int Go.IntKind.u8 0, Go.Value.int Go.IntKind.u8 0, Go.Value.int Go.IntKind.u8 0, Go.Value.nilFunc, Go.Value.pointer none, Go.Value.int Go.IntKind.i32 0, Go.Value.int Go.IntKind.i32 0] := rfl
@[simp, go_sem] theorem Tk220 : (T 220).kind = .struct [(0, 12), (1, 12), (2, 200), (3, 213), (4, 5), (5, 5), (6, 214), (7, 215), (8, 216), (9, 217), (10, 218)] := rfl
@[simp, go_sem] theorem Ts220 : (T 220).size = 11 := rfl
@[simp, go_sem] theorem Tb220 : (T 220).bytes = 48 := rfl
@[simp, go_sem] theorem Tz220 : (T 220).zero = [Go.Value.int Go.IntKind.u64 0, Go.Value.int Go.IntKind.u64 0, Go.Value.int Go.IntKind.u32 0, Go.Value.int Go.IntKind.u8 0, Go.Value.int Go.IntKind.u8 0, Go.Value.int Go.IntKind.u8 0, Go.Value.int Go.IntKind.u8 0, Go.Value.nilFunc, Go.Value.pointer none, Go.Value.int Go.IntKind.i32 0, Go.Value.int Go.IntKind.i32 0] := rfl
@[simp, go_sem] theorem Tk221 : (T 221).kind = .other := rfl
@[simp, go_sem] theorem Ts221 : (T 221).size = 1 := rfl
@[simp, go_sem] theorem Tb221 : (T 221).bytes = 8 := rfl
@[simp, go_sem] theorem Tz221 : (T 221).zero = [Go.Value.nilFunc] := rfl
@[simp, go_sem] theorem Tk222 : (T 222).kind = .other := rfl
@[simp, go_sem] theorem Ts222 : (T 222).size = 1 := rfl
@[simp, go_sem] theorem Tb222 : (T 222).bytes = 8 := rfl
@[simp, go_sem] theorem Tz222 : (T 222).zero = [Go.Value.pointer none] := rfl
end

end Go.Proofs.YtgmiaokdnpaglaaV
