/-
  THE PRINTED FUNCTIONS ARE THE PROGRAM's.
-/
import Derived.Test.YtfdaiidepcbemaaDoorA23
import Derived.Test.YtfdaiidepcbemaaDoorA24
import Derived.Test.YtfdaiidepcbemaaDoorA25
import Derived.Test.YtfdaiidepcbemaaDoorRows
section
namespace Go.Proofs.YtfdaiidepcbemaaDoor
open Go Go.Av Go.Av.Pr
set_option maxRecDepth 100000
theorem mixed : Tryd.prog.follows .mixedOrders = true := by kernel_rfl
theorem is2 : FnIs Tryd.prog gv false 2 F2 := ⟨Tryd.f2, _, Tryd.func2, rfl, by kernel_rfl, by kernel_rfl, by kernel_rfl, by kernel_rfl⟩
theorem is3 : FnIs Tryd.prog gv false 3 F3 := ⟨Tryd.f3, _, Tryd.func3, rfl, by kernel_rfl, by kernel_rfl, by kernel_rfl, by kernel_rfl⟩
theorem is4 : FnIs Tryd.prog gv false 4 F4 := ⟨Tryd.f4, _, Tryd.func4, rfl, by kernel_rfl, by kernel_rfl, by kernel_rfl, by kernel_rfl⟩
theorem is5 : FnIs Tryd.prog gv false 5 F5 := ⟨Tryd.f5, _, Tryd.func5, rfl, by kernel_rfl, by kernel_rfl, by kernel_rfl, by kernel_rfl⟩
theorem is6 : FnIs Tryd.prog gv false 6 F6 := ⟨Tryd.f6, _, Tryd.func6, rfl, by kernel_rfl, by kernel_rfl, by kernel_rfl, by kernel_rfl⟩
theorem is7 : FnIs Tryd.prog gv false 7 F7 := ⟨Tryd.f7, _, Tryd.func7, rfl, by kernel_rfl, by kernel_rfl, by kernel_rfl, by kernel_rfl⟩
theorem is8 : FnIs Tryd.prog gv false 8 F8 := ⟨Tryd.f8, _, Tryd.func8, rfl, by kernel_rfl, by kernel_rfl, by kernel_rfl, by kernel_rfl⟩
theorem is9 : FnIs Tryd.prog gv false 9 F9 := ⟨Tryd.f9, _, Tryd.func9, rfl, by kernel_rfl, by kernel_rfl, by kernel_rfl, by kernel_rfl⟩
theorem is10 : FnIs Tryd.prog gv false 10 F10 := ⟨Tryd.f10, _, Tryd.func10, rfl, by kernel_rfl, by kernel_rfl, by kernel_rfl, by kernel_rfl⟩
theorem is11 : FnIs Tryd.prog gv false 11 F11 := ⟨Tryd.f11, _, Tryd.func11, rfl, by kernel_rfl, by kernel_rfl, by kernel_rfl, by kernel_rfl⟩
theorem is12 : FnIs Tryd.prog gv false 12 F12 := ⟨Tryd.f12, _, Tryd.func12, rfl, by kernel_rfl, by kernel_rfl, by kernel_rfl, by kernel_rfl⟩
theorem is13 : FnIs Tryd.prog gv false 13 F13 := ⟨Tryd.f13, _, Tryd.func13, rfl, by kernel_rfl, by kernel_rfl, by kernel_rfl, by kernel_rfl⟩
theorem is14 : FnIs Tryd.prog gv false 14 F14 := ⟨Tryd.f14, _, Tryd.func14, rfl, by kernel_rfl, by kernel_rfl, by kernel_rfl, by kernel_rfl⟩
theorem is15 : FnIs Tryd.prog gv false 15 F15 := ⟨Tryd.f15, _, Tryd.func15, rfl, by kernel_rfl, by kernel_rfl, by kernel_rfl, by kernel_rfl⟩
theorem is16 : FnIs Tryd.prog gv false 16 F16 := ⟨Tryd.f16, _, Tryd.func16, rfl, by kernel_rfl, by kernel_rfl, by kernel_rfl, by kernel_rfl⟩
theorem is17 : FnIs Tryd.prog gv false 17 F17 := ⟨Tryd.f17, _, Tryd.func17, rfl, by kernel_rfl, by kernel_rfl, by kernel_rfl, by kernel_rfl⟩
theorem is18 : FnIs Tryd.prog gv false 18 F18 := ⟨Tryd.f18, _, Tryd.func18, rfl, by kernel_rfl, by kernel_rfl, by kernel_rfl, by kernel_rfl⟩
theorem is19 : FnIs Tryd.prog gv false 19 F19 := ⟨Tryd.f19, _, Tryd.func19, rfl, by kernel_rfl, by kernel_rfl, by kernel_rfl, by kernel_rfl⟩
theorem is20 : FnIs Tryd.prog gv false 20 F20 := ⟨Tryd.f20, _, Tryd.func20, rfl, by kernel_rfl, by kernel_rfl, by kernel_rfl, by kernel_rfl⟩
theorem is21 : FnIs Tryd.prog gv false 21 F21 := ⟨Tryd.f21, _, Tryd.func21, rfl, by kernel_rfl, by kernel_rfl, by kernel_rfl, by kernel_rfl⟩
theorem is22 : FnIs Tryd.prog gv false 22 F22 := ⟨Tryd.f22, _, Tryd.func22, rfl, by kernel_rfl, by kernel_rfl, by kernel_rfl, by kernel_rfl⟩
theorem is23 : FnIs Tryd.prog gv false 23 F23 := ⟨Tryd.f23, _, Tryd.func23, rfl, by kernel_rfl, by kernel_rfl, by kernel_rfl, by kernel_rfl⟩
theorem is24 : FnIs Tryd.prog gv false 24 F24 := ⟨Tryd.f24, _, Tryd.func24, rfl, by kernel_rfl, by kernel_rfl, by kernel_rfl, by kernel_rfl⟩
theorem is25 : FnIs Tryd.prog gv false 25 F25 := ⟨Tryd.f25, _, Tryd.func25, rfl, by kernel_rfl, by kernel_rfl, by kernel_rfl, by kernel_rfl⟩
theorem is26 : FnIs Tryd.prog gv false 26 F26 := ⟨Tryd.f26, _, Tryd.func26, rfl, by kernel_rfl, by kernel_rfl, by kernel_rfl, by kernel_rfl⟩
theorem is27 : FnIs Tryd.prog gv false 27 F27 := ⟨Tryd.f27, _, Tryd.func27, rfl, by kernel_rfl, by kernel_rfl, by kernel_rfl, by kernel_rfl⟩
theorem is29 : FnIs Tryd.prog gv false 29 F29 := ⟨Tryd.f29, _, Tryd.func29, rfl, by kernel_rfl, by kernel_rfl, by kernel_rfl, by kernel_rfl⟩
theorem is30 : FnIs Tryd.prog gv false 30 F30 := ⟨Tryd.f30, _, Tryd.func30, rfl, by kernel_rfl, by kernel_rfl, by kernel_rfl, by kernel_rfl⟩
theorem is31 : FnIs Tryd.prog gv false 31 F31 := ⟨Tryd.f31, _, Tryd.func31, rfl, by kernel_rfl, by kernel_rfl, by kernel_rfl, by kernel_rfl⟩
theorem is32 : FnIs Tryd.prog gv false 32 F32 := ⟨Tryd.f32, _, Tryd.func32, rfl, by kernel_rfl, by kernel_rfl, by kernel_rfl, by kernel_rfl⟩
theorem is33 : FnIs Tryd.prog gv false 33 F33 := ⟨Tryd.f33, _, Tryd.func33, rfl, by kernel_rfl, by kernel_rfl, by kernel_rfl, by kernel_rfl⟩
theorem is34 : FnIs Tryd.prog gv false 34 F34 := ⟨Tryd.f34, _, Tryd.func34, rfl, by kernel_rfl, by kernel_rfl, by kernel_rfl, by kernel_rfl⟩
theorem is35 : FnIs Tryd.prog gv false 35 F35 := ⟨Tryd.f35, _, Tryd.func35, rfl, by kernel_rfl, by kernel_rfl, by kernel_rfl, by kernel_rfl⟩
theorem is36 : FnIs Tryd.prog gv false 36 F36 := ⟨Tryd.f36, _, Tryd.func36, rfl, by kernel_rfl, by kernel_rfl, by kernel_rfl, by kernel_rfl⟩
theorem is37 : FnIs Tryd.prog gv false 37 F37 := ⟨Tryd.f37, _, Tryd.func37, rfl, by kernel_rfl, by kernel_rfl, by kernel_rfl, by kernel_rfl⟩
theorem is38 : FnIs Tryd.prog gv false 38 F38 := ⟨Tryd.f38, _, Tryd.func38, rfl, by kernel_rfl, by kernel_rfl, by kernel_rfl, by kernel_rfl⟩
theorem is39 : FnIs Tryd.prog gv false 39 F39 := ⟨Tryd.f39, _, Tryd.func39, rfl, by kernel_rfl, by kernel_rfl, by kernel_rfl, by kernel_rfl⟩
theorem is40 : FnIs Tryd.prog gv false 40 F40 := ⟨Tryd.f40, _, Tryd.func40, rfl, by kernel_rfl, by kernel_rfl, by kernel_rfl, by kernel_rfl⟩
theorem is41 : FnIs Tryd.prog gv false 41 F41 := ⟨Tryd.f41, _, Tryd.func41, rfl, by kernel_rfl, by kernel_rfl, by kernel_rfl, by kernel_rfl⟩
theorem is42 : FnIs Tryd.prog gv false 42 F42 := ⟨Tryd.f42, _, Tryd.func42, rfl, by kernel_rfl, by kernel_rfl, by kernel_rfl, by kernel_rfl⟩
theorem is43 : FnIs Tryd.prog gv false 43 F43 := ⟨Tryd.f43, _, Tryd.func43, rfl, by kernel_rfl, by kernel_rfl, by kernel_rfl, by kernel_rfl⟩
theorem is44 : FnIs Tryd.prog gv false 44 F44 := ⟨Tryd.f44, _, Tryd.func44, rfl, by kernel_rfl, by kernel_rfl, by kernel_rfl, by kernel_rfl⟩
theorem is45 : FnIs Tryd.prog gv false 45 F45 := ⟨Tryd.f45, _, Tryd.func45, rfl, by kernel_rfl, by kernel_rfl, by kernel_rfl, by kernel_rfl⟩
theorem is46 : FnIs Tryd.prog gv false 46 F46 := ⟨Tryd.f46, _, Tryd.func46, rfl, by kernel_rfl, by kernel_rfl, by kernel_rfl, by kernel_rfl⟩
theorem is47 : FnIs Tryd.prog gv false 47 F47 := ⟨Tryd.f47, _, Tryd.func47, rfl, by kernel_rfl, by kernel_rfl, by kernel_rfl, by kernel_rfl⟩
theorem is48 : FnIs Tryd.prog gv false 48 F48 := ⟨Tryd.f48, _, Tryd.func48, rfl, by kernel_rfl, by kernel_rfl, by kernel_rfl, by kernel_rfl⟩
theorem is49 : FnIs Tryd.prog gv false 49 F49 := ⟨Tryd.f49, _, Tryd.func49, rfl, by kernel_rfl, by kernel_rfl, by kernel_rfl, by kernel_rfl⟩
theorem is50 : FnIs Tryd.prog gv false 50 F50 := ⟨Tryd.f50, _, Tryd.func50, rfl, by kernel_rfl, by kernel_rfl, by kernel_rfl, by kernel_rfl⟩
theorem is51 : FnIs Tryd.prog gv false 51 F51 := ⟨Tryd.f51, _, Tryd.func51, rfl, by kernel_rfl, by kernel_rfl, by kernel_rfl, by kernel_rfl⟩
theorem is52 : FnIs Tryd.prog gv false 52 F52 := ⟨Tryd.f52, _, Tryd.func52, rfl, by kernel_rfl, by kernel_rfl, by kernel_rfl, by kernel_rfl⟩
theorem is53 : FnIs Tryd.prog gv false 53 F53 := ⟨Tryd.f53, _, Tryd.func53, rfl, by kernel_rfl, by kernel_rfl, by kernel_rfl, by kernel_rfl⟩
theorem is54 : FnIs Tryd.prog gv false 54 F54 := ⟨Tryd.f54, _, Tryd.func54, rfl, by kernel_rfl, by kernel_rfl, by kernel_rfl, by kernel_rfl⟩
theorem is55 : FnIs Tryd.prog gv false 55 F55 := ⟨Tryd.f55, _, Tryd.func55, rfl, by kernel_rfl, by kernel_rfl, by kernel_rfl, by kernel_rfl⟩
theorem is56 : FnIs Tryd.prog gv false 56 F56 := ⟨Tryd.f56, _, Tryd.func56, rfl, by kernel_rfl, by kernel_rfl, by kernel_rfl, by kernel_rfl⟩
theorem is57 : FnIs Tryd.prog gv false 57 F57 := ⟨Tryd.f57, _, Tryd.func57, rfl, by kernel_rfl, by kernel_rfl, by kernel_rfl, by kernel_rfl⟩
theorem is58 : FnIs Tryd.prog gv false 58 F58 := ⟨Tryd.f58, _, Tryd.func58, rfl, by kernel_rfl, by kernel_rfl, by kernel_rfl, by kernel_rfl⟩
theorem is59 : FnIs Tryd.prog gv false 59 F59 := ⟨Tryd.f59, _, Tryd.func59, rfl, by kernel_rfl, by kernel_rfl, by kernel_rfl, by kernel_rfl⟩
theorem is60 : FnIs Tryd.prog gv false 60 F60 := ⟨Tryd.f60, _, Tryd.func60, rfl, by kernel_rfl, by kernel_rfl, by kernel_rfl, by kernel_rfl⟩
theorem is61 : FnIs Tryd.prog gv false 61 F61 := ⟨Tryd.f61, _, Tryd.func61, rfl, by kernel_rfl, by kernel_rfl, by kernel_rfl, by kernel_rfl⟩
theorem is62 : FnIs Tryd.prog gv false 62 F62 := ⟨Tryd.f62, _, Tryd.func62, rfl, by kernel_rfl, by kernel_rfl, by kernel_rfl, by kernel_rfl⟩
theorem is63 : FnIs Tryd.prog gv false 63 F63 := ⟨Tryd.f63, _, Tryd.func63, rfl, by kernel_rfl, by kernel_rfl, by kernel_rfl, by kernel_rfl⟩
theorem is64 : FnIs Tryd.prog gv false 64 F64 := ⟨Tryd.f64, _, Tryd.func64, rfl, by kernel_rfl, by kernel_rfl, by kernel_rfl, by kernel_rfl⟩
theorem is65 : FnIs Tryd.prog gv false 65 F65 := ⟨Tryd.f65, _, Tryd.func65, rfl, by kernel_rfl, by kernel_rfl, by kernel_rfl, by kernel_rfl⟩
theorem is66 : FnIs Tryd.prog gv false 66 F66 := ⟨Tryd.f66, _, Tryd.func66, rfl, by kernel_rfl, by kernel_rfl, by kernel_rfl, by kernel_rfl⟩
theorem is67 : FnIs Tryd.prog gv false 67 F67 := ⟨Tryd.f67, _, Tryd.func67, rfl, by kernel_rfl, by kernel_rfl, by kernel_rfl, by kernel_rfl⟩
theorem is68 : FnIs Tryd.prog gv false 68 F68 := ⟨Tryd.f68, _, Tryd.func68, rfl, by kernel_rfl, by kernel_rfl, by kernel_rfl, by kernel_rfl⟩
theorem is69 : FnIs Tryd.prog gv false 69 F69 := ⟨Tryd.f69, _, Tryd.func69, rfl, by kernel_rfl, by kernel_rfl, by kernel_rfl, by kernel_rfl⟩
theorem is70 : FnIs Tryd.prog gv false 70 F70 := ⟨Tryd.f70, _, Tryd.func70, rfl, by kernel_rfl, by kernel_rfl, by kernel_rfl, by kernel_rfl⟩
theorem is71 : FnIs Tryd.prog gv false 71 F71 := ⟨Tryd.f71, _, Tryd.func71, rfl, by kernel_rfl, by kernel_rfl, by kernel_rfl, by kernel_rfl⟩
theorem is72 : FnIs Tryd.prog gv false 72 F72 := ⟨Tryd.f72, _, Tryd.func72, rfl, by kernel_rfl, by kernel_rfl, by kernel_rfl, by kernel_rfl⟩
theorem is73 : FnIs Tryd.prog gv false 73 F73 := ⟨Tryd.f73, _, Tryd.func73, rfl, by kernel_rfl, by kernel_rfl, by kernel_rfl, by kernel_rfl⟩
theorem is74 : FnIs Tryd.prog gv false 74 F74 := ⟨Tryd.f74, _, Tryd.func74, rfl, by kernel_rfl, by kernel_rfl, by kernel_rfl, by kernel_rfl⟩
theorem is75 : FnIs Tryd.prog gv false 75 F75 := ⟨Tryd.f75, _, Tryd.func75, rfl, by kernel_rfl, by kernel_rfl, by kernel_rfl, by kernel_rfl⟩
theorem is76 : FnIs Tryd.prog gv false 76 F76 := ⟨Tryd.f76, _, Tryd.func76, rfl, by kernel_rfl, by kernel_rfl, by kernel_rfl, by kernel_rfl⟩
theorem is77 : FnIs Tryd.prog gv false 77 F77 := ⟨Tryd.f77, _, Tryd.func77, rfl, by kernel_rfl, by kernel_rfl, by kernel_rfl, by kernel_rfl⟩
theorem is78 : FnIs Tryd.prog gv false 78 F78 := ⟨Tryd.f78, _, Tryd.func78, rfl, by kernel_rfl, by kernel_rfl, by kernel_rfl, by kernel_rfl⟩
theorem is79 : FnIs Tryd.prog gv false 79 F79 := ⟨Tryd.f79, _, Tryd.func79, rfl, by kernel_rfl, by kernel_rfl, by kernel_rfl, by kernel_rfl⟩
theorem is80 : FnIs Tryd.prog gv false 80 F80 := ⟨Tryd.f80, _, Tryd.func80, rfl, by kernel_rfl, by kernel_rfl, by kernel_rfl, by kernel_rfl⟩
theorem is81 : FnIs Tryd.prog gv false 81 F81 := ⟨Tryd.f81, _, Tryd.func81, rfl, by kernel_rfl, by kernel_rfl, by kernel_rfl, by kernel_rfl⟩
theorem is82 : FnIs Tryd.prog gv false 82 F82 := ⟨Tryd.f82, _, Tryd.func82, rfl, by kernel_rfl, by kernel_rfl, by kernel_rfl, by kernel_rfl⟩
theorem is83 : FnIs Tryd.prog gv false 83 F83 := ⟨Tryd.f83, _, Tryd.func83, rfl, by kernel_rfl, by kernel_rfl, by kernel_rfl, by kernel_rfl⟩
theorem is84 : FnIs Tryd.prog gv false 84 F84 := ⟨Tryd.f84, _, Tryd.func84, rfl, by kernel_rfl, by kernel_rfl, by kernel_rfl, by kernel_rfl⟩
theorem is85 : FnIs Tryd.prog gv false 85 F85 := ⟨Tryd.f85, _, Tryd.func85, rfl, by kernel_rfl, by kernel_rfl, by kernel_rfl, by kernel_rfl⟩
theorem is86 : FnIs Tryd.prog gv false 86 F86 := ⟨Tryd.f86, _, Tryd.func86, rfl, by kernel_rfl, by kernel_rfl, by kernel_rfl, by kernel_rfl⟩
theorem is87 : FnIs Tryd.prog gv false 87 F87 := ⟨Tryd.f87, _, Tryd.func87, rfl, by kernel_rfl, by kernel_rfl, by kernel_rfl, by kernel_rfl⟩
theorem is88 : FnIs Tryd.prog gv true 88 F88 := ⟨Tryd.f88, _, Tryd.func88, rfl, by kernel_rfl, by kernel_rfl, by kernel_rfl, by kernel_rfl⟩
theorem is89 : FnIs Tryd.prog gv true 89 F89 := ⟨Tryd.f89, _, Tryd.func89, rfl, by kernel_rfl, by kernel_rfl, by kernel_rfl, by kernel_rfl⟩
theorem is90 : FnIs Tryd.prog gv true 90 F90 := ⟨Tryd.f90, _, Tryd.func90, rfl, by kernel_rfl, by kernel_rfl, by kernel_rfl, by kernel_rfl⟩
theorem is91 : FnIs Tryd.prog gv false 91 F91 := ⟨Tryd.f91, _, Tryd.func91, rfl, by kernel_rfl, by kernel_rfl, by kernel_rfl, by kernel_rfl⟩
theorem is92 : FnIs Tryd.prog gv false 92 F92 := ⟨Tryd.f92, _, Tryd.func92, rfl, by kernel_rfl, by kernel_rfl, by kernel_rfl, by kernel_rfl⟩
theorem is93 : FnIs Tryd.prog gv false 93 F93 := ⟨Tryd.f93, _, Tryd.func93, rfl, by kernel_rfl, by kernel_rfl, by kernel_rfl, by kernel_rfl⟩
theorem is94 : FnIs Tryd.prog gv false 94 F94 := ⟨Tryd.f94, _, Tryd.func94, rfl, by kernel_rfl, by kernel_rfl, by kernel_rfl, by kernel_rfl⟩
theorem is95 : FnIs Tryd.prog gv false 95 F95 := ⟨Tryd.f95, _, Tryd.func95, rfl, by kernel_rfl, by kernel_rfl, by kernel_rfl, by kernel_rfl⟩
theorem is96 : FnIs Tryd.prog gv false 96 F96 := ⟨Tryd.f96, _, Tryd.func96, rfl, by kernel_rfl, by kernel_rfl, by kernel_rfl, by kernel_rfl⟩
theorem is97 : FnIs Tryd.prog gv false 97 F97 := ⟨Tryd.f97, _, Tryd.func97, rfl, by kernel_rfl, by kernel_rfl, by kernel_rfl, by kernel_rfl⟩
theorem is98 : FnIs Tryd.prog gv false 98 F98 := ⟨Tryd.f98, _, Tryd.func98, rfl, by kernel_rfl, by kernel_rfl, by kernel_rfl, by kernel_rfl⟩
theorem is99 : FnIs Tryd.prog gv false 99 F99 := ⟨Tryd.f99, _, Tryd.func99, rfl, by kernel_rfl, by kernel_rfl, by kernel_rfl, by kernel_rfl⟩
theorem is100 : FnIs Tryd.prog gv false 100 F100 := ⟨Tryd.f100, _, Tryd.func100, rfl, by kernel_rfl, by kernel_rfl, by kernel_rfl, by kernel_rfl⟩
theorem is101 : FnIs Tryd.prog gv false 101 F101 := ⟨Tryd.f101, _, Tryd.func101, rfl, by kernel_rfl, by kernel_rfl, by kernel_rfl, by kernel_rfl⟩
theorem is102 : FnIs Tryd.prog gv false 102 F102 := ⟨Tryd.f102, _, Tryd.func102, rfl, by kernel_rfl, by kernel_rfl, by kernel_rfl, by kernel_rfl⟩
theorem is123 : FnIs Tryd.prog gv false 123 F123 := ⟨Tryd.f123, _, Tryd.func123, rfl, by kernel_rfl, by kernel_rfl, by kernel_rfl, by kernel_rfl⟩
theorem isR28 : FnIsR Tryd.prog gv false 28 10 R28.1 R28.2.1 R28.2.2 := ⟨Tryd.f28, _, Tryd.func28, rfl, by kernel_rfl, by kernel_rfl, by kernel_rfl, by kernel_rfl⟩
theorem tabAll : tabT.All (fun f F => ∃ mu, FnIs Tryd.prog gv mu f F) := ⟨⟨⟨⟨⟨⟨⟨_, is2⟩, ⟨⟨_, is3⟩, ⟨_, is4⟩⟩⟩, ⟨⟨_, is5⟩, ⟨⟨_, is6⟩, ⟨_, is7⟩⟩⟩⟩, ⟨⟨⟨_, is8⟩, ⟨⟨_, is9⟩, ⟨_, is10⟩⟩⟩, ⟨⟨_, is11⟩, ⟨⟨_, is12⟩, ⟨_, is13⟩⟩⟩⟩⟩, ⟨⟨⟨⟨_, is14⟩, ⟨⟨_, is15⟩, ⟨_, is16⟩⟩⟩, ⟨⟨_, is17⟩, ⟨⟨_, is18⟩, ⟨_, is19⟩⟩⟩⟩, ⟨⟨⟨_, is20⟩, ⟨⟨_, is21⟩, ⟨_, is22⟩⟩⟩, ⟨⟨⟨_, is23⟩, ⟨_, is24⟩⟩, ⟨⟨_, is25⟩, ⟨_, is26⟩⟩⟩⟩⟩⟩, ⟨⟨⟨⟨⟨_, is27⟩, ⟨⟨_, is29⟩, ⟨_, is30⟩⟩⟩, ⟨⟨_, is31⟩, ⟨⟨_, is32⟩, ⟨_, is33⟩⟩⟩⟩, ⟨⟨⟨_, is34⟩, ⟨⟨_, is35⟩, ⟨_, is36⟩⟩⟩, ⟨⟨_, is37⟩, ⟨⟨_, is38⟩, ⟨_, is39⟩⟩⟩⟩⟩, ⟨⟨⟨⟨_, is40⟩, ⟨⟨_, is41⟩, ⟨_, is42⟩⟩⟩, ⟨⟨_, is43⟩, ⟨⟨_, is44⟩, ⟨_, is45⟩⟩⟩⟩, ⟨⟨⟨_, is46⟩, ⟨⟨_, is47⟩, ⟨_, is48⟩⟩⟩, ⟨⟨⟨_, is49⟩, ⟨_, is50⟩⟩, ⟨⟨_, is51⟩, ⟨_, is52⟩⟩⟩⟩⟩⟩⟩, ⟨⟨⟨⟨⟨⟨_, is53⟩, ⟨⟨_, is54⟩, ⟨_, is55⟩⟩⟩, ⟨⟨_, is56⟩, ⟨⟨_, is57⟩, ⟨_, is58⟩⟩⟩⟩, ⟨⟨⟨_, is59⟩, ⟨⟨_, is60⟩, ⟨_, is61⟩⟩⟩, ⟨⟨_, is62⟩, ⟨⟨_, is63⟩, ⟨_, is64⟩⟩⟩⟩⟩, ⟨⟨⟨⟨_, is65⟩, ⟨⟨_, is66⟩, ⟨_, is67⟩⟩⟩, ⟨⟨_, is68⟩, ⟨⟨_, is69⟩, ⟨_, is70⟩⟩⟩⟩, ⟨⟨⟨_, is71⟩, ⟨⟨_, is72⟩, ⟨_, is73⟩⟩⟩, ⟨⟨⟨_, is74⟩, ⟨_, is75⟩⟩, ⟨⟨_, is76⟩, ⟨_, is77⟩⟩⟩⟩⟩⟩, ⟨⟨⟨⟨⟨_, is78⟩, ⟨⟨_, is79⟩, ⟨_, is80⟩⟩⟩, ⟨⟨_, is81⟩, ⟨⟨_, is82⟩, ⟨_, is83⟩⟩⟩⟩, ⟨⟨⟨_, is84⟩, ⟨⟨_, is85⟩, ⟨_, is86⟩⟩⟩, ⟨⟨⟨_, is87⟩, ⟨_, is88⟩⟩, ⟨⟨_, is89⟩, ⟨_, is90⟩⟩⟩⟩⟩, ⟨⟨⟨⟨_, is91⟩, ⟨⟨_, is92⟩, ⟨_, is93⟩⟩⟩, ⟨⟨_, is94⟩, ⟨⟨_, is95⟩, ⟨_, is96⟩⟩⟩⟩, ⟨⟨⟨_, is97⟩, ⟨⟨_, is98⟩, ⟨_, is99⟩⟩⟩, ⟨⟨⟨_, is100⟩, ⟨_, is101⟩⟩, ⟨⟨_, is102⟩, ⟨_, is123⟩⟩⟩⟩⟩⟩⟩⟩
end Go.Proofs.YtfdaiidepcbemaaDoor
end
