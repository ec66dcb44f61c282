/- One of the texts that this claim stands on. -/
import Derived.Test.YtfahngokbdndmaaGreatDoorEv15
import Derived.Test.YtfahngokbdndmaaGreatDoorProg
import Derived.KernelRfl
import Derived.Test.YtfahngokbdndmaaGreatDoorEv21
set_option maxRecDepth 20000
namespace Go.Ab
open Go.Proofs
def fd (n : String) (t o : Nat) (e : Bool) (p : String) (b : Nat) : Field := ⟨n, t, o, e, "", p, b⟩
def ti3 : TI := ⟨.int (.i64), false, 1, 8, (some [.c (.int .i64 0)]), (some (.c (.int .i64 0))), false, false⟩
def ti4 : TI := ⟨.bool, false, 1, 1, (some [.c (.bool false)]), (some (.c (.bool false))), false, false⟩
def ti5 : TI := ⟨.int (.u8), false, 1, 1, (some [.c (.int .u8 0)]), (some (.c (.int .u8 0))), false, false⟩
def ti9 : TI := ⟨.string, false, 1, 16, (some [.c (.string ⟨#[]⟩)]), (some (.c (.string ⟨#[]⟩))), false, false⟩
def ti20 : TI := ⟨.interface #[], false, 1, 16, (some [.c .nilIface]), (some (.c .nilIface)), false, false⟩
def ti22 : TI := ⟨.array 3 3, true, 3, 24, (some [.c (.int .i64 0), .c (.int .i64 0), .c (.int .i64 0)]), (some (.agg [.c (.int .i64 0), .c (.int .i64 0), .c (.int .i64 0)])), false, false⟩
def ti23 : TI := ⟨.array 3 3, true, 3, 24, (some [.c (.int .i64 0), .c (.int .i64 0), .c (.int .i64 0)]), (some (.agg [.c (.int .i64 0), .c (.int .i64 0), .c (.int .i64 0)])), false, false⟩
def ti25 : TI := ⟨.struct #[fd "Base" 22 0 false "" 0, fd "Size" 22 3 false "" 24], true, 6, 48, (some [.c (.int .i64 0), .c (.int .i64 0), .c (.int .i64 0), .c (.int .i64 0), .c (.int .i64 0), .c (.int .i64 0)]), (some (.agg [.c (.int .i64 0), .c (.int .i64 0), .c (.int .i64 0), .c (.int .i64 0), .c (.int .i64 0), .c (.int .i64 0)])), false, false⟩
def ti26 : TI := ⟨.array 3 4, true, 3, 3, (some [.c (.bool false), .c (.bool false), .c (.bool false)]), (some (.agg [.c (.bool false), .c (.bool false), .c (.bool false)])), false, false⟩
def ti28 : TI := ⟨.struct #[fd "Box" 25 0 false "" 0, fd "Torus" 26 6 false "" 48], true, 9, 56, (some [.c (.int .i64 0), .c (.int .i64 0), .c (.int .i64 0), .c (.int .i64 0), .c (.int .i64 0), .c (.int .i64 0), .c (.bool false), .c (.bool false), .c (.bool false)]), (some (.agg [.c (.int .i64 0), .c (.int .i64 0), .c (.int .i64 0), .c (.int .i64 0), .c (.int .i64 0), .c (.int .i64 0), .c (.bool false), .c (.bool false), .c (.bool false)])), false, false⟩
def ti30 : TI := ⟨.slice 37, false, 1, 24, (some [.c (.slice none 0 0)]), (some (.c (.slice none 0 0))), false, false⟩
def ti32 : TI := ⟨.int (.i64), false, 1, 8, (some [.c (.int .i64 0)]), (some (.c (.int .i64 0))), false, false⟩
def ti37 : TI := ⟨.int (.u64), false, 1, 8, (some [.c (.int .u64 0)]), (some (.c (.int .u64 0))), false, false⟩
def ti41 : TI := ⟨.slice 28, false, 1, 24, (some [.c (.slice none 0 0)]), (some (.c (.slice none 0 0))), false, false⟩
def ti43 : TI := ⟨.func #[28, 28] #[3] false, false, 1, 8, (some [.c .nilFunc]), (some (.c .nilFunc)), false, false⟩
def ti49 : TI := ⟨.struct #[fd "Shape" 22 0 false "" 0, fd "Torus" 26 3 false "" 24, fd "Turn" 4 6 false "" 27], true, 7, 32, (some [.c (.int .i64 0), .c (.int .i64 0), .c (.int .i64 0), .c (.bool false), .c (.bool false), .c (.bool false), .c (.bool false)]), (some (.agg [.c (.int .i64 0), .c (.int .i64 0), .c (.int .i64 0), .c (.bool false), .c (.bool false), .c (.bool false), .c (.bool false)])), false, false⟩
def ti55 : TI := ⟨.map 28 3, false, 1, 8, (some [.c (.map none)]), (some (.c (.map none))), false, false⟩
def ti58 : TI := ⟨.func #[28] #[3] false, false, 1, 8, (some [.c .nilFunc]), (some (.c .nilFunc)), false, false⟩
def ti64 : TI := ⟨.slice 3, false, 1, 24, (some [.c (.slice none 0 0)]), (some (.c (.slice none 0 0))), false, false⟩
def ti73 : TI := ⟨.func #[3, 30, 30] #[30, 32] false, false, 1, 8, (some [.c .nilFunc]), (some (.c .nilFunc)), false, false⟩
def ti77 : TI := ⟨.func #[99] #[] false, false, 1, 8, (some [.c .nilFunc]), (some (.c .nilFunc)), false, false⟩
def ti78 : TI := ⟨.func #[99] #[] false, false, 1, 8, (some [.c .nilFunc]), (some (.c .nilFunc)), false, false⟩
def ti80 : TI := ⟨.func #[3] #[4] false, false, 1, 8, (some [.c .nilFunc]), (some (.c .nilFunc)), false, false⟩
def ti85 : TI := ⟨.func #[28] #[4] false, false, 1, 8, (some [.c .nilFunc]), (some (.c .nilFunc)), false, false⟩
def ti86 : TI := ⟨.slice 30, false, 1, 24, (some [.c (.slice none 0 0)]), (some (.c (.slice none 0 0))), false, false⟩
def ti91 : TI := ⟨.func #[37, 37] #[37] false, false, 1, 8, (some [.c .nilFunc]), (some (.c .nilFunc)), false, false⟩
def ti95 : TI := ⟨.func #[80] #[] false, false, 1, 8, (some [.c .nilFunc]), (some (.c .nilFunc)), false, false⟩
def ti96 : TI := ⟨.func #[80] #[] false, false, 1, 8, (some [.c .nilFunc]), (some (.c .nilFunc)), false, false⟩
def ti99 : TI := ⟨.func #[3, 3] #[4] false, false, 1, 8, (some [.c .nilFunc]), (some (.c .nilFunc)), false, false⟩
def ti102 : TI := ⟨.slice 49, false, 1, 24, (some [.c (.slice none 0 0)]), (some (.c (.slice none 0 0))), false, false⟩
def ti106 : TI := ⟨.func #[85] #[] false, false, 1, 8, (some [.c .nilFunc]), (some (.c .nilFunc)), false, false⟩
def ti107 : TI := ⟨.func #[85] #[] false, false, 1, 8, (some [.c .nilFunc]), (some (.c .nilFunc)), false, false⟩
def ti117 : TI := ⟨.func #[3] #[] false, false, 1, 8, (some [.c .nilFunc]), (some (.c .nilFunc)), false, false⟩
def ti120 : TI := ⟨.int (.u64), false, 1, 8, (some [.c (.int .u64 0)]), (some (.c (.int .u64 0))), false, false⟩
def ti121 : TI := ⟨.array 2 3, true, 2, 16, (some [.c (.int .i64 0), .c (.int .i64 0)]), (some (.agg [.c (.int .i64 0), .c (.int .i64 0)])), false, false⟩
def ti123 : TI := ⟨.map 49 4, false, 1, 8, (some [.c (.map none)]), (some (.c (.map none))), false, false⟩
def ti124 : TI := ⟨.array 6 22, true, 18, 144, (some [.c (.int .i64 0), .c (.int .i64 0), .c (.int .i64 0), .c (.int .i64 0), .c (.int .i64 0), .c (.int .i64 0), .c (.int .i64 0), .c (.int .i64 0), .c (.int .i64 0), .c (.int .i64 0), .c (.int .i64 0), .c (.int .i64 0), .c (.int .i64 0), .c (.int .i64 0), .c (.int .i64 0), .c (.int .i64 0), .c (.int .i64 0), .c (.int .i64 0)]), (some (.agg [.c (.int .i64 0), .c (.int .i64 0), .c (.int .i64 0), .c (.int .i64 0), .c (.int .i64 0), .c (.int .i64 0), .c (.int .i64 0), .c (.int .i64 0), .c (.int .i64 0), .c (.int .i64 0), .c (.int .i64 0), .c (.int .i64 0), .c (.int .i64 0), .c (.int .i64 0), .c (.int .i64 0), .c (.int .i64 0), .c (.int .i64 0), .c (.int .i64 0)])), false, false⟩
def ti127 : TI := ⟨.func #[144] #[] false, false, 1, 8, (some [.c .nilFunc]), (some (.c .nilFunc)), false, false⟩
def ti128 : TI := ⟨.func #[144] #[] false, false, 1, 8, (some [.c .nilFunc]), (some (.c .nilFunc)), false, false⟩
def ti130 : TI := ⟨.func #[49, 49] #[3] false, false, 1, 8, (some [.c .nilFunc]), (some (.c .nilFunc)), false, false⟩
def ti141 : TI := ⟨.array 64 5, true, 64, 64, (some [.c (.int .u8 0), .c (.int .u8 0), .c (.int .u8 0), .c (.int .u8 0), .c (.int .u8 0), .c (.int .u8 0), .c (.int .u8 0), .c (.int .u8 0), .c (.int .u8 0), .c (.int .u8 0), .c (.int .u8 0), .c (.int .u8 0), .c (.int .u8 0), .c (.int .u8 0), .c (.int .u8 0), .c (.int .u8 0), .c (.int .u8 0), .c (.int .u8 0), .c (.int .u8 0), .c (.int .u8 0), .c (.int .u8 0), .c (.int .u8 0), .c (.int .u8 0), .c (.int .u8 0), .c (.int .u8 0), .c (.int .u8 0), .c (.int .u8 0), .c (.int .u8 0), .c (.int .u8 0), .c (.int .u8 0), .c (.int .u8 0), .c (.int .u8 0), .c (.int .u8 0), .c (.int .u8 0), .c (.int .u8 0), .c (.int .u8 0), .c (.int .u8 0), .c (.int .u8 0), .c (.int .u8 0), .c (.int .u8 0), .c (.int .u8 0), .c (.int .u8 0), .c (.int .u8 0), .c (.int .u8 0), .c (.int .u8 0), .c (.int .u8 0), .c (.int .u8 0), .c (.int .u8 0), .c (.int .u8 0), .c (.int .u8 0), .c (.int .u8 0), .c (.int .u8 0), .c (.int .u8 0), .c (.int .u8 0), .c (.int .u8 0), .c (.int .u8 0), .c (.int .u8 0), .c (.int .u8 0), .c (.int .u8 0), .c (.int .u8 0), .c (.int .u8 0), .c (.int .u8 0), .c (.int .u8 0), .c (.int .u8 0)]), (some (.agg [.c (.int .u8 0), .c (.int .u8 0), .c (.int .u8 0), .c (.int .u8 0), .c (.int .u8 0), .c (.int .u8 0), .c (.int .u8 0), .c (.int .u8 0), .c (.int .u8 0), .c (.int .u8 0), .c (.int .u8 0), .c (.int .u8 0), .c (.int .u8 0), .c (.int .u8 0), .c (.int .u8 0), .c (.int .u8 0), .c (.int .u8 0), .c (.int .u8 0), .c (.int .u8 0), .c (.int .u8 0), .c (.int .u8 0), .c (.int .u8 0), .c (.int .u8 0), .c (.int .u8 0), .c (.int .u8 0), .c (.int .u8 0), .c (.int .u8 0), .c (.int .u8 0), .c (.int .u8 0), .c (.int .u8 0), .c (.int .u8 0), .c (.int .u8 0), .c (.int .u8 0), .c (.int .u8 0), .c (.int .u8 0), .c (.int .u8 0), .c (.int .u8 0), .c (.int .u8 0), .c (.int .u8 0), .c (.int .u8 0), .c (.int .u8 0), .c (.int .u8 0), .c (.int .u8 0), .c (.int .u8 0), .c (.int .u8 0), .c (.int .u8 0), .c (.int .u8 0), .c (.int .u8 0), .c (.int .u8 0), .c (.int .u8 0), .c (.int .u8 0), .c (.int .u8 0), .c (.int .u8 0), .c (.int .u8 0), .c (.int .u8 0), .c (.int .u8 0), .c (.int .u8 0), .c (.int .u8 0), .c (.int .u8 0), .c (.int .u8 0), .c (.int .u8 0), .c (.int .u8 0), .c (.int .u8 0), .c (.int .u8 0)])), false, false⟩
def ti144 : TI := ⟨.func #[49] #[4] false, false, 1, 8, (some [.c .nilFunc]), (some (.c .nilFunc)), false, false⟩
def ti146 : TI := ⟨.int (.i64), false, 1, 8, (some [.c (.int .i64 0)]), (some (.c (.int .i64 0))), false, false⟩
def ti153 : TI := ⟨.int (.u32), false, 1, 4, (some [.c (.int .u32 0)]), (some (.c (.int .u32 0))), false, false⟩
def ti158 : TI := ⟨.int (.u64), false, 1, 8, (some [.c (.int .u64 0)]), (some (.c (.int .u64 0))), false, false⟩
def ti162 : TI := ⟨.pointer 3, false, 1, 8, (some [.c (.pointer none)]), (some (.c (.pointer none))), false, false⟩
def ti175 : TI := ⟨.pointer 158, false, 1, 8, (some [.c (.pointer none)]), (some (.c (.pointer none))), false, false⟩
def te : Tr TI := (.nd none (.nd none (.nd (some ti3) (.nd none (.nd none (.nd none (.nd none (.nd (some ti127) .lf .lf) .lf) (.nd (some ti95) .lf .lf)) (.nd none .lf (.nd none (.nd (some ti175) .lf .lf) .lf))) (.nd (some ti23) .lf (.nd (some ti55) .lf .lf))) (.nd none (.nd none (.nd none .lf (.nd (some ti99) .lf .lf)) .lf) (.nd none (.nd (some ti43) .lf (.nd (some ti107) .lf .lf)) (.nd none (.nd (some ti91) .lf .lf) (.nd (some ti123) .lf .lf))))) (.nd (some ti5) (.nd (some ti9) (.nd none .lf (.nd (some ti49) .lf .lf)) (.nd (some ti25) (.nd (some ti41) (.nd (some ti73) .lf .lf) .lf) (.nd none (.nd none (.nd (some ti153) .lf .lf) .lf) (.nd (some ti121) .lf .lf)))) (.nd none (.nd none (.nd (some ti37) .lf .lf) (.nd none (.nd (some ti85) .lf .lf) (.nd (some ti117) .lf .lf))) (.nd none (.nd none (.nd (some ti77) (.nd (some ti141) .lf .lf) .lf) .lf) .lf)))) (.nd none (.nd (some ti4) (.nd none (.nd none (.nd (some ti32) (.nd (some ti64) (.nd (some ti128) .lf .lf) .lf) (.nd (some ti96) .lf .lf)) (.nd none (.nd (some ti80) (.nd (some ti144) .lf .lf) .lf) .lf)) (.nd none .lf (.nd none .lf (.nd (some ti120) .lf .lf)))) (.nd none (.nd (some ti20) .lf .lf) (.nd (some ti28) .lf (.nd none .lf (.nd (some ti124) .lf .lf))))) (.nd none (.nd none (.nd none (.nd none (.nd none (.nd (some ti130) .lf .lf) .lf) (.nd none (.nd (some ti162) .lf .lf) .lf)) (.nd none (.nd none (.nd (some ti146) .lf .lf) .lf) .lf)) (.nd (some ti26) (.nd none .lf (.nd (some ti106) .lf .lf)) (.nd (some ti58) .lf .lf))) (.nd none (.nd (some ti22) (.nd none .lf (.nd (some ti102) .lf .lf)) (.nd none (.nd (some ti86) .lf .lf) .lf)) (.nd (some ti30) (.nd none (.nd (some ti78) .lf .lf) .lf) (.nd none (.nd none (.nd (some ti158) .lf .lf) .lf) .lf))))))
noncomputable def ft : Tr Func := (.nd none (.nd none (.nd (some Tryz.f3) (.nd (some Tryz.f7) (.nd (some Tryz.f15) (.nd (some Tryz.f31) (.nd (some Tryz.f63) (.nd (some Tryz.f127) .lf .lf) .lf) (.nd (some Tryz.f95) .lf .lf)) (.nd (some Tryz.f47) (.nd (some Tryz.f79) .lf .lf) (.nd (some Tryz.f111) .lf .lf))) (.nd (some Tryz.f23) (.nd (some Tryz.f39) (.nd (some Tryz.f71) (.nd (some Tryz.f135) .lf .lf) .lf) (.nd (some Tryz.f103) .lf .lf)) (.nd (some Tryz.f55) (.nd (some Tryz.f87) .lf .lf) (.nd (some Tryz.f119) .lf .lf)))) (.nd (some Tryz.f11) (.nd (some Tryz.f19) (.nd (some Tryz.f35) (.nd (some Tryz.f67) (.nd (some Tryz.f131) .lf .lf) .lf) (.nd (some Tryz.f99) .lf .lf)) (.nd (some Tryz.f51) (.nd (some Tryz.f83) .lf .lf) (.nd (some Tryz.f115) .lf .lf))) (.nd (some Tryz.f27) (.nd (some Tryz.f43) (.nd (some Tryz.f75) .lf .lf) (.nd (some Tryz.f107) .lf .lf)) (.nd (some Tryz.f59) (.nd (some Tryz.f91) .lf .lf) (.nd (some Tryz.f123) .lf .lf))))) (.nd (some Tryz.f5) (.nd (some Tryz.f9) (.nd (some Tryz.f17) (.nd (some Tryz.f33) (.nd (some Tryz.f65) (.nd (some Tryz.f129) .lf .lf) .lf) (.nd (some Tryz.f97) .lf .lf)) (.nd (some Tryz.f49) (.nd (some Tryz.f81) .lf .lf) (.nd (some Tryz.f113) .lf .lf))) (.nd (some Tryz.f25) (.nd (some Tryz.f41) (.nd (some Tryz.f73) .lf .lf) (.nd (some Tryz.f105) .lf .lf)) (.nd (some Tryz.f57) (.nd (some Tryz.f89) .lf .lf) (.nd (some Tryz.f121) .lf .lf)))) (.nd (some Tryz.f13) (.nd (some Tryz.f21) (.nd (some Tryz.f37) (.nd (some Tryz.f69) (.nd (some Tryz.f133) .lf .lf) .lf) (.nd (some Tryz.f101) .lf .lf)) (.nd (some Tryz.f53) (.nd (some Tryz.f85) .lf .lf) (.nd (some Tryz.f117) .lf .lf))) (.nd (some Tryz.f29) (.nd (some Tryz.f45) (.nd (some Tryz.f77) .lf .lf) (.nd (some Tryz.f109) .lf .lf)) (.nd (some Tryz.f61) (.nd (some Tryz.f93) (.nd (some Tryz.f157) .lf .lf) .lf) (.nd (some Tryz.f125) .lf .lf)))))) (.nd (some Tryz.f2) (.nd (some Tryz.f4) (.nd (some Tryz.f8) (.nd (some Tryz.f16) (.nd (some Tryz.f32) (.nd (some Tryz.f64) (.nd (some Tryz.f128) .lf .lf) .lf) (.nd (some Tryz.f96) .lf .lf)) (.nd (some Tryz.f48) (.nd (some Tryz.f80) .lf .lf) (.nd (some Tryz.f112) .lf .lf))) (.nd (some Tryz.f24) (.nd (some Tryz.f40) (.nd (some Tryz.f72) (.nd (some Tryz.f136) .lf .lf) .lf) (.nd (some Tryz.f104) .lf .lf)) (.nd (some Tryz.f56) (.nd (some Tryz.f88) .lf .lf) (.nd (some Tryz.f120) .lf .lf)))) (.nd (some Tryz.f12) (.nd (some Tryz.f20) (.nd (some Tryz.f36) (.nd (some Tryz.f68) (.nd (some Tryz.f132) .lf .lf) .lf) (.nd (some Tryz.f100) .lf .lf)) (.nd (some Tryz.f52) (.nd (some Tryz.f84) .lf .lf) (.nd (some Tryz.f116) .lf .lf))) (.nd (some Tryz.f28) (.nd (some Tryz.f44) (.nd (some Tryz.f76) .lf .lf) (.nd (some Tryz.f108) .lf .lf)) (.nd (some Tryz.f60) (.nd (some Tryz.f92) .lf .lf) (.nd (some Tryz.f124) .lf .lf))))) (.nd (some Tryz.f6) (.nd (some Tryz.f10) (.nd (some Tryz.f18) (.nd (some Tryz.f34) (.nd (some Tryz.f66) (.nd (some Tryz.f130) .lf .lf) .lf) (.nd (some Tryz.f98) .lf .lf)) (.nd (some Tryz.f50) (.nd (some Tryz.f82) .lf .lf) (.nd (some Tryz.f114) .lf .lf))) (.nd (some Tryz.f26) (.nd (some Tryz.f42) (.nd (some Tryz.f74) .lf .lf) (.nd (some Tryz.f106) .lf .lf)) (.nd (some Tryz.f58) (.nd (some Tryz.f90) .lf .lf) (.nd (some Tryz.f122) .lf .lf)))) (.nd (some Tryz.f14) (.nd (some Tryz.f22) (.nd (some Tryz.f38) (.nd (some Tryz.f70) (.nd (some Tryz.f134) .lf .lf) .lf) (.nd (some Tryz.f102) .lf .lf)) (.nd (some Tryz.f54) (.nd (some Tryz.f86) .lf .lf) (.nd (some Tryz.f118) .lf .lf))) (.nd (some Tryz.f30) (.nd (some Tryz.f46) (.nd (some Tryz.f78) .lf .lf) (.nd (some Tryz.f110) .lf .lf)) (.nd (some Tryz.f62) (.nd (some Tryz.f94) .lf .lf) (.nd (some Tryz.f126) .lf .lf)))))))
theorem te_ok : TEok Tryz.prog te := TEok.of (by kernel_rfl) (by kernel_rfl)
theorem ft_ok : FTok Tryz.prog ft := FTok.of (by kernel_rfl) (by kernel_rfl)
end Go.Ab

set_option maxRecDepth 100000
namespace Go.Ab
abbrev GG0 : Gl := Pd.GG
noncomputable def fz0 : Tr Unit := .lf
def im1 (o : Oper) : Bool := match o.op with
  | .call ⟨.value _, _, _⟩ => true
  | _ => false
def im2 : List Oper → Bool
  | [] => false
  | o :: l => match im1 o with
    | true => true
    | false => im2 l
def im0 (ops : Array Oper) : Bool := im2 ops.toList
noncomputable def E0 : XE := ⟨te, GG0, ft, (fun _ _ => none), .lf, fz0, im0, none⟩
end Go.Ab

namespace Go.Ab
theorem gp0 : GPure GG0 := Pd.ggp
theorem mz_ok : ∀ f, E0.mz = some f → MZ Go.Proofs.Tryz.prog f := fun f h => by cases h
end Go.Ab

set_option maxRecDepth 100000
namespace Go.Ab
def sbT : Tr Unit := (.nd none (.nd none (.nd (some ()) (.nd (some ()) (.nd (some ()) (.nd (some ()) (.nd (some ()) .lf .lf) .lf) (.nd none (.nd (some ()) .lf .lf) .lf)) .lf) (.nd (some ()) .lf (.nd (some ()) (.nd (some ()) (.nd (some ()) .lf .lf) .lf) (.nd (some ()) .lf .lf)))) (.nd (some ()) (.nd (some ()) (.nd none (.nd (some ()) .lf .lf) .lf) (.nd (some ()) (.nd (some ()) .lf .lf) .lf)) (.nd (some ()) (.nd (some ()) (.nd none (.nd (some ()) .lf .lf) .lf) .lf) (.nd (some ()) .lf (.nd (some ()) .lf .lf))))) (.nd none (.nd (some ()) (.nd (some ()) (.nd (some ()) (.nd (some ()) (.nd (some ()) .lf .lf) .lf) (.nd (some ()) .lf .lf)) (.nd none (.nd (some ()) (.nd (some ()) .lf .lf) .lf) (.nd none (.nd (some ()) .lf .lf) .lf))) (.nd (some ()) (.nd (some ()) (.nd (some ()) (.nd (some ()) .lf .lf) .lf) (.nd (some ()) .lf .lf)) (.nd (some ()) .lf (.nd (some ()) .lf .lf)))) (.nd (some ()) (.nd none (.nd (some ()) .lf (.nd (some ()) (.nd (some ()) .lf .lf) .lf)) (.nd none (.nd (some ()) (.nd (some ()) .lf .lf) .lf) (.nd (some ()) .lf .lf))) (.nd (some ()) (.nd none (.nd none .lf (.nd (some ()) .lf .lf)) .lf) (.nd (some ()) (.nd (some ()) .lf .lf) .lf)))))
noncomputable def E1 : XE := { E0 with sb := sbT }
end Go.Ab

set_option maxRecDepth 100000
namespace Go.Ab
def aI (n : Nat) : AV := .c (.int .i64 (.ofNat n))
def aU (n : Nat) : AV := .c (.int .u64 (.ofNat n))
def aT : AV := .c (.bool true)
def aF : AV := .c (.bool false)
theorem ex_ok {t : TbT} (rows : List TRow) (hc : chkT t rows = true) (hr : AllR Go.Proofs.Tryz.prog GG0 rows) : EOk Go.Proofs.Tryz.prog { E1 with tb := tbT t } :=
  ⟨by kernel_rfl, te_ok, ft_ok, gp0, tbT_ok hc hr, mz_ok⟩
def Alia38 : List AV := [(.agg [(aI 4), (aI 1), (aI 1)]), (.agg [(aI 0), (aI 0), (aI 0), (aI 1), (aI 1), (aI 1), aF, aF, aF])]
def Aliv38 : AV := (.tup [(.isl [(aI 0)]), (.c (.slice .none 0 0))])
def Alia41 : List AV := [(.agg [(aI 4), (aI 1), (aI 1)]), (.agg [(aI 0), (aI 0), (aI 0), (aI 1), (aI 1), (aI 1), aF, aF, aF])]
def Aliv41 : AV := (.tup [(.isl [(aU 1)]), (.isl [(aU 0)]), (aI 0)])
def Alia51 : List AV := [(.agg [(aI 4), (aI 1), (aI 1)]), (.agg [(aI 1), (aI 0), (aI 0), (aI 1), (aI 1), (aI 1), aF, aF, aF])]
def Aliv51 : AV := (.tup [(.isl [(aI 1)]), (.c (.slice .none 0 0))])
def Alia53 : List AV := [(.agg [(aI 4), (aI 1), (aI 1)]), (.agg [(aI 1), (aI 0), (aI 0), (aI 1), (aI 1), (aI 1), aF, aF, aF])]
def Aliv53 : AV := (.tup [(.isl [(aU 2)]), (.isl [(aU 0)]), (aI 0)])
def Alia62 : List AV := [(.agg [(aI 4), (aI 1), (aI 1)]), (.agg [(aI 2), (aI 0), (aI 0), (aI 1), (aI 1), (aI 1), aF, aF, aF])]
def Aliv62 : AV := (.tup [(.isl [(aI 2)]), (.c (.slice .none 0 0))])
def Alia64 : List AV := [(.agg [(aI 4), (aI 1), (aI 1)]), (.agg [(aI 2), (aI 0), (aI 0), (aI 1), (aI 1), (aI 1), aF, aF, aF])]
def Aliv64 : AV := (.tup [(.isl [(aU 4)]), (.isl [(aU 0)]), (aI 0)])
def Alia73 : List AV := [(.agg [(aI 4), (aI 1), (aI 1)]), (.agg [(aI 3), (aI 0), (aI 0), (aI 1), (aI 1), (aI 1), aF, aF, aF])]
def Aliv73 : AV := (.tup [(.isl [(aI 3)]), (.c (.slice .none 0 0))])
def Alia75 : List AV := [(.agg [(aI 4), (aI 1), (aI 1)]), (.agg [(aI 3), (aI 0), (aI 0), (aI 1), (aI 1), (aI 1), aF, aF, aF])]
def Aliv75 : AV := (.tup [(.isl [(aU 8)]), (.isl [(aU 0)]), (aI 0)])
def Alia91 : List AV := [(aU 0), (aI 0)]
def Aliv91 : AV := aT
def Alia92 : List AV := [(aU 1), (aI 1)]
def Aliv92 : AV := aT
def Alia93 : List AV := [(aU 5), (aI 1)]
def Aliv93 : AV := aT
def Alia94 : List AV := [(aU 3), (aI 2)]
def Aliv94 : AV := aT
def Alia95 : List AV := []
def Aliv95 : AV := aT
end Go.Ab

set_option maxRecDepth 1000000
namespace Go.Ab
def Alit38 : TbT := .lf
theorem Alip38 : Pur Go.Proofs.Tryz.prog GG0 41 Alia38 Aliv38 :=
  chk_run (E := { E1 with tb := tbT Alit38 }) (fuel := 400000) (ex_ok [] (by kernel_rfl) trivial) (by kernel_rfl)
def Alit41 : TbT := (.nd none (.nd none .lf (.nd none (.nd none .lf (.nd none (.nd (some [(Alia38, Aliv38)]) .lf .lf) .lf)) .lf)) .lf)
theorem Alip41 : Pur Go.Proofs.Tryz.prog GG0 29 Alia41 Aliv41 :=
  chk_run (E := { E1 with tb := tbT Alit41 }) (fuel := 400000) (ex_ok [⟨41, Alia38, Aliv38⟩] (by kernel_rfl) ⟨Alip38, trivial⟩) (by kernel_rfl)
def Alit51 : TbT := .lf
theorem Alip51 : Pur Go.Proofs.Tryz.prog GG0 41 Alia51 Aliv51 :=
  chk_run (E := { E1 with tb := tbT Alit51 }) (fuel := 400000) (ex_ok [] (by kernel_rfl) trivial) (by kernel_rfl)
def Alit53 : TbT := (.nd none (.nd none .lf (.nd none (.nd none .lf (.nd none (.nd (some [(Alia51, Aliv51)]) .lf .lf) .lf)) .lf)) .lf)
theorem Alip53 : Pur Go.Proofs.Tryz.prog GG0 29 Alia53 Aliv53 :=
  chk_run (E := { E1 with tb := tbT Alit53 }) (fuel := 400000) (ex_ok [⟨41, Alia51, Aliv51⟩] (by kernel_rfl) ⟨Alip51, trivial⟩) (by kernel_rfl)
def Alit62 : TbT := .lf
theorem Alip62 : Pur Go.Proofs.Tryz.prog GG0 41 Alia62 Aliv62 :=
  chk_run (E := { E1 with tb := tbT Alit62 }) (fuel := 400000) (ex_ok [] (by kernel_rfl) trivial) (by kernel_rfl)
def Alit64 : TbT := (.nd none (.nd none .lf (.nd none (.nd none .lf (.nd none (.nd (some [(Alia62, Aliv62)]) .lf .lf) .lf)) .lf)) .lf)
theorem Alip64 : Pur Go.Proofs.Tryz.prog GG0 29 Alia64 Aliv64 :=
  chk_run (E := { E1 with tb := tbT Alit64 }) (fuel := 400000) (ex_ok [⟨41, Alia62, Aliv62⟩] (by kernel_rfl) ⟨Alip62, trivial⟩) (by kernel_rfl)
def Alit73 : TbT := .lf
theorem Alip73 : Pur Go.Proofs.Tryz.prog GG0 41 Alia73 Aliv73 :=
  chk_run (E := { E1 with tb := tbT Alit73 }) (fuel := 400000) (ex_ok [] (by kernel_rfl) trivial) (by kernel_rfl)
def Alit75 : TbT := (.nd none (.nd none .lf (.nd none (.nd none .lf (.nd none (.nd (some [(Alia73, Aliv73)]) .lf .lf) .lf)) .lf)) .lf)
theorem Alip75 : Pur Go.Proofs.Tryz.prog GG0 29 Alia75 Aliv75 :=
  chk_run (E := { E1 with tb := tbT Alit75 }) (fuel := 400000) (ex_ok [⟨41, Alia73, Aliv73⟩] (by kernel_rfl) ⟨Alip73, trivial⟩) (by kernel_rfl)
end Go.Ab

set_option maxRecDepth 1000000
namespace Go.Ab
def Alit91 : TbT := (.nd none (.nd none .lf (.nd none .lf (.nd none .lf (.nd (some [(Alia75, Aliv75), (Alia64, Aliv64), (Alia53, Aliv53), (Alia41, Aliv41)]) .lf .lf)))) .lf)
theorem Alip91 : Pur Go.Proofs.Tryz.prog GG0 6 Alia91 Aliv91 :=
  chk_run (E := { E1 with tb := tbT Alit91 }) (fuel := 400000) (ex_ok [⟨29, Alia75, Aliv75⟩, ⟨29, Alia64, Aliv64⟩, ⟨29, Alia53, Aliv53⟩, ⟨29, Alia41, Aliv41⟩] (by kernel_rfl) ⟨Alip75, ⟨Alip64, ⟨Alip53, ⟨Alip41, trivial⟩⟩⟩⟩) (by kernel_rfl)
end Go.Ab

set_option maxRecDepth 1000000
namespace Go.Ab
def Alit92 : TbT := (.nd none (.nd none .lf (.nd none .lf (.nd none .lf (.nd (some [(Alia75, Aliv75), (Alia64, Aliv64), (Alia53, Aliv53), (Alia41, Aliv41)]) .lf .lf)))) .lf)
theorem Alip92 : Pur Go.Proofs.Tryz.prog GG0 6 Alia92 Aliv92 :=
  chk_run (E := { E1 with tb := tbT Alit92 }) (fuel := 400000) (ex_ok [⟨29, Alia75, Aliv75⟩, ⟨29, Alia64, Aliv64⟩, ⟨29, Alia53, Aliv53⟩, ⟨29, Alia41, Aliv41⟩] (by kernel_rfl) ⟨Alip75, ⟨Alip64, ⟨Alip53, ⟨Alip41, trivial⟩⟩⟩⟩) (by kernel_rfl)
end Go.Ab

set_option maxRecDepth 1000000
namespace Go.Ab
def Alit93 : TbT := (.nd none (.nd none .lf (.nd none .lf (.nd none .lf (.nd (some [(Alia75, Aliv75), (Alia64, Aliv64), (Alia53, Aliv53), (Alia41, Aliv41)]) .lf .lf)))) .lf)
theorem Alip93 : Pur Go.Proofs.Tryz.prog GG0 6 Alia93 Aliv93 :=
  chk_run (E := { E1 with tb := tbT Alit93 }) (fuel := 400000) (ex_ok [⟨29, Alia75, Aliv75⟩, ⟨29, Alia64, Aliv64⟩, ⟨29, Alia53, Aliv53⟩, ⟨29, Alia41, Aliv41⟩] (by kernel_rfl) ⟨Alip75, ⟨Alip64, ⟨Alip53, ⟨Alip41, trivial⟩⟩⟩⟩) (by kernel_rfl)
end Go.Ab

set_option maxRecDepth 1000000
namespace Go.Ab
def Alit94 : TbT := (.nd none (.nd none .lf (.nd none .lf (.nd none .lf (.nd (some [(Alia75, Aliv75), (Alia64, Aliv64), (Alia53, Aliv53), (Alia41, Aliv41)]) .lf .lf)))) .lf)
theorem Alip94 : Pur Go.Proofs.Tryz.prog GG0 6 Alia94 Aliv94 :=
  chk_run (E := { E1 with tb := tbT Alit94 }) (fuel := 400000) (ex_ok [⟨29, Alia75, Aliv75⟩, ⟨29, Alia64, Aliv64⟩, ⟨29, Alia53, Aliv53⟩, ⟨29, Alia41, Aliv41⟩] (by kernel_rfl) ⟨Alip75, ⟨Alip64, ⟨Alip53, ⟨Alip41, trivial⟩⟩⟩⟩) (by kernel_rfl)
def Alit95 : TbT := (.nd none .lf (.nd none .lf (.nd (some [(Alia94, Aliv94), (Alia93, Aliv93), (Alia92, Aliv92), (Alia91, Aliv91)]) .lf .lf)))
theorem Alip95 : Pur Go.Proofs.Tryz.prog GG0 4 Alia95 Aliv95 :=
  chk_run (E := { E1 with tb := tbT Alit95 }) (fuel := 400000) (ex_ok [⟨6, Alia94, Aliv94⟩, ⟨6, Alia93, Aliv93⟩, ⟨6, Alia92, Aliv92⟩, ⟨6, Alia91, Aliv91⟩] (by kernel_rfl) ⟨Alip94, ⟨Alip93, ⟨Alip92, ⟨Alip91, trivial⟩⟩⟩⟩) (by kernel_rfl)
theorem law_aliNames : Pur Go.Proofs.Tryz.prog GG0 4 [] (.c (.bool true)) := Alip95
end Go.Ab
