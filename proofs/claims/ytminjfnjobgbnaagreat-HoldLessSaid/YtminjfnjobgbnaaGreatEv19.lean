/- One of the texts that this claim stands on. -/
import Derived.Test.YtminjfnjobgbnaaGreatEv18
import Derived.Test.YtminjfnjobgbnaaGreatProg
import Derived.KernelRfl
set_option linter.unusedVariables false
set_option linter.unusedSimpArgs false
set_option maxRecDepth 20000
namespace Go.Ab
open Go.Proofs
@[push_cast] theorem sz3 : szT Tryz.prog 3 = some 1 := by kernel_rfl
@[push_cast] theorem ag3 : aggT Tryz.prog 3 = some false := by kernel_rfl
@[push_cast] theorem by3 : bytesT Tryz.prog 3 = some 8 := by kernel_rfl
@[push_cast] theorem un3 : Tryz.prog.underlying 3 = some (Go.TypeDesc.int (Go.IntKind.i64)) := by kernel_rfl
@[push_cast] theorem zc3 : zeroCells Tryz.prog 3 = some [.c (.int .i64 0)] := by kernel_rfl
@[push_cast] theorem ze3 : zeroEl Tryz.prog 3 = some (.c (.int .i64 0)) := by kernel_rfl
@[push_cast] theorem sz4 : szT Tryz.prog 4 = some 1 := by kernel_rfl
@[push_cast] theorem ag4 : aggT Tryz.prog 4 = some false := by kernel_rfl
@[push_cast] theorem un4 : Tryz.prog.underlying 4 = some (Go.TypeDesc.bool) := by kernel_rfl
@[push_cast] theorem sz5 : szT Tryz.prog 5 = some 1 := by kernel_rfl
@[push_cast] theorem ag5 : aggT Tryz.prog 5 = some false := by kernel_rfl
@[push_cast] theorem ze5 : zeroEl Tryz.prog 5 = some (.c (.int .u8 0)) := by kernel_rfl
@[push_cast] theorem sz22 : szT Tryz.prog 22 = some 3 := by kernel_rfl
@[push_cast] theorem ag22 : aggT Tryz.prog 22 = some true := by kernel_rfl
@[push_cast] theorem un22 : Tryz.prog.underlying 22 = some (Go.TypeDesc.array 3 3) := by kernel_rfl
@[push_cast] theorem zc22 : zeroCells Tryz.prog 22 = some [.c (.int .i64 0), .c (.int .i64 0), .c (.int .i64 0)] := by kernel_rfl
@[push_cast] theorem ia22 (x : AV) (i : Int) (H : List AO) : aIdxAddr Tryz.prog 22 x i H = (ptrAdd x (i.toNat * 1)).map fun v => (0 ≤ i ∧ i < 3, v) := by unfold aIdxAddr; simp only [un22, show szT Tryz.prog 3 = some 1 by kernel_rfl]; rfl
@[push_cast] theorem sz23 : szT Tryz.prog 23 = some 3 := by kernel_rfl
@[push_cast] theorem ag23 : aggT Tryz.prog 23 = some true := by kernel_rfl
@[push_cast] theorem un23 : Tryz.prog.underlying 23 = some (Go.TypeDesc.array 3 3) := by kernel_rfl
@[push_cast] theorem zc23 : zeroCells Tryz.prog 23 = some [.c (.int .i64 0), .c (.int .i64 0), .c (.int .i64 0)] := by kernel_rfl
@[push_cast] theorem ia23 (x : AV) (i : Int) (H : List AO) : aIdxAddr Tryz.prog 23 x i H = (ptrAdd x (i.toNat * 1)).map fun v => (0 ≤ i ∧ i < 3, v) := by unfold aIdxAddr; simp only [un23, show szT Tryz.prog 3 = some 1 by kernel_rfl]; rfl
@[push_cast] theorem sz24 : szT Tryz.prog 24 = some 1 := by kernel_rfl
@[push_cast] theorem ag24 : aggT Tryz.prog 24 = some false := by kernel_rfl
@[push_cast] theorem un24 : Tryz.prog.underlying 24 = some (Go.TypeDesc.slice 84) := by kernel_rfl
@[push_cast] theorem ia24s (id st len cap : Nat) (i : Int) (H : List AO) : aIdxAddr Tryz.prog 24 (.sl id st len cap) i H = (match H[id]? with | some (.arr sz es) => if sz = 4 then some (0 ≤ i ∧ i < (len : Int), .eptr id (st + i.toNat) 0) else none | _ => none) := by unfold aIdxAddr; simp only [un24, show szT Tryz.prog 84 = some 4 by kernel_rfl]; rfl
@[push_cast] theorem sz26 : szT Tryz.prog 26 = some 8 := by kernel_rfl
@[push_cast] theorem ag26 : aggT Tryz.prog 26 = some true := by kernel_rfl
@[push_cast] theorem un26 : Tryz.prog.underlying 26 = some (Go.TypeDesc.struct #[{ name := "Dims", type := 23, offset := 0, embedded := false, tag := "", pkgPath := "", byteOffset := 0 }, { name := "Boot", type := 3, offset := 3, embedded := false, tag := "", pkgPath := "", byteOffset := 24 }, { name := "Free", type := 3, offset := 4, embedded := false, tag := "", pkgPath := "", byteOffset := 32 }, { name := "Tries", type := 3, offset := 5, embedded := false, tag := "", pkgPath := "", byteOffset := 40 }, { name := "Age", type := 3, offset := 6, embedded := false, tag := "", pkgPath := "", byteOffset := 48 }, { name := "Classes", type := 24, offset := 7, embedded := false, tag := "", pkgPath := "", byteOffset := 56 }]) := by kernel_rfl
@[push_cast] theorem zc26 : zeroCells Tryz.prog 26 = some [.c (.int .i64 0), .c (.int .i64 0), .c (.int .i64 0), .c (.int .i64 0), .c (.int .i64 0), .c (.int .i64 0), .c (.int .i64 0), .c (.slice none 0 0)] := by kernel_rfl
@[push_cast] theorem fa26 : Array.all (#[{ name := "Dims", type := 23, offset := 0, embedded := false, tag := "", pkgPath := "", byteOffset := 0 }, { name := "Boot", type := 3, offset := 3, embedded := false, tag := "", pkgPath := "", byteOffset := 24 }, { name := "Free", type := 3, offset := 4, embedded := false, tag := "", pkgPath := "", byteOffset := 32 }, { name := "Tries", type := 3, offset := 5, embedded := false, tag := "", pkgPath := "", byteOffset := 40 }, { name := "Age", type := 3, offset := 6, embedded := false, tag := "", pkgPath := "", byteOffset := 48 }, { name := "Classes", type := 24, offset := 7, embedded := false, tag := "", pkgPath := "", byteOffset := 56 }] : Array Field) (fun f => (szT Tryz.prog f.type).isSome) 0 6 = true := by kernel_rfl
@[push_cast] theorem fp26_0 : fieldPlaces Tryz.prog #[{ name := "Dims", type := 23, offset := 0, embedded := false, tag := "", pkgPath := "", byteOffset := 0 }, { name := "Boot", type := 3, offset := 3, embedded := false, tag := "", pkgPath := "", byteOffset := 24 }, { name := "Free", type := 3, offset := 4, embedded := false, tag := "", pkgPath := "", byteOffset := 32 }, { name := "Tries", type := 3, offset := 5, embedded := false, tag := "", pkgPath := "", byteOffset := 40 }, { name := "Age", type := 3, offset := 6, embedded := false, tag := "", pkgPath := "", byteOffset := 48 }, { name := "Classes", type := 24, offset := 7, embedded := false, tag := "", pkgPath := "", byteOffset := 56 }] 0 = some (0, 3) := by kernel_rfl
@[push_cast] theorem fp26_1 : fieldPlaces Tryz.prog #[{ name := "Dims", type := 23, offset := 0, embedded := false, tag := "", pkgPath := "", byteOffset := 0 }, { name := "Boot", type := 3, offset := 3, embedded := false, tag := "", pkgPath := "", byteOffset := 24 }, { name := "Free", type := 3, offset := 4, embedded := false, tag := "", pkgPath := "", byteOffset := 32 }, { name := "Tries", type := 3, offset := 5, embedded := false, tag := "", pkgPath := "", byteOffset := 40 }, { name := "Age", type := 3, offset := 6, embedded := false, tag := "", pkgPath := "", byteOffset := 48 }, { name := "Classes", type := 24, offset := 7, embedded := false, tag := "", pkgPath := "", byteOffset := 56 }] 1 = some (3, 1) := by kernel_rfl
@[push_cast] theorem fp26_2 : fieldPlaces Tryz.prog #[{ name := "Dims", type := 23, offset := 0, embedded := false, tag := "", pkgPath := "", byteOffset := 0 }, { name := "Boot", type := 3, offset := 3, embedded := false, tag := "", pkgPath := "", byteOffset := 24 }, { name := "Free", type := 3, offset := 4, embedded := false, tag := "", pkgPath := "", byteOffset := 32 }, { name := "Tries", type := 3, offset := 5, embedded := false, tag := "", pkgPath := "", byteOffset := 40 }, { name := "Age", type := 3, offset := 6, embedded := false, tag := "", pkgPath := "", byteOffset := 48 }, { name := "Classes", type := 24, offset := 7, embedded := false, tag := "", pkgPath := "", byteOffset := 56 }] 2 = some (4, 1) := by kernel_rfl
@[push_cast] theorem fp26_3 : fieldPlaces Tryz.prog #[{ name := "Dims", type := 23, offset := 0, embedded := false, tag := "", pkgPath := "", byteOffset := 0 }, { name := "Boot", type := 3, offset := 3, embedded := false, tag := "", pkgPath := "", byteOffset := 24 }, { name := "Free", type := 3, offset := 4, embedded := false, tag := "", pkgPath := "", byteOffset := 32 }, { name := "Tries", type := 3, offset := 5, embedded := false, tag := "", pkgPath := "", byteOffset := 40 }, { name := "Age", type := 3, offset := 6, embedded := false, tag := "", pkgPath := "", byteOffset := 48 }, { name := "Classes", type := 24, offset := 7, embedded := false, tag := "", pkgPath := "", byteOffset := 56 }] 3 = some (5, 1) := by kernel_rfl
@[push_cast] theorem fp26_4 : fieldPlaces Tryz.prog #[{ name := "Dims", type := 23, offset := 0, embedded := false, tag := "", pkgPath := "", byteOffset := 0 }, { name := "Boot", type := 3, offset := 3, embedded := false, tag := "", pkgPath := "", byteOffset := 24 }, { name := "Free", type := 3, offset := 4, embedded := false, tag := "", pkgPath := "", byteOffset := 32 }, { name := "Tries", type := 3, offset := 5, embedded := false, tag := "", pkgPath := "", byteOffset := 40 }, { name := "Age", type := 3, offset := 6, embedded := false, tag := "", pkgPath := "", byteOffset := 48 }, { name := "Classes", type := 24, offset := 7, embedded := false, tag := "", pkgPath := "", byteOffset := 56 }] 4 = some (6, 1) := by kernel_rfl
@[push_cast] theorem fp26_5 : fieldPlaces Tryz.prog #[{ name := "Dims", type := 23, offset := 0, embedded := false, tag := "", pkgPath := "", byteOffset := 0 }, { name := "Boot", type := 3, offset := 3, embedded := false, tag := "", pkgPath := "", byteOffset := 24 }, { name := "Free", type := 3, offset := 4, embedded := false, tag := "", pkgPath := "", byteOffset := 32 }, { name := "Tries", type := 3, offset := 5, embedded := false, tag := "", pkgPath := "", byteOffset := 40 }, { name := "Age", type := 3, offset := 6, embedded := false, tag := "", pkgPath := "", byteOffset := 48 }, { name := "Classes", type := 24, offset := 7, embedded := false, tag := "", pkgPath := "", byteOffset := 56 }] 5 = some (7, 1) := by kernel_rfl
@[push_cast] theorem fo26_0 : fieldOffA Tryz.prog 26 0 = some 0 := by kernel_rfl
@[push_cast] theorem fo26_1 : fieldOffA Tryz.prog 26 1 = some 3 := by kernel_rfl
@[push_cast] theorem fo26_2 : fieldOffA Tryz.prog 26 2 = some 4 := by kernel_rfl
@[push_cast] theorem fo26_3 : fieldOffA Tryz.prog 26 3 = some 5 := by kernel_rfl
@[push_cast] theorem fo26_4 : fieldOffA Tryz.prog 26 4 = some 6 := by kernel_rfl
@[push_cast] theorem fo26_5 : fieldOffA Tryz.prog 26 5 = some 7 := by kernel_rfl
@[push_cast] theorem sz27 : szT Tryz.prog 27 = some 1 := by kernel_rfl
@[push_cast] theorem ag27 : aggT Tryz.prog 27 = some false := by kernel_rfl
@[push_cast] theorem un27 : Tryz.prog.underlying 27 = some (Go.TypeDesc.slice 50) := by kernel_rfl
@[push_cast] theorem ia27s (id st len cap : Nat) (i : Int) (H : List AO) : aIdxAddr Tryz.prog 27 (.sl id st len cap) i H = (match H[id]? with | some (.arr sz es) => if sz = 16 then some (0 ≤ i ∧ i < (len : Int), .eptr id (st + i.toNat) 0) else none | _ => none) := by unfold aIdxAddr; simp only [un27, show szT Tryz.prog 50 = some 16 by kernel_rfl]; rfl
@[push_cast] theorem ls27 (id st len cap : Nat) : aLen Tryz.prog 27 (.sl id st len cap) = some (len : Int) := by unfold aLen; simp only [un27]
@[push_cast] theorem ln27  : aLen Tryz.prog 27 (.c (.slice none 0 0)) = some 0 := by unfold aLen; simp only [un27]
@[push_cast] theorem lz27  : aLen Tryz.prog 27 .zs = some 0 := by unfold aLen; simp only [un27]
@[push_cast] theorem sz28 : szT Tryz.prog 28 = some 1 := by kernel_rfl
@[push_cast] theorem ag28 : aggT Tryz.prog 28 = some false := by kernel_rfl
@[push_cast] theorem un28 : Tryz.prog.underlying 28 = some (Go.TypeDesc.slice 43) := by kernel_rfl
@[push_cast] theorem sz29 : szT Tryz.prog 29 = some 1 := by kernel_rfl
@[push_cast] theorem ag29 : aggT Tryz.prog 29 = some false := by kernel_rfl
@[push_cast] theorem un29 : Tryz.prog.underlying 29 = some (Go.TypeDesc.slice 56) := by kernel_rfl
@[push_cast] theorem sz30 : szT Tryz.prog 30 = some 1 := by kernel_rfl
@[push_cast] theorem ag30 : aggT Tryz.prog 30 = some false := by kernel_rfl
@[push_cast] theorem un30 : Tryz.prog.underlying 30 = some (Go.TypeDesc.slice 3) := by kernel_rfl
@[push_cast] theorem zc30 : zeroCells Tryz.prog 30 = some [.c (.slice none 0 0)] := by kernel_rfl
@[push_cast] theorem ze30 : zeroEl Tryz.prog 30 = some (.c (.slice none 0 0)) := by kernel_rfl
@[push_cast] theorem ia30i (l : List AV) (i : Int) (H : List AO) : aIdxAddr Tryz.prog 30 (.isl l) i H = some ((0 ≤ i ∧ i < (l.length : Int)) ∧ (l.getD i.toNat .un).cells.length = 1, .iptr (l.getD i.toNat .un).cells 0) := by unfold aIdxAddr; simp only [un30, show szT Tryz.prog 3 = some 1 by kernel_rfl]
@[push_cast] theorem li30 (l : List AV) : aLen Tryz.prog 30 (.isl l) = some (l.length : Int) := by unfold aLen; simp only [un30]
@[push_cast] theorem ln30  : aLen Tryz.prog 30 (.c (.slice none 0 0)) = some 0 := by unfold aLen; simp only [un30]
@[push_cast] theorem sz32 : szT Tryz.prog 32 = some 16 := by kernel_rfl
@[push_cast] theorem ag32 : aggT Tryz.prog 32 = some true := by kernel_rfl
@[push_cast] theorem un32 : Tryz.prog.underlying 32 = some (Go.TypeDesc.struct #[{ name := "Config", type := 26, offset := 0, embedded := false, tag := "", pkgPath := "", byteOffset := 0 }, { name := "Now", type := 3, offset := 8, embedded := false, tag := "", pkgPath := "", byteOffset := 80 }, { name := "Next", type := 3, offset := 9, embedded := false, tag := "", pkgPath := "", byteOffset := 88 }, { name := "Jobs", type := 27, offset := 10, embedded := false, tag := "", pkgPath := "", byteOffset := 96 }, { name := "Parts", type := 28, offset := 11, embedded := false, tag := "", pkgPath := "", byteOffset := 120 }, { name := "Keeps", type := 29, offset := 12, embedded := false, tag := "", pkgPath := "", byteOffset := 144 }, { name := "Down", type := 30, offset := 13, embedded := false, tag := "", pkgPath := "", byteOffset := 168 }, { name := "Shut", type := 30, offset := 14, embedded := false, tag := "", pkgPath := "", byteOffset := 192 }, { name := "Cut", type := 30, offset := 15, embedded := false, tag := "", pkgPath := "", byteOffset := 216 }]) := by kernel_rfl
@[push_cast] theorem zc32 : zeroCells Tryz.prog 32 = some [.c (.int .i64 0), .c (.int .i64 0), .c (.int .i64 0), .c (.int .i64 0), .c (.int .i64 0), .c (.int .i64 0), .c (.int .i64 0), .c (.slice none 0 0), .c (.int .i64 0), .c (.int .i64 0), .c (.slice none 0 0), .c (.slice none 0 0), .c (.slice none 0 0), .c (.slice none 0 0), .c (.slice none 0 0), .c (.slice none 0 0)] := by kernel_rfl
@[push_cast] theorem fa32 : Array.all (#[{ name := "Config", type := 26, offset := 0, embedded := false, tag := "", pkgPath := "", byteOffset := 0 }, { name := "Now", type := 3, offset := 8, embedded := false, tag := "", pkgPath := "", byteOffset := 80 }, { name := "Next", type := 3, offset := 9, embedded := false, tag := "", pkgPath := "", byteOffset := 88 }, { name := "Jobs", type := 27, offset := 10, embedded := false, tag := "", pkgPath := "", byteOffset := 96 }, { name := "Parts", type := 28, offset := 11, embedded := false, tag := "", pkgPath := "", byteOffset := 120 }, { name := "Keeps", type := 29, offset := 12, embedded := false, tag := "", pkgPath := "", byteOffset := 144 }, { name := "Down", type := 30, offset := 13, embedded := false, tag := "", pkgPath := "", byteOffset := 168 }, { name := "Shut", type := 30, offset := 14, embedded := false, tag := "", pkgPath := "", byteOffset := 192 }, { name := "Cut", type := 30, offset := 15, embedded := false, tag := "", pkgPath := "", byteOffset := 216 }] : Array Field) (fun f => (szT Tryz.prog f.type).isSome) 0 9 = true := by kernel_rfl
@[push_cast] theorem fp32_0 : fieldPlaces Tryz.prog #[{ name := "Config", type := 26, offset := 0, embedded := false, tag := "", pkgPath := "", byteOffset := 0 }, { name := "Now", type := 3, offset := 8, embedded := false, tag := "", pkgPath := "", byteOffset := 80 }, { name := "Next", type := 3, offset := 9, embedded := false, tag := "", pkgPath := "", byteOffset := 88 }, { name := "Jobs", type := 27, offset := 10, embedded := false, tag := "", pkgPath := "", byteOffset := 96 }, { name := "Parts", type := 28, offset := 11, embedded := false, tag := "", pkgPath := "", byteOffset := 120 }, { name := "Keeps", type := 29, offset := 12, embedded := false, tag := "", pkgPath := "", byteOffset := 144 }, { name := "Down", type := 30, offset := 13, embedded := false, tag := "", pkgPath := "", byteOffset := 168 }, { name := "Shut", type := 30, offset := 14, embedded := false, tag := "", pkgPath := "", byteOffset := 192 }, { name := "Cut", type := 30, offset := 15, embedded := false, tag := "", pkgPath := "", byteOffset := 216 }] 0 = some (0, 8) := by kernel_rfl
@[push_cast] theorem fp32_1 : fieldPlaces Tryz.prog #[{ name := "Config", type := 26, offset := 0, embedded := false, tag := "", pkgPath := "", byteOffset := 0 }, { name := "Now", type := 3, offset := 8, embedded := false, tag := "", pkgPath := "", byteOffset := 80 }, { name := "Next", type := 3, offset := 9, embedded := false, tag := "", pkgPath := "", byteOffset := 88 }, { name := "Jobs", type := 27, offset := 10, embedded := false, tag := "", pkgPath := "", byteOffset := 96 }, { name := "Parts", type := 28, offset := 11, embedded := false, tag := "", pkgPath := "", byteOffset := 120 }, { name := "Keeps", type := 29, offset := 12, embedded := false, tag := "", pkgPath := "", byteOffset := 144 }, { name := "Down", type := 30, offset := 13, embedded := false, tag := "", pkgPath := "", byteOffset := 168 }, { name := "Shut", type := 30, offset := 14, embedded := false, tag := "", pkgPath := "", byteOffset := 192 }, { name := "Cut", type := 30, offset := 15, embedded := false, tag := "", pkgPath := "", byteOffset := 216 }] 1 = some (8, 1) := by kernel_rfl
@[push_cast] theorem fp32_2 : fieldPlaces Tryz.prog #[{ name := "Config", type := 26, offset := 0, embedded := false, tag := "", pkgPath := "", byteOffset := 0 }, { name := "Now", type := 3, offset := 8, embedded := false, tag := "", pkgPath := "", byteOffset := 80 }, { name := "Next", type := 3, offset := 9, embedded := false, tag := "", pkgPath := "", byteOffset := 88 }, { name := "Jobs", type := 27, offset := 10, embedded := false, tag := "", pkgPath := "", byteOffset := 96 }, { name := "Parts", type := 28, offset := 11, embedded := false, tag := "", pkgPath := "", byteOffset := 120 }, { name := "Keeps", type := 29, offset := 12, embedded := false, tag := "", pkgPath := "", byteOffset := 144 }, { name := "Down", type := 30, offset := 13, embedded := false, tag := "", pkgPath := "", byteOffset := 168 }, { name := "Shut", type := 30, offset := 14, embedded := false, tag := "", pkgPath := "", byteOffset := 192 }, { name := "Cut", type := 30, offset := 15, embedded := false, tag := "", pkgPath := "", byteOffset := 216 }] 2 = some (9, 1) := by kernel_rfl
@[push_cast] theorem fo32_0 : fieldOffA Tryz.prog 32 0 = some 0 := by kernel_rfl
@[push_cast] theorem fo32_1 : fieldOffA Tryz.prog 32 1 = some 8 := by kernel_rfl
@[push_cast] theorem fo32_2 : fieldOffA Tryz.prog 32 2 = some 9 := by kernel_rfl
@[push_cast] theorem fo32_3 : fieldOffA Tryz.prog 32 3 = some 10 := by kernel_rfl
@[push_cast] theorem fo32_4 : fieldOffA Tryz.prog 32 4 = some 11 := by kernel_rfl
@[push_cast] theorem fo32_5 : fieldOffA Tryz.prog 32 5 = some 12 := by kernel_rfl
@[push_cast] theorem fo32_6 : fieldOffA Tryz.prog 32 6 = some 13 := by kernel_rfl
@[push_cast] theorem fo32_7 : fieldOffA Tryz.prog 32 7 = some 14 := by kernel_rfl
@[push_cast] theorem fo32_8 : fieldOffA Tryz.prog 32 8 = some 15 := by kernel_rfl
@[push_cast] theorem sz33 : szT Tryz.prog 33 = some 1 := by kernel_rfl
@[push_cast] theorem ag33 : aggT Tryz.prog 33 = some false := by kernel_rfl
@[push_cast] theorem ze33 : zeroEl Tryz.prog 33 = some (.c .nilFunc) := by kernel_rfl
@[push_cast] theorem sz35 : szT Tryz.prog 35 = some 1 := by kernel_rfl
@[push_cast] theorem ag35 : aggT Tryz.prog 35 = some false := by kernel_rfl
@[push_cast] theorem zc35 : zeroCells Tryz.prog 35 = some [.c (.int .i64 0)] := by kernel_rfl
@[push_cast] theorem sz38 : szT Tryz.prog 38 = some 6 := by kernel_rfl
@[push_cast] theorem ag38 : aggT Tryz.prog 38 = some true := by kernel_rfl
@[push_cast] theorem un38 : Tryz.prog.underlying 38 = some (Go.TypeDesc.struct #[{ name := "Base", type := 22, offset := 0, embedded := false, tag := "", pkgPath := "", byteOffset := 0 }, { name := "Size", type := 22, offset := 3, embedded := false, tag := "", pkgPath := "", byteOffset := 24 }]) := by kernel_rfl
@[push_cast] theorem zc38 : zeroCells Tryz.prog 38 = some [.c (.int .i64 0), .c (.int .i64 0), .c (.int .i64 0), .c (.int .i64 0), .c (.int .i64 0), .c (.int .i64 0)] := by kernel_rfl
@[push_cast] theorem fa38 : Array.all (#[{ name := "Base", type := 22, offset := 0, embedded := false, tag := "", pkgPath := "", byteOffset := 0 }, { name := "Size", type := 22, offset := 3, embedded := false, tag := "", pkgPath := "", byteOffset := 24 }] : Array Field) (fun f => (szT Tryz.prog f.type).isSome) 0 2 = true := by kernel_rfl
@[push_cast] theorem fp38_1 : fieldPlaces Tryz.prog #[{ name := "Base", type := 22, offset := 0, embedded := false, tag := "", pkgPath := "", byteOffset := 0 }, { name := "Size", type := 22, offset := 3, embedded := false, tag := "", pkgPath := "", byteOffset := 24 }] 1 = some (3, 3) := by kernel_rfl
@[push_cast] theorem fo38_0 : fieldOffA Tryz.prog 38 0 = some 0 := by kernel_rfl
@[push_cast] theorem fo38_1 : fieldOffA Tryz.prog 38 1 = some 3 := by kernel_rfl
@[push_cast] theorem sz39 : szT Tryz.prog 39 = some 3 := by kernel_rfl
@[push_cast] theorem ag39 : aggT Tryz.prog 39 = some true := by kernel_rfl
@[push_cast] theorem un39 : Tryz.prog.underlying 39 = some (Go.TypeDesc.array 3 4) := by kernel_rfl
@[push_cast] theorem zc39 : zeroCells Tryz.prog 39 = some [.c (.bool false), .c (.bool false), .c (.bool false)] := by kernel_rfl
@[push_cast] theorem ia39 (x : AV) (i : Int) (H : List AO) : aIdxAddr Tryz.prog 39 x i H = (ptrAdd x (i.toNat * 1)).map fun v => (0 ≤ i ∧ i < 3, v) := by unfold aIdxAddr; simp only [un39, show szT Tryz.prog 4 = some 1 by kernel_rfl]; rfl
@[push_cast] theorem sz41 : szT Tryz.prog 41 = some 9 := by kernel_rfl
@[push_cast] theorem ag41 : aggT Tryz.prog 41 = some true := by kernel_rfl
@[push_cast] theorem un41 : Tryz.prog.underlying 41 = some (Go.TypeDesc.struct #[{ name := "Box", type := 38, offset := 0, embedded := false, tag := "", pkgPath := "", byteOffset := 0 }, { name := "Torus", type := 39, offset := 6, embedded := false, tag := "", pkgPath := "", byteOffset := 48 }]) := by kernel_rfl
@[push_cast] theorem zc41 : zeroCells Tryz.prog 41 = some [.c (.int .i64 0), .c (.int .i64 0), .c (.int .i64 0), .c (.int .i64 0), .c (.int .i64 0), .c (.int .i64 0), .c (.bool false), .c (.bool false), .c (.bool false)] := by kernel_rfl
@[push_cast] theorem fa41 : Array.all (#[{ name := "Box", type := 38, offset := 0, embedded := false, tag := "", pkgPath := "", byteOffset := 0 }, { name := "Torus", type := 39, offset := 6, embedded := false, tag := "", pkgPath := "", byteOffset := 48 }] : Array Field) (fun f => (szT Tryz.prog f.type).isSome) 0 2 = true := by kernel_rfl
@[push_cast] theorem fp41_0 : fieldPlaces Tryz.prog #[{ name := "Box", type := 38, offset := 0, embedded := false, tag := "", pkgPath := "", byteOffset := 0 }, { name := "Torus", type := 39, offset := 6, embedded := false, tag := "", pkgPath := "", byteOffset := 48 }] 0 = some (0, 6) := by kernel_rfl
@[push_cast] theorem fo41_0 : fieldOffA Tryz.prog 41 0 = some 0 := by kernel_rfl
@[push_cast] theorem fo41_1 : fieldOffA Tryz.prog 41 1 = some 6 := by kernel_rfl
@[push_cast] theorem sz43 : szT Tryz.prog 43 = some 13 := by kernel_rfl
@[push_cast] theorem ag43 : aggT Tryz.prog 43 = some true := by kernel_rfl
@[push_cast] theorem by43 : bytesT Tryz.prog 43 = some 88 := by kernel_rfl
@[push_cast] theorem zc43 : zeroCells Tryz.prog 43 = some [.c (.int .i64 0), .c (.int .i64 0), .c (.int .i64 0), .c (.int .i64 0), .c (.int .i64 0), .c (.int .i64 0), .c (.int .i64 0), .c (.bool false), .c (.bool false), .c (.bool false), .c (.int .u8 0), .c (.int .i64 0), .c (.int .i64 0)] := by kernel_rfl
@[push_cast] theorem ze43 : zeroEl Tryz.prog 43 = some (.agg [.c (.int .i64 0), .c (.int .i64 0), .c (.int .i64 0), .c (.int .i64 0), .c (.int .i64 0), .c (.int .i64 0), .c (.int .i64 0), .c (.bool false), .c (.bool false), .c (.bool false), .c (.int .u8 0), .c (.int .i64 0), .c (.int .i64 0)]) := by kernel_rfl
@[push_cast] theorem fo43_0 : fieldOffA Tryz.prog 43 0 = some 0 := by kernel_rfl
@[push_cast] theorem fo43_1 : fieldOffA Tryz.prog 43 1 = some 1 := by kernel_rfl
@[push_cast] theorem fo43_2 : fieldOffA Tryz.prog 43 2 = some 10 := by kernel_rfl
@[push_cast] theorem fo43_3 : fieldOffA Tryz.prog 43 3 = some 11 := by kernel_rfl
@[push_cast] theorem fo43_4 : fieldOffA Tryz.prog 43 4 = some 12 := by kernel_rfl
@[push_cast] theorem sz48 : szT Tryz.prog 48 = some 7 := by kernel_rfl
@[push_cast] theorem ag48 : aggT Tryz.prog 48 = some true := by kernel_rfl
@[push_cast] theorem by48 : bytesT Tryz.prog 48 = some 32 := by kernel_rfl
@[push_cast] theorem zc48 : zeroCells Tryz.prog 48 = some [.c (.int .i64 0), .c (.int .i64 0), .c (.int .i64 0), .c (.bool false), .c (.bool false), .c (.bool false), .c (.bool false)] := by kernel_rfl
@[push_cast] theorem ze48 : zeroEl Tryz.prog 48 = some (.agg [.c (.int .i64 0), .c (.int .i64 0), .c (.int .i64 0), .c (.bool false), .c (.bool false), .c (.bool false), .c (.bool false)]) := by kernel_rfl
@[push_cast] theorem fo48_0 : fieldOffA Tryz.prog 48 0 = some 0 := by kernel_rfl
@[push_cast] theorem fo48_1 : fieldOffA Tryz.prog 48 1 = some 3 := by kernel_rfl
@[push_cast] theorem fo48_2 : fieldOffA Tryz.prog 48 2 = some 6 := by kernel_rfl
@[push_cast] theorem sz50 : szT Tryz.prog 50 = some 16 := by kernel_rfl
@[push_cast] theorem ag50 : aggT Tryz.prog 50 = some true := by kernel_rfl
@[push_cast] theorem by50 : bytesT Tryz.prog 50 = some 120 := by kernel_rfl
@[push_cast] theorem un50 : Tryz.prog.underlying 50 = some (Go.TypeDesc.struct #[{ name := "Id", type := 3, offset := 0, embedded := false, tag := "", pkgPath := "", byteOffset := 0 }, { name := "User", type := 3, offset := 1, embedded := false, tag := "", pkgPath := "", byteOffset := 8 }, { name := "Class", type := 3, offset := 2, embedded := false, tag := "", pkgPath := "", byteOffset := 16 }, { name := "Wants", type := 48, offset := 3, embedded := false, tag := "", pkgPath := "", byteOffset := 24 }, { name := "Wall", type := 3, offset := 10, embedded := false, tag := "", pkgPath := "", byteOffset := 56 }, { name := "Prio", type := 3, offset := 11, embedded := false, tag := "", pkgPath := "", byteOffset := 64 }, { name := "Held", type := 4, offset := 12, embedded := false, tag := "", pkgPath := "", byteOffset := 72 }, { name := "After", type := 30, offset := 13, embedded := false, tag := "", pkgPath := "", byteOffset := 80 }, { name := "State", type := 5, offset := 14, embedded := false, tag := "", pkgPath := "", byteOffset := 104 }, { name := "Came", type := 3, offset := 15, embedded := false, tag := "", pkgPath := "", byteOffset := 112 }]) := by kernel_rfl
@[push_cast] theorem zc50 : zeroCells Tryz.prog 50 = some [.c (.int .i64 0), .c (.int .i64 0), .c (.int .i64 0), .c (.int .i64 0), .c (.int .i64 0), .c (.int .i64 0), .c (.bool false), .c (.bool false), .c (.bool false), .c (.bool false), .c (.int .i64 0), .c (.int .i64 0), .c (.bool false), .c (.slice none 0 0), .c (.int .u8 0), .c (.int .i64 0)] := by kernel_rfl
@[push_cast] theorem ze50 : zeroEl Tryz.prog 50 = some (.agg [.c (.int .i64 0), .c (.int .i64 0), .c (.int .i64 0), .c (.int .i64 0), .c (.int .i64 0), .c (.int .i64 0), .c (.bool false), .c (.bool false), .c (.bool false), .c (.bool false), .c (.int .i64 0), .c (.int .i64 0), .c (.bool false), .c (.slice none 0 0), .c (.int .u8 0), .c (.int .i64 0)]) := by kernel_rfl
@[push_cast] theorem fa50 : Array.all (#[{ name := "Id", type := 3, offset := 0, embedded := false, tag := "", pkgPath := "", byteOffset := 0 }, { name := "User", type := 3, offset := 1, embedded := false, tag := "", pkgPath := "", byteOffset := 8 }, { name := "Class", type := 3, offset := 2, embedded := false, tag := "", pkgPath := "", byteOffset := 16 }, { name := "Wants", type := 48, offset := 3, embedded := false, tag := "", pkgPath := "", byteOffset := 24 }, { name := "Wall", type := 3, offset := 10, embedded := false, tag := "", pkgPath := "", byteOffset := 56 }, { name := "Prio", type := 3, offset := 11, embedded := false, tag := "", pkgPath := "", byteOffset := 64 }, { name := "Held", type := 4, offset := 12, embedded := false, tag := "", pkgPath := "", byteOffset := 72 }, { name := "After", type := 30, offset := 13, embedded := false, tag := "", pkgPath := "", byteOffset := 80 }, { name := "State", type := 5, offset := 14, embedded := false, tag := "", pkgPath := "", byteOffset := 104 }, { name := "Came", type := 3, offset := 15, embedded := false, tag := "", pkgPath := "", byteOffset := 112 }] : Array Field) (fun f => (szT Tryz.prog f.type).isSome) 0 10 = true := by kernel_rfl
@[push_cast] theorem fo50_0 : fieldOffA Tryz.prog 50 0 = some 0 := by kernel_rfl
@[push_cast] theorem fo50_1 : fieldOffA Tryz.prog 50 1 = some 1 := by kernel_rfl
@[push_cast] theorem fo50_2 : fieldOffA Tryz.prog 50 2 = some 2 := by kernel_rfl
@[push_cast] theorem fo50_3 : fieldOffA Tryz.prog 50 3 = some 3 := by kernel_rfl
@[push_cast] theorem fo50_4 : fieldOffA Tryz.prog 50 4 = some 10 := by kernel_rfl
@[push_cast] theorem fo50_5 : fieldOffA Tryz.prog 50 5 = some 11 := by kernel_rfl
@[push_cast] theorem fo50_6 : fieldOffA Tryz.prog 50 6 = some 12 := by kernel_rfl
@[push_cast] theorem fo50_7 : fieldOffA Tryz.prog 50 7 = some 13 := by kernel_rfl
@[push_cast] theorem fo50_8 : fieldOffA Tryz.prog 50 8 = some 14 := by kernel_rfl
@[push_cast] theorem fo50_9 : fieldOffA Tryz.prog 50 9 = some 15 := by kernel_rfl
@[push_cast] theorem sz54 : szT Tryz.prog 54 = some 2 := by kernel_rfl
@[push_cast] theorem ag54 : aggT Tryz.prog 54 = some true := by kernel_rfl
@[push_cast] theorem un54 : Tryz.prog.underlying 54 = some (Go.TypeDesc.struct #[{ name := "From", type := 3, offset := 0, embedded := false, tag := "", pkgPath := "", byteOffset := 0 }, { name := "To", type := 3, offset := 1, embedded := false, tag := "", pkgPath := "", byteOffset := 8 }]) := by kernel_rfl
@[push_cast] theorem zc54 : zeroCells Tryz.prog 54 = some [.c (.int .i64 0), .c (.int .i64 0)] := by kernel_rfl
@[push_cast] theorem fa54 : Array.all (#[{ name := "From", type := 3, offset := 0, embedded := false, tag := "", pkgPath := "", byteOffset := 0 }, { name := "To", type := 3, offset := 1, embedded := false, tag := "", pkgPath := "", byteOffset := 8 }] : Array Field) (fun f => (szT Tryz.prog f.type).isSome) 0 2 = true := by kernel_rfl
@[push_cast] theorem fp54_0 : fieldPlaces Tryz.prog #[{ name := "From", type := 3, offset := 0, embedded := false, tag := "", pkgPath := "", byteOffset := 0 }, { name := "To", type := 3, offset := 1, embedded := false, tag := "", pkgPath := "", byteOffset := 8 }] 0 = some (0, 1) := by kernel_rfl
@[push_cast] theorem fp54_1 : fieldPlaces Tryz.prog #[{ name := "From", type := 3, offset := 0, embedded := false, tag := "", pkgPath := "", byteOffset := 0 }, { name := "To", type := 3, offset := 1, embedded := false, tag := "", pkgPath := "", byteOffset := 8 }] 1 = some (1, 1) := by kernel_rfl
@[push_cast] theorem fo54_0 : fieldOffA Tryz.prog 54 0 = some 0 := by kernel_rfl
@[push_cast] theorem fo54_1 : fieldOffA Tryz.prog 54 1 = some 1 := by kernel_rfl
@[push_cast] theorem sz56 : szT Tryz.prog 56 = some 9 := by kernel_rfl
@[push_cast] theorem ag56 : aggT Tryz.prog 56 = some true := by kernel_rfl
@[push_cast] theorem by56 : bytesT Tryz.prog 56 = some 72 := by kernel_rfl
@[push_cast] theorem un56 : Tryz.prog.underlying 56 = some (Go.TypeDesc.struct #[{ name := "Id", type := 3, offset := 0, embedded := false, tag := "", pkgPath := "", byteOffset := 0 }, { name := "Box", type := 38, offset := 1, embedded := false, tag := "", pkgPath := "", byteOffset := 8 }, { name := "Span", type := 54, offset := 7, embedded := false, tag := "", pkgPath := "", byteOffset := 56 }]) := by kernel_rfl
@[push_cast] theorem zc56 : zeroCells Tryz.prog 56 = some [.c (.int .i64 0), .c (.int .i64 0), .c (.int .i64 0), .c (.int .i64 0), .c (.int .i64 0), .c (.int .i64 0), .c (.int .i64 0), .c (.int .i64 0), .c (.int .i64 0)] := by kernel_rfl
@[push_cast] theorem ze56 : zeroEl Tryz.prog 56 = some (.agg [.c (.int .i64 0), .c (.int .i64 0), .c (.int .i64 0), .c (.int .i64 0), .c (.int .i64 0), .c (.int .i64 0), .c (.int .i64 0), .c (.int .i64 0), .c (.int .i64 0)]) := by kernel_rfl
@[push_cast] theorem fa56 : Array.all (#[{ name := "Id", type := 3, offset := 0, embedded := false, tag := "", pkgPath := "", byteOffset := 0 }, { name := "Box", type := 38, offset := 1, embedded := false, tag := "", pkgPath := "", byteOffset := 8 }, { name := "Span", type := 54, offset := 7, embedded := false, tag := "", pkgPath := "", byteOffset := 56 }] : Array Field) (fun f => (szT Tryz.prog f.type).isSome) 0 3 = true := by kernel_rfl
@[push_cast] theorem fp56_0 : fieldPlaces Tryz.prog #[{ name := "Id", type := 3, offset := 0, embedded := false, tag := "", pkgPath := "", byteOffset := 0 }, { name := "Box", type := 38, offset := 1, embedded := false, tag := "", pkgPath := "", byteOffset := 8 }, { name := "Span", type := 54, offset := 7, embedded := false, tag := "", pkgPath := "", byteOffset := 56 }] 0 = some (0, 1) := by kernel_rfl
@[push_cast] theorem fp56_1 : fieldPlaces Tryz.prog #[{ name := "Id", type := 3, offset := 0, embedded := false, tag := "", pkgPath := "", byteOffset := 0 }, { name := "Box", type := 38, offset := 1, embedded := false, tag := "", pkgPath := "", byteOffset := 8 }, { name := "Span", type := 54, offset := 7, embedded := false, tag := "", pkgPath := "", byteOffset := 56 }] 1 = some (1, 6) := by kernel_rfl
@[push_cast] theorem fp56_2 : fieldPlaces Tryz.prog #[{ name := "Id", type := 3, offset := 0, embedded := false, tag := "", pkgPath := "", byteOffset := 0 }, { name := "Box", type := 38, offset := 1, embedded := false, tag := "", pkgPath := "", byteOffset := 8 }, { name := "Span", type := 54, offset := 7, embedded := false, tag := "", pkgPath := "", byteOffset := 56 }] 2 = some (7, 2) := by kernel_rfl
@[push_cast] theorem fo56_0 : fieldOffA Tryz.prog 56 0 = some 0 := by kernel_rfl
@[push_cast] theorem fo56_1 : fieldOffA Tryz.prog 56 1 = some 1 := by kernel_rfl
@[push_cast] theorem fo56_2 : fieldOffA Tryz.prog 56 2 = some 7 := by kernel_rfl
@[push_cast] theorem sz70 : szT Tryz.prog 70 = some 16 := by kernel_rfl
@[push_cast] theorem ag70 : aggT Tryz.prog 70 = some true := by kernel_rfl
@[push_cast] theorem un70 : Tryz.prog.underlying 70 = some (Go.TypeDesc.struct #[{ name := "State", type := 32, offset := 0, embedded := true, tag := "", pkgPath := "", byteOffset := 0 }]) := by kernel_rfl
@[push_cast] theorem zc70 : zeroCells Tryz.prog 70 = some [.c (.int .i64 0), .c (.int .i64 0), .c (.int .i64 0), .c (.int .i64 0), .c (.int .i64 0), .c (.int .i64 0), .c (.int .i64 0), .c (.slice none 0 0), .c (.int .i64 0), .c (.int .i64 0), .c (.slice none 0 0), .c (.slice none 0 0), .c (.slice none 0 0), .c (.slice none 0 0), .c (.slice none 0 0), .c (.slice none 0 0)] := by kernel_rfl
@[push_cast] theorem fa70 : Array.all (#[{ name := "State", type := 32, offset := 0, embedded := true, tag := "", pkgPath := "", byteOffset := 0 }] : Array Field) (fun f => (szT Tryz.prog f.type).isSome) 0 1 = true := by kernel_rfl
@[push_cast] theorem fp70_0 : fieldPlaces Tryz.prog #[{ name := "State", type := 32, offset := 0, embedded := true, tag := "", pkgPath := "", byteOffset := 0 }] 0 = some (0, 16) := by kernel_rfl
@[push_cast] theorem fo70_0 : fieldOffA Tryz.prog 70 0 = some 0 := by kernel_rfl
@[push_cast] theorem un71 : Tryz.prog.underlying 71 = some (Go.TypeDesc.slice 33) := by kernel_rfl
@[push_cast] theorem ia71s (id st len cap : Nat) (i : Int) (H : List AO) : aIdxAddr Tryz.prog 71 (.sl id st len cap) i H = (match H[id]? with | some (.arr sz es) => if sz = 1 then some (0 ≤ i ∧ i < (len : Int), .eptr id (st + i.toNat) 0) else none | _ => none) := by unfold aIdxAddr; simp only [un71, show szT Tryz.prog 33 = some 1 by kernel_rfl]; rfl
@[push_cast] theorem ls71 (id st len cap : Nat) : aLen Tryz.prog 71 (.sl id st len cap) = some (len : Int) := by unfold aLen; simp only [un71]
@[push_cast] theorem sz77 : szT Tryz.prog 77 = some 1 := by kernel_rfl
@[push_cast] theorem ag77 : aggT Tryz.prog 77 = some false := by kernel_rfl
@[push_cast] theorem un77 : Tryz.prog.underlying 77 = some (Go.TypeDesc.slice 119) := by kernel_rfl
@[push_cast] theorem ze77 : zeroEl Tryz.prog 77 = some (.c (.slice none 0 0)) := by kernel_rfl
@[push_cast] theorem ia77i (l : List AV) (i : Int) (H : List AO) : aIdxAddr Tryz.prog 77 (.isl l) i H = some ((0 ≤ i ∧ i < (l.length : Int)) ∧ (l.getD i.toNat .un).cells.length = 1, .iptr (l.getD i.toNat .un).cells 0) := by unfold aIdxAddr; simp only [un77, show szT Tryz.prog 119 = some 1 by kernel_rfl]
@[push_cast] theorem ia77s (id st len cap : Nat) (i : Int) (H : List AO) : aIdxAddr Tryz.prog 77 (.sl id st len cap) i H = (match H[id]? with | some (.arr sz es) => if sz = 1 then some (0 ≤ i ∧ i < (len : Int), .eptr id (st + i.toNat) 0) else none | _ => none) := by unfold aIdxAddr; simp only [un77, show szT Tryz.prog 119 = some 1 by kernel_rfl]; rfl
@[push_cast] theorem li77 (l : List AV) : aLen Tryz.prog 77 (.isl l) = some (l.length : Int) := by unfold aLen; simp only [un77]
@[push_cast] theorem sz84 : szT Tryz.prog 84 = some 4 := by kernel_rfl
@[push_cast] theorem ag84 : aggT Tryz.prog 84 = some true := by kernel_rfl
@[push_cast] theorem by84 : bytesT Tryz.prog 84 = some 32 := by kernel_rfl
@[push_cast] theorem un84 : Tryz.prog.underlying 84 = some (Go.TypeDesc.struct #[{ name := "Prio", type := 3, offset := 0, embedded := false, tag := "", pkgPath := "", byteOffset := 0 }, { name := "Wall", type := 3, offset := 1, embedded := false, tag := "", pkgPath := "", byteOffset := 8 }, { name := "Nodes", type := 3, offset := 2, embedded := false, tag := "", pkgPath := "", byteOffset := 16 }, { name := "Each", type := 3, offset := 3, embedded := false, tag := "", pkgPath := "", byteOffset := 24 }]) := by kernel_rfl
@[push_cast] theorem zc84 : zeroCells Tryz.prog 84 = some [.c (.int .i64 0), .c (.int .i64 0), .c (.int .i64 0), .c (.int .i64 0)] := by kernel_rfl
@[push_cast] theorem ze84 : zeroEl Tryz.prog 84 = some (.agg [.c (.int .i64 0), .c (.int .i64 0), .c (.int .i64 0), .c (.int .i64 0)]) := by kernel_rfl
@[push_cast] theorem fa84 : Array.all (#[{ name := "Prio", type := 3, offset := 0, embedded := false, tag := "", pkgPath := "", byteOffset := 0 }, { name := "Wall", type := 3, offset := 1, embedded := false, tag := "", pkgPath := "", byteOffset := 8 }, { name := "Nodes", type := 3, offset := 2, embedded := false, tag := "", pkgPath := "", byteOffset := 16 }, { name := "Each", type := 3, offset := 3, embedded := false, tag := "", pkgPath := "", byteOffset := 24 }] : Array Field) (fun f => (szT Tryz.prog f.type).isSome) 0 4 = true := by kernel_rfl
@[push_cast] theorem fp84_1 : fieldPlaces Tryz.prog #[{ name := "Prio", type := 3, offset := 0, embedded := false, tag := "", pkgPath := "", byteOffset := 0 }, { name := "Wall", type := 3, offset := 1, embedded := false, tag := "", pkgPath := "", byteOffset := 8 }, { name := "Nodes", type := 3, offset := 2, embedded := false, tag := "", pkgPath := "", byteOffset := 16 }, { name := "Each", type := 3, offset := 3, embedded := false, tag := "", pkgPath := "", byteOffset := 24 }] 1 = some (1, 1) := by kernel_rfl
@[push_cast] theorem fp84_2 : fieldPlaces Tryz.prog #[{ name := "Prio", type := 3, offset := 0, embedded := false, tag := "", pkgPath := "", byteOffset := 0 }, { name := "Wall", type := 3, offset := 1, embedded := false, tag := "", pkgPath := "", byteOffset := 8 }, { name := "Nodes", type := 3, offset := 2, embedded := false, tag := "", pkgPath := "", byteOffset := 16 }, { name := "Each", type := 3, offset := 3, embedded := false, tag := "", pkgPath := "", byteOffset := 24 }] 2 = some (2, 1) := by kernel_rfl
@[push_cast] theorem fp84_3 : fieldPlaces Tryz.prog #[{ name := "Prio", type := 3, offset := 0, embedded := false, tag := "", pkgPath := "", byteOffset := 0 }, { name := "Wall", type := 3, offset := 1, embedded := false, tag := "", pkgPath := "", byteOffset := 8 }, { name := "Nodes", type := 3, offset := 2, embedded := false, tag := "", pkgPath := "", byteOffset := 16 }, { name := "Each", type := 3, offset := 3, embedded := false, tag := "", pkgPath := "", byteOffset := 24 }] 3 = some (3, 1) := by kernel_rfl
@[push_cast] theorem fo84_0 : fieldOffA Tryz.prog 84 0 = some 0 := by kernel_rfl
@[push_cast] theorem fo84_1 : fieldOffA Tryz.prog 84 1 = some 1 := by kernel_rfl
@[push_cast] theorem fo84_2 : fieldOffA Tryz.prog 84 2 = some 2 := by kernel_rfl
@[push_cast] theorem fo84_3 : fieldOffA Tryz.prog 84 3 = some 3 := by kernel_rfl
@[push_cast] theorem un107 : Tryz.prog.underlying 107 = some (Go.TypeDesc.map 108 3) := by kernel_rfl
@[push_cast] theorem sz108 : szT Tryz.prog 108 = some 2 := by kernel_rfl
@[push_cast] theorem ag108 : aggT Tryz.prog 108 = some true := by kernel_rfl
@[push_cast] theorem un108 : Tryz.prog.underlying 108 = some (Go.TypeDesc.array 2 3) := by kernel_rfl
@[push_cast] theorem zc108 : zeroCells Tryz.prog 108 = some [.c (.int .i64 0), .c (.int .i64 0)] := by kernel_rfl
@[push_cast] theorem sz119 : szT Tryz.prog 119 = some 1 := by kernel_rfl
@[push_cast] theorem ag119 : aggT Tryz.prog 119 = some false := by kernel_rfl
@[push_cast] theorem by119 : bytesT Tryz.prog 119 = some 8 := by kernel_rfl
@[push_cast] theorem un119 : Tryz.prog.underlying 119 = some (Go.TypeDesc.int (Go.IntKind.u64)) := by kernel_rfl
@[push_cast] theorem ze119 : zeroEl Tryz.prog 119 = some (.c (.int .u64 0)) := by kernel_rfl
@[push_cast] theorem sz131 : szT Tryz.prog 131 = some 1 := by kernel_rfl
@[push_cast] theorem ag131 : aggT Tryz.prog 131 = some false := by kernel_rfl
@[push_cast] theorem un131 : Tryz.prog.underlying 131 = some (Go.TypeDesc.map 3 5) := by kernel_rfl
@[push_cast] theorem zc131 : zeroCells Tryz.prog 131 = some [.c (.map none)] := by kernel_rfl
@[push_cast] theorem sz149 : szT Tryz.prog 149 = some 4 := by kernel_rfl
@[push_cast] theorem un149 : Tryz.prog.underlying 149 = some (Go.TypeDesc.array 4 3) := by kernel_rfl
@[push_cast] theorem zc149 : zeroCells Tryz.prog 149 = some [.c (.int .i64 0), .c (.int .i64 0), .c (.int .i64 0), .c (.int .i64 0)] := by kernel_rfl
@[push_cast] theorem ia149 (x : AV) (i : Int) (H : List AO) : aIdxAddr Tryz.prog 149 x i H = (ptrAdd x (i.toNat * 1)).map fun v => (0 ≤ i ∧ i < 4, v) := by unfold aIdxAddr; simp only [un149, show szT Tryz.prog 3 = some 1 by kernel_rfl]; rfl
@[push_cast] theorem un154 : Tryz.prog.underlying 154 = some (Go.TypeDesc.slice 30) := by kernel_rfl
@[push_cast] theorem sz160 : szT Tryz.prog 160 = some 1 := by kernel_rfl
@[push_cast] theorem ag160 : aggT Tryz.prog 160 = some false := by kernel_rfl
@[push_cast] theorem un160 : Tryz.prog.underlying 160 = some (Go.TypeDesc.slice 48) := by kernel_rfl
@[push_cast] theorem ia160i (l : List AV) (i : Int) (H : List AO) : aIdxAddr Tryz.prog 160 (.isl l) i H = some ((0 ≤ i ∧ i < (l.length : Int)) ∧ (l.getD i.toNat .un).cells.length = 7, .iptr (l.getD i.toNat .un).cells 0) := by unfold aIdxAddr; simp only [un160, show szT Tryz.prog 48 = some 7 by kernel_rfl]
@[push_cast] theorem li160 (l : List AV) : aLen Tryz.prog 160 (.isl l) = some (l.length : Int) := by unfold aLen; simp only [un160]
@[push_cast] theorem sz167 : szT Tryz.prog 167 = some 1 := by kernel_rfl
@[push_cast] theorem ag167 : aggT Tryz.prog 167 = some false := by kernel_rfl
@[push_cast] theorem zc167 : zeroCells Tryz.prog 167 = some [.c .nilFunc] := by kernel_rfl
@[push_cast] theorem sz182 : szT Tryz.prog 182 = some 1 := by kernel_rfl
@[push_cast] theorem ag182 : aggT Tryz.prog 182 = some false := by kernel_rfl
@[push_cast] theorem un182 : Tryz.prog.underlying 182 = some (Go.TypeDesc.map 48 4) := by kernel_rfl
@[push_cast] theorem sz183 : szT Tryz.prog 183 = some 18 := by kernel_rfl
@[push_cast] theorem ag183 : aggT Tryz.prog 183 = some true := by kernel_rfl
@[push_cast] theorem un183 : Tryz.prog.underlying 183 = some (Go.TypeDesc.array 6 22) := by kernel_rfl
@[push_cast] theorem zc183 : zeroCells Tryz.prog 183 = some [.c (.int .i64 0), .c (.int .i64 0), .c (.int .i64 0), .c (.int .i64 0), .c (.int .i64 0), .c (.int .i64 0), .c (.int .i64 0), .c (.int .i64 0), .c (.int .i64 0), .c (.int .i64 0), .c (.int .i64 0), .c (.int .i64 0), .c (.int .i64 0), .c (.int .i64 0), .c (.int .i64 0), .c (.int .i64 0), .c (.int .i64 0), .c (.int .i64 0)] := by kernel_rfl
@[push_cast] theorem un200 : Tryz.prog.underlying 200 = some (Go.TypeDesc.slice 77) := by kernel_rfl
@[push_cast] theorem ia200s (id st len cap : Nat) (i : Int) (H : List AO) : aIdxAddr Tryz.prog 200 (.sl id st len cap) i H = (match H[id]? with | some (.arr sz es) => if sz = 1 then some (0 ≤ i ∧ i < (len : Int), .eptr id (st + i.toNat) 0) else none | _ => none) := by unfold aIdxAddr; simp only [un200, show szT Tryz.prog 77 = some 1 by kernel_rfl]; rfl
@[push_cast] theorem ls200 (id st len cap : Nat) : aLen Tryz.prog 200 (.sl id st len cap) = some (len : Int) := by unfold aLen; simp only [un200]
end Go.Ab
