/- One of the texts that this claim stands on. -/
import Derived.Test.YtfiglmdmnfdldaaGreatDoorEv19
import Derived.Test.YtfiglmdmnfdldaaGreatDoorProg
import Derived.KernelRfl
set_option linter.unusedVariables false
set_option linter.unusedSimpArgs false
set_option maxRecDepth 20000
namespace Go.Ab
open Go.Proofs
theorem sz3 : szT Tryz.prog 3 = some 1 := by kernel_rfl
theorem ag3 : aggT Tryz.prog 3 = some false := by kernel_rfl
theorem by3 : bytesT Tryz.prog 3 = some 8 := by kernel_rfl
theorem un3 : Tryz.prog.underlying 3 = some (Go.TypeDesc.int (Go.IntKind.i64)) := by kernel_rfl
theorem zc3 : zeroCells Tryz.prog 3 = some [.c (.int .i64 0)] := by kernel_rfl
theorem ze3 : zeroEl Tryz.prog 3 = some (.c (.int .i64 0)) := by kernel_rfl
theorem sz4 : szT Tryz.prog 4 = some 1 := by kernel_rfl
theorem ag4 : aggT Tryz.prog 4 = some false := by kernel_rfl
theorem by4 : bytesT Tryz.prog 4 = some 1 := by kernel_rfl
theorem un4 : Tryz.prog.underlying 4 = some (Go.TypeDesc.bool) := by kernel_rfl
theorem zc4 : zeroCells Tryz.prog 4 = some [.c (.bool false)] := by kernel_rfl
theorem ze4 : zeroEl Tryz.prog 4 = some (.c (.bool false)) := by kernel_rfl
theorem sz5 : szT Tryz.prog 5 = some 1 := by kernel_rfl
theorem ag5 : aggT Tryz.prog 5 = some false := by kernel_rfl
theorem by5 : bytesT Tryz.prog 5 = some 1 := by kernel_rfl
theorem un5 : Tryz.prog.underlying 5 = some (Go.TypeDesc.int (Go.IntKind.u8)) := by kernel_rfl
theorem zc5 : zeroCells Tryz.prog 5 = some [.c (.int .u8 0)] := by kernel_rfl
theorem ze5 : zeroEl Tryz.prog 5 = some (.c (.int .u8 0)) := by kernel_rfl
theorem sz9 : szT Tryz.prog 9 = some 1 := by kernel_rfl
theorem ag9 : aggT Tryz.prog 9 = some false := by kernel_rfl
theorem by9 : bytesT Tryz.prog 9 = some 16 := by kernel_rfl
theorem un9 : Tryz.prog.underlying 9 = some (Go.TypeDesc.string) := by kernel_rfl
theorem sz20 : szT Tryz.prog 20 = some 1 := by kernel_rfl
theorem ag20 : aggT Tryz.prog 20 = some false := by kernel_rfl
theorem by20 : bytesT Tryz.prog 20 = some 16 := by kernel_rfl
theorem zc20 : zeroCells Tryz.prog 20 = some [.c .nilIface] := by kernel_rfl
theorem ze20 : zeroEl Tryz.prog 20 = some (.c .nilIface) := by kernel_rfl
theorem sz22 : szT Tryz.prog 22 = some 3 := by kernel_rfl
theorem ag22 : aggT Tryz.prog 22 = some true := by kernel_rfl
theorem by22 : bytesT Tryz.prog 22 = some 24 := by kernel_rfl
theorem un22 : Tryz.prog.underlying 22 = some (Go.TypeDesc.array 3 3) := by kernel_rfl
theorem zc22 : zeroCells Tryz.prog 22 = some [.c (.int .i64 0), .c (.int .i64 0), .c (.int .i64 0)] := by kernel_rfl
theorem ze22 : zeroEl Tryz.prog 22 = some (.agg [.c (.int .i64 0), .c (.int .i64 0), .c (.int .i64 0)]) := by kernel_rfl
theorem ia22 (x : AV) (i : Int) (H : List AO) : aIdxAddr Tryz.prog 22 x i H = (ptrAdd x (i.toNat * 1)).map fun v => (0 ≤ i ∧ i < 3, v) := by unfold aIdxAddr; simp only [un22, show szT Tryz.prog 3 = some 1 by kernel_rfl]; rfl
theorem sz23 : szT Tryz.prog 23 = some 3 := by kernel_rfl
theorem ag23 : aggT Tryz.prog 23 = some true := by kernel_rfl
theorem by23 : bytesT Tryz.prog 23 = some 24 := by kernel_rfl
theorem un23 : Tryz.prog.underlying 23 = some (Go.TypeDesc.array 3 3) := by kernel_rfl
theorem zc23 : zeroCells Tryz.prog 23 = some [.c (.int .i64 0), .c (.int .i64 0), .c (.int .i64 0)] := by kernel_rfl
theorem ze23 : zeroEl Tryz.prog 23 = some (.agg [.c (.int .i64 0), .c (.int .i64 0), .c (.int .i64 0)]) := by kernel_rfl
theorem ia23 (x : AV) (i : Int) (H : List AO) : aIdxAddr Tryz.prog 23 x i H = (ptrAdd x (i.toNat * 1)).map fun v => (0 ≤ i ∧ i < 3, v) := by unfold aIdxAddr; simp only [un23, show szT Tryz.prog 3 = some 1 by kernel_rfl]; rfl
theorem sz24 : szT Tryz.prog 24 = some 3 := by kernel_rfl
theorem ag24 : aggT Tryz.prog 24 = some true := by kernel_rfl
theorem by24 : bytesT Tryz.prog 24 = some 3 := by kernel_rfl
theorem un24 : Tryz.prog.underlying 24 = some (Go.TypeDesc.array 3 4) := by kernel_rfl
theorem zc24 : zeroCells Tryz.prog 24 = some [.c (.bool false), .c (.bool false), .c (.bool false)] := by kernel_rfl
theorem ze24 : zeroEl Tryz.prog 24 = some (.agg [.c (.bool false), .c (.bool false), .c (.bool false)]) := by kernel_rfl
theorem ia24 (x : AV) (i : Int) (H : List AO) : aIdxAddr Tryz.prog 24 x i H = (ptrAdd x (i.toNat * 1)).map fun v => (0 ≤ i ∧ i < 3, v) := by unfold aIdxAddr; simp only [un24, show szT Tryz.prog 4 = some 1 by kernel_rfl]; rfl
theorem sz26 : szT Tryz.prog 26 = some 7 := by kernel_rfl
theorem ag26 : aggT Tryz.prog 26 = some true := by kernel_rfl
theorem by26 : bytesT Tryz.prog 26 = some 32 := by kernel_rfl
theorem un26 : Tryz.prog.underlying 26 = some (Go.TypeDesc.struct #[{ name := "Shape", type := 22, offset := 0, embedded := false, tag := "", pkgPath := "", byteOffset := 0 }, { name := "Torus", type := 24, offset := 3, embedded := false, tag := "", pkgPath := "", byteOffset := 24 }, { name := "Turn", type := 4, offset := 6, embedded := false, tag := "", pkgPath := "", byteOffset := 27 }]) := by kernel_rfl
theorem zc26 : zeroCells Tryz.prog 26 = some [.c (.int .i64 0), .c (.int .i64 0), .c (.int .i64 0), .c (.bool false), .c (.bool false), .c (.bool false), .c (.bool false)] := by kernel_rfl
theorem ze26 : zeroEl Tryz.prog 26 = some (.agg [.c (.int .i64 0), .c (.int .i64 0), .c (.int .i64 0), .c (.bool false), .c (.bool false), .c (.bool false), .c (.bool false)]) := by kernel_rfl
theorem fa26 : Array.all (#[{ name := "Shape", type := 22, offset := 0, embedded := false, tag := "", pkgPath := "", byteOffset := 0 }, { name := "Torus", type := 24, offset := 3, embedded := false, tag := "", pkgPath := "", byteOffset := 24 }, { name := "Turn", type := 4, offset := 6, embedded := false, tag := "", pkgPath := "", byteOffset := 27 }] : Array Field) (fun f => (szT Tryz.prog f.type).isSome) 0 3 = true := by kernel_rfl
theorem fp26_0 : fieldPlaces Tryz.prog #[{ name := "Shape", type := 22, offset := 0, embedded := false, tag := "", pkgPath := "", byteOffset := 0 }, { name := "Torus", type := 24, offset := 3, embedded := false, tag := "", pkgPath := "", byteOffset := 24 }, { name := "Turn", type := 4, offset := 6, embedded := false, tag := "", pkgPath := "", byteOffset := 27 }] 0 = some (0, 3) := by kernel_rfl
theorem fp26_1 : fieldPlaces Tryz.prog #[{ name := "Shape", type := 22, offset := 0, embedded := false, tag := "", pkgPath := "", byteOffset := 0 }, { name := "Torus", type := 24, offset := 3, embedded := false, tag := "", pkgPath := "", byteOffset := 24 }, { name := "Turn", type := 4, offset := 6, embedded := false, tag := "", pkgPath := "", byteOffset := 27 }] 1 = some (3, 3) := by kernel_rfl
theorem fp26_2 : fieldPlaces Tryz.prog #[{ name := "Shape", type := 22, offset := 0, embedded := false, tag := "", pkgPath := "", byteOffset := 0 }, { name := "Torus", type := 24, offset := 3, embedded := false, tag := "", pkgPath := "", byteOffset := 24 }, { name := "Turn", type := 4, offset := 6, embedded := false, tag := "", pkgPath := "", byteOffset := 27 }] 2 = some (6, 1) := by kernel_rfl
theorem fo26_0 : fieldOffA Tryz.prog 26 0 = some 0 := by kernel_rfl
theorem fo26_1 : fieldOffA Tryz.prog 26 1 = some 3 := by kernel_rfl
theorem fo26_2 : fieldOffA Tryz.prog 26 2 = some 6 := by kernel_rfl
theorem sz28 : szT Tryz.prog 28 = some 1 := by kernel_rfl
theorem ag28 : aggT Tryz.prog 28 = some false := by kernel_rfl
theorem by28 : bytesT Tryz.prog 28 = some 24 := by kernel_rfl
theorem un28 : Tryz.prog.underlying 28 = some (Go.TypeDesc.slice 53) := by kernel_rfl
theorem zc28 : zeroCells Tryz.prog 28 = some [.c (.slice none 0 0)] := by kernel_rfl
theorem ze28 : zeroEl Tryz.prog 28 = some (.c (.slice none 0 0)) := by kernel_rfl
theorem ia28i (l : List AV) (i : Int) (H : List AO) : aIdxAddr Tryz.prog 28 (.isl l) i H = some ((0 ≤ i ∧ i < (l.length : Int)) ∧ (l.getD i.toNat .un).cells.length = 1, .iptr (l.getD i.toNat .un).cells 0) := by unfold aIdxAddr; simp only [un28, show szT Tryz.prog 53 = some 1 by kernel_rfl]
theorem ia28s (id st len cap : Nat) (i : Int) (H : List AO) : aIdxAddr Tryz.prog 28 (.sl id st len cap) i H = (match H[id]? with | some (.arr sz es) => if sz = 1 then some (0 ≤ i ∧ i < (len : Int), .eptr id (st + i.toNat) 0) else none | _ => none) := by unfold aIdxAddr; simp only [un28, show szT Tryz.prog 53 = some 1 by kernel_rfl]; rfl
theorem li28 (l : List AV) : aLen Tryz.prog 28 (.isl l) = some (l.length : Int) := by unfold aLen; simp only [un28]
theorem ls28 (id st len cap : Nat) : aLen Tryz.prog 28 (.sl id st len cap) = some (len : Int) := by unfold aLen; simp only [un28]
theorem ln28  : aLen Tryz.prog 28 (.c (.slice none 0 0)) = some 0 := by unfold aLen; simp only [un28]
theorem lz28  : aLen Tryz.prog 28 .zs = some 0 := by unfold aLen; simp only [un28]
theorem sz32 : szT Tryz.prog 32 = some 6 := by kernel_rfl
theorem ag32 : aggT Tryz.prog 32 = some true := by kernel_rfl
theorem by32 : bytesT Tryz.prog 32 = some 48 := by kernel_rfl
theorem un32 : Tryz.prog.underlying 32 = some (Go.TypeDesc.struct #[{ name := "Base", type := 22, offset := 0, embedded := false, tag := "", pkgPath := "", byteOffset := 0 }, { name := "Size", type := 22, offset := 3, embedded := false, tag := "", pkgPath := "", byteOffset := 24 }]) := by kernel_rfl
theorem zc32 : zeroCells Tryz.prog 32 = some [.c (.int .i64 0), .c (.int .i64 0), .c (.int .i64 0), .c (.int .i64 0), .c (.int .i64 0), .c (.int .i64 0)] := by kernel_rfl
theorem ze32 : zeroEl Tryz.prog 32 = some (.agg [.c (.int .i64 0), .c (.int .i64 0), .c (.int .i64 0), .c (.int .i64 0), .c (.int .i64 0), .c (.int .i64 0)]) := by kernel_rfl
theorem fa32 : Array.all (#[{ name := "Base", type := 22, offset := 0, embedded := false, tag := "", pkgPath := "", byteOffset := 0 }, { name := "Size", type := 22, offset := 3, embedded := false, tag := "", pkgPath := "", byteOffset := 24 }] : Array Field) (fun f => (szT Tryz.prog f.type).isSome) 0 2 = true := by kernel_rfl
theorem fp32_0 : fieldPlaces Tryz.prog #[{ name := "Base", type := 22, offset := 0, embedded := false, tag := "", pkgPath := "", byteOffset := 0 }, { name := "Size", type := 22, offset := 3, embedded := false, tag := "", pkgPath := "", byteOffset := 24 }] 0 = some (0, 3) := by kernel_rfl
theorem fp32_1 : fieldPlaces Tryz.prog #[{ name := "Base", type := 22, offset := 0, embedded := false, tag := "", pkgPath := "", byteOffset := 0 }, { name := "Size", type := 22, offset := 3, embedded := false, tag := "", pkgPath := "", byteOffset := 24 }] 1 = some (3, 3) := by kernel_rfl
theorem fo32_0 : fieldOffA Tryz.prog 32 0 = some 0 := by kernel_rfl
theorem fo32_1 : fieldOffA Tryz.prog 32 1 = some 3 := by kernel_rfl
theorem sz34 : szT Tryz.prog 34 = some 9 := by kernel_rfl
theorem ag34 : aggT Tryz.prog 34 = some true := by kernel_rfl
theorem by34 : bytesT Tryz.prog 34 = some 56 := by kernel_rfl
theorem un34 : Tryz.prog.underlying 34 = some (Go.TypeDesc.struct #[{ name := "Box", type := 32, offset := 0, embedded := false, tag := "", pkgPath := "", byteOffset := 0 }, { name := "Torus", type := 24, offset := 6, embedded := false, tag := "", pkgPath := "", byteOffset := 48 }]) := by kernel_rfl
theorem zc34 : zeroCells Tryz.prog 34 = some [.c (.int .i64 0), .c (.int .i64 0), .c (.int .i64 0), .c (.int .i64 0), .c (.int .i64 0), .c (.int .i64 0), .c (.bool false), .c (.bool false), .c (.bool false)] := by kernel_rfl
theorem ze34 : zeroEl Tryz.prog 34 = some (.agg [.c (.int .i64 0), .c (.int .i64 0), .c (.int .i64 0), .c (.int .i64 0), .c (.int .i64 0), .c (.int .i64 0), .c (.bool false), .c (.bool false), .c (.bool false)]) := by kernel_rfl
theorem fa34 : Array.all (#[{ name := "Box", type := 32, offset := 0, embedded := false, tag := "", pkgPath := "", byteOffset := 0 }, { name := "Torus", type := 24, offset := 6, embedded := false, tag := "", pkgPath := "", byteOffset := 48 }] : Array Field) (fun f => (szT Tryz.prog f.type).isSome) 0 2 = true := by kernel_rfl
theorem fp34_0 : fieldPlaces Tryz.prog #[{ name := "Box", type := 32, offset := 0, embedded := false, tag := "", pkgPath := "", byteOffset := 0 }, { name := "Torus", type := 24, offset := 6, embedded := false, tag := "", pkgPath := "", byteOffset := 48 }] 0 = some (0, 6) := by kernel_rfl
theorem fp34_1 : fieldPlaces Tryz.prog #[{ name := "Box", type := 32, offset := 0, embedded := false, tag := "", pkgPath := "", byteOffset := 0 }, { name := "Torus", type := 24, offset := 6, embedded := false, tag := "", pkgPath := "", byteOffset := 48 }] 1 = some (6, 3) := by kernel_rfl
theorem fo34_0 : fieldOffA Tryz.prog 34 0 = some 0 := by kernel_rfl
theorem fo34_1 : fieldOffA Tryz.prog 34 1 = some 6 := by kernel_rfl
theorem sz35 : szT Tryz.prog 35 = some 1 := by kernel_rfl
theorem ag35 : aggT Tryz.prog 35 = some false := by kernel_rfl
theorem by35 : bytesT Tryz.prog 35 = some 8 := by kernel_rfl
theorem un35 : Tryz.prog.underlying 35 = some (Go.TypeDesc.int (Go.IntKind.i64)) := by kernel_rfl
theorem zc35 : zeroCells Tryz.prog 35 = some [.c (.int .i64 0)] := by kernel_rfl
theorem ze35 : zeroEl Tryz.prog 35 = some (.c (.int .i64 0)) := by kernel_rfl
theorem sz39 : szT Tryz.prog 39 = some 1 := by kernel_rfl
theorem ag39 : aggT Tryz.prog 39 = some false := by kernel_rfl
theorem by39 : bytesT Tryz.prog 39 = some 8 := by kernel_rfl
theorem zc39 : zeroCells Tryz.prog 39 = some [.c .nilFunc] := by kernel_rfl
theorem ze39 : zeroEl Tryz.prog 39 = some (.c .nilFunc) := by kernel_rfl
theorem sz43 : szT Tryz.prog 43 = some 1 := by kernel_rfl
theorem ag43 : aggT Tryz.prog 43 = some false := by kernel_rfl
theorem by43 : bytesT Tryz.prog 43 = some 24 := by kernel_rfl
theorem un43 : Tryz.prog.underlying 43 = some (Go.TypeDesc.slice 34) := by kernel_rfl
theorem zc43 : zeroCells Tryz.prog 43 = some [.c (.slice none 0 0)] := by kernel_rfl
theorem ze43 : zeroEl Tryz.prog 43 = some (.c (.slice none 0 0)) := by kernel_rfl
theorem ia43i (l : List AV) (i : Int) (H : List AO) : aIdxAddr Tryz.prog 43 (.isl l) i H = some ((0 ≤ i ∧ i < (l.length : Int)) ∧ (l.getD i.toNat .un).cells.length = 9, .iptr (l.getD i.toNat .un).cells 0) := by unfold aIdxAddr; simp only [un43, show szT Tryz.prog 34 = some 9 by kernel_rfl]
theorem ia43s (id st len cap : Nat) (i : Int) (H : List AO) : aIdxAddr Tryz.prog 43 (.sl id st len cap) i H = (match H[id]? with | some (.arr sz es) => if sz = 9 then some (0 ≤ i ∧ i < (len : Int), .eptr id (st + i.toNat) 0) else none | _ => none) := by unfold aIdxAddr; simp only [un43, show szT Tryz.prog 34 = some 9 by kernel_rfl]; rfl
theorem li43 (l : List AV) : aLen Tryz.prog 43 (.isl l) = some (l.length : Int) := by unfold aLen; simp only [un43]
theorem ls43 (id st len cap : Nat) : aLen Tryz.prog 43 (.sl id st len cap) = some (len : Int) := by unfold aLen; simp only [un43]
theorem ln43  : aLen Tryz.prog 43 (.c (.slice none 0 0)) = some 0 := by unfold aLen; simp only [un43]
theorem lz43  : aLen Tryz.prog 43 .zs = some 0 := by unfold aLen; simp only [un43]
theorem sz53 : szT Tryz.prog 53 = some 1 := by kernel_rfl
theorem ag53 : aggT Tryz.prog 53 = some false := by kernel_rfl
theorem by53 : bytesT Tryz.prog 53 = some 8 := by kernel_rfl
theorem un53 : Tryz.prog.underlying 53 = some (Go.TypeDesc.int (Go.IntKind.u64)) := by kernel_rfl
theorem zc53 : zeroCells Tryz.prog 53 = some [.c (.int .u64 0)] := by kernel_rfl
theorem ze53 : zeroEl Tryz.prog 53 = some (.c (.int .u64 0)) := by kernel_rfl
theorem sz55 : szT Tryz.prog 55 = some 1 := by kernel_rfl
theorem ag55 : aggT Tryz.prog 55 = some false := by kernel_rfl
theorem by55 : bytesT Tryz.prog 55 = some 8 := by kernel_rfl
theorem zc55 : zeroCells Tryz.prog 55 = some [.c .nilFunc] := by kernel_rfl
theorem ze55 : zeroEl Tryz.prog 55 = some (.c .nilFunc) := by kernel_rfl
theorem sz58 : szT Tryz.prog 58 = some 1 := by kernel_rfl
theorem ag58 : aggT Tryz.prog 58 = some false := by kernel_rfl
theorem by58 : bytesT Tryz.prog 58 = some 8 := by kernel_rfl
theorem zc58 : zeroCells Tryz.prog 58 = some [.c .nilFunc] := by kernel_rfl
theorem ze58 : zeroEl Tryz.prog 58 = some (.c .nilFunc) := by kernel_rfl
theorem sz71 : szT Tryz.prog 71 = some 1 := by kernel_rfl
theorem ag71 : aggT Tryz.prog 71 = some false := by kernel_rfl
theorem by71 : bytesT Tryz.prog 71 = some 8 := by kernel_rfl
theorem zc71 : zeroCells Tryz.prog 71 = some [.c .nilFunc] := by kernel_rfl
theorem ze71 : zeroEl Tryz.prog 71 = some (.c .nilFunc) := by kernel_rfl
theorem sz73 : szT Tryz.prog 73 = some 1 := by kernel_rfl
theorem ag73 : aggT Tryz.prog 73 = some false := by kernel_rfl
theorem by73 : bytesT Tryz.prog 73 = some 24 := by kernel_rfl
theorem un73 : Tryz.prog.underlying 73 = some (Go.TypeDesc.slice 26) := by kernel_rfl
theorem zc73 : zeroCells Tryz.prog 73 = some [.c (.slice none 0 0)] := by kernel_rfl
theorem ze73 : zeroEl Tryz.prog 73 = some (.c (.slice none 0 0)) := by kernel_rfl
theorem ia73i (l : List AV) (i : Int) (H : List AO) : aIdxAddr Tryz.prog 73 (.isl l) i H = some ((0 ≤ i ∧ i < (l.length : Int)) ∧ (l.getD i.toNat .un).cells.length = 7, .iptr (l.getD i.toNat .un).cells 0) := by unfold aIdxAddr; simp only [un73, show szT Tryz.prog 26 = some 7 by kernel_rfl]
theorem ia73s (id st len cap : Nat) (i : Int) (H : List AO) : aIdxAddr Tryz.prog 73 (.sl id st len cap) i H = (match H[id]? with | some (.arr sz es) => if sz = 7 then some (0 ≤ i ∧ i < (len : Int), .eptr id (st + i.toNat) 0) else none | _ => none) := by unfold aIdxAddr; simp only [un73, show szT Tryz.prog 26 = some 7 by kernel_rfl]; rfl
theorem li73 (l : List AV) : aLen Tryz.prog 73 (.isl l) = some (l.length : Int) := by unfold aLen; simp only [un73]
theorem ls73 (id st len cap : Nat) : aLen Tryz.prog 73 (.sl id st len cap) = some (len : Int) := by unfold aLen; simp only [un73]
theorem ln73  : aLen Tryz.prog 73 (.c (.slice none 0 0)) = some 0 := by unfold aLen; simp only [un73]
theorem lz73  : aLen Tryz.prog 73 .zs = some 0 := by unfold aLen; simp only [un73]
theorem sz78 : szT Tryz.prog 78 = some 1 := by kernel_rfl
theorem ag78 : aggT Tryz.prog 78 = some false := by kernel_rfl
theorem by78 : bytesT Tryz.prog 78 = some 8 := by kernel_rfl
theorem zc78 : zeroCells Tryz.prog 78 = some [.c .nilFunc] := by kernel_rfl
theorem ze78 : zeroEl Tryz.prog 78 = some (.c .nilFunc) := by kernel_rfl
theorem sz84 : szT Tryz.prog 84 = some 1 := by kernel_rfl
theorem ag84 : aggT Tryz.prog 84 = some false := by kernel_rfl
theorem by84 : bytesT Tryz.prog 84 = some 8 := by kernel_rfl
theorem un84 : Tryz.prog.underlying 84 = some (Go.TypeDesc.map 34 3) := by kernel_rfl
theorem zc84 : zeroCells Tryz.prog 84 = some [.c (.map none)] := by kernel_rfl
theorem ze84 : zeroEl Tryz.prog 84 = some (.c (.map none)) := by kernel_rfl
theorem sz86 : szT Tryz.prog 86 = some 1 := by kernel_rfl
theorem ag86 : aggT Tryz.prog 86 = some false := by kernel_rfl
theorem by86 : bytesT Tryz.prog 86 = some 8 := by kernel_rfl
theorem zc86 : zeroCells Tryz.prog 86 = some [.c .nilFunc] := by kernel_rfl
theorem ze86 : zeroEl Tryz.prog 86 = some (.c .nilFunc) := by kernel_rfl
theorem sz92 : szT Tryz.prog 92 = some 1 := by kernel_rfl
theorem ag92 : aggT Tryz.prog 92 = some false := by kernel_rfl
theorem by92 : bytesT Tryz.prog 92 = some 24 := by kernel_rfl
theorem un92 : Tryz.prog.underlying 92 = some (Go.TypeDesc.slice 3) := by kernel_rfl
theorem zc92 : zeroCells Tryz.prog 92 = some [.c (.slice none 0 0)] := by kernel_rfl
theorem ze92 : zeroEl Tryz.prog 92 = some (.c (.slice none 0 0)) := by kernel_rfl
theorem ia92i (l : List AV) (i : Int) (H : List AO) : aIdxAddr Tryz.prog 92 (.isl l) i H = some ((0 ≤ i ∧ i < (l.length : Int)) ∧ (l.getD i.toNat .un).cells.length = 1, .iptr (l.getD i.toNat .un).cells 0) := by unfold aIdxAddr; simp only [un92, show szT Tryz.prog 3 = some 1 by kernel_rfl]
theorem ia92s (id st len cap : Nat) (i : Int) (H : List AO) : aIdxAddr Tryz.prog 92 (.sl id st len cap) i H = (match H[id]? with | some (.arr sz es) => if sz = 1 then some (0 ≤ i ∧ i < (len : Int), .eptr id (st + i.toNat) 0) else none | _ => none) := by unfold aIdxAddr; simp only [un92, show szT Tryz.prog 3 = some 1 by kernel_rfl]; rfl
theorem li92 (l : List AV) : aLen Tryz.prog 92 (.isl l) = some (l.length : Int) := by unfold aLen; simp only [un92]
theorem ls92 (id st len cap : Nat) : aLen Tryz.prog 92 (.sl id st len cap) = some (len : Int) := by unfold aLen; simp only [un92]
theorem ln92  : aLen Tryz.prog 92 (.c (.slice none 0 0)) = some 0 := by unfold aLen; simp only [un92]
theorem lz92  : aLen Tryz.prog 92 .zs = some 0 := by unfold aLen; simp only [un92]
theorem sz102 : szT Tryz.prog 102 = some 1 := by kernel_rfl
theorem ag102 : aggT Tryz.prog 102 = some false := by kernel_rfl
theorem by102 : bytesT Tryz.prog 102 = some 8 := by kernel_rfl
theorem un102 : Tryz.prog.underlying 102 = some (Go.TypeDesc.int (Go.IntKind.u64)) := by kernel_rfl
theorem zc102 : zeroCells Tryz.prog 102 = some [.c (.int .u64 0)] := by kernel_rfl
theorem ze102 : zeroEl Tryz.prog 102 = some (.c (.int .u64 0)) := by kernel_rfl
theorem sz107 : szT Tryz.prog 107 = some 1 := by kernel_rfl
theorem ag107 : aggT Tryz.prog 107 = some false := by kernel_rfl
theorem by107 : bytesT Tryz.prog 107 = some 8 := by kernel_rfl
theorem zc107 : zeroCells Tryz.prog 107 = some [.c .nilFunc] := by kernel_rfl
theorem ze107 : zeroEl Tryz.prog 107 = some (.c .nilFunc) := by kernel_rfl
theorem sz108 : szT Tryz.prog 108 = some 1 := by kernel_rfl
theorem ag108 : aggT Tryz.prog 108 = some false := by kernel_rfl
theorem by108 : bytesT Tryz.prog 108 = some 8 := by kernel_rfl
theorem zc108 : zeroCells Tryz.prog 108 = some [.c .nilFunc] := by kernel_rfl
theorem ze108 : zeroEl Tryz.prog 108 = some (.c .nilFunc) := by kernel_rfl
theorem sz114 : szT Tryz.prog 114 = some 1 := by kernel_rfl
theorem ag114 : aggT Tryz.prog 114 = some false := by kernel_rfl
theorem by114 : bytesT Tryz.prog 114 = some 8 := by kernel_rfl
theorem un114 : Tryz.prog.underlying 114 = some (Go.TypeDesc.map 26 4) := by kernel_rfl
theorem zc114 : zeroCells Tryz.prog 114 = some [.c (.map none)] := by kernel_rfl
theorem ze114 : zeroEl Tryz.prog 114 = some (.c (.map none)) := by kernel_rfl
theorem sz115 : szT Tryz.prog 115 = some 18 := by kernel_rfl
theorem ag115 : aggT Tryz.prog 115 = some true := by kernel_rfl
theorem by115 : bytesT Tryz.prog 115 = some 144 := by kernel_rfl
theorem un115 : Tryz.prog.underlying 115 = some (Go.TypeDesc.array 6 22) := by kernel_rfl
theorem zc115 : zeroCells Tryz.prog 115 = some [.c (.int .i64 0), .c (.int .i64 0), .c (.int .i64 0), .c (.int .i64 0), .c (.int .i64 0), .c (.int .i64 0), .c (.int .i64 0), .c (.int .i64 0), .c (.int .i64 0), .c (.int .i64 0), .c (.int .i64 0), .c (.int .i64 0), .c (.int .i64 0), .c (.int .i64 0), .c (.int .i64 0), .c (.int .i64 0), .c (.int .i64 0), .c (.int .i64 0)] := by kernel_rfl
theorem ze115 : zeroEl Tryz.prog 115 = some (.agg [.c (.int .i64 0), .c (.int .i64 0), .c (.int .i64 0), .c (.int .i64 0), .c (.int .i64 0), .c (.int .i64 0), .c (.int .i64 0), .c (.int .i64 0), .c (.int .i64 0), .c (.int .i64 0), .c (.int .i64 0), .c (.int .i64 0), .c (.int .i64 0), .c (.int .i64 0), .c (.int .i64 0), .c (.int .i64 0), .c (.int .i64 0), .c (.int .i64 0)]) := by kernel_rfl
theorem ia115 (x : AV) (i : Int) (H : List AO) : aIdxAddr Tryz.prog 115 x i H = (ptrAdd x (i.toNat * 3)).map fun v => (0 ≤ i ∧ i < 6, v) := by unfold aIdxAddr; simp only [un115, show szT Tryz.prog 22 = some 3 by kernel_rfl]; rfl
theorem sz118 : szT Tryz.prog 118 = some 1 := by kernel_rfl
theorem ag118 : aggT Tryz.prog 118 = some false := by kernel_rfl
theorem by118 : bytesT Tryz.prog 118 = some 8 := by kernel_rfl
theorem zc118 : zeroCells Tryz.prog 118 = some [.c .nilFunc] := by kernel_rfl
theorem ze118 : zeroEl Tryz.prog 118 = some (.c .nilFunc) := by kernel_rfl
theorem sz119 : szT Tryz.prog 119 = some 1 := by kernel_rfl
theorem ag119 : aggT Tryz.prog 119 = some false := by kernel_rfl
theorem by119 : bytesT Tryz.prog 119 = some 8 := by kernel_rfl
theorem zc119 : zeroCells Tryz.prog 119 = some [.c .nilFunc] := by kernel_rfl
theorem ze119 : zeroEl Tryz.prog 119 = some (.c .nilFunc) := by kernel_rfl
theorem sz121 : szT Tryz.prog 121 = some 1 := by kernel_rfl
theorem ag121 : aggT Tryz.prog 121 = some false := by kernel_rfl
theorem by121 : bytesT Tryz.prog 121 = some 8 := by kernel_rfl
theorem zc121 : zeroCells Tryz.prog 121 = some [.c .nilFunc] := by kernel_rfl
theorem ze121 : zeroEl Tryz.prog 121 = some (.c .nilFunc) := by kernel_rfl
theorem sz123 : szT Tryz.prog 123 = some 1 := by kernel_rfl
theorem ag123 : aggT Tryz.prog 123 = some false := by kernel_rfl
theorem by123 : bytesT Tryz.prog 123 = some 24 := by kernel_rfl
theorem un123 : Tryz.prog.underlying 123 = some (Go.TypeDesc.slice 28) := by kernel_rfl
theorem zc123 : zeroCells Tryz.prog 123 = some [.c (.slice none 0 0)] := by kernel_rfl
theorem ze123 : zeroEl Tryz.prog 123 = some (.c (.slice none 0 0)) := by kernel_rfl
theorem ia123i (l : List AV) (i : Int) (H : List AO) : aIdxAddr Tryz.prog 123 (.isl l) i H = some ((0 ≤ i ∧ i < (l.length : Int)) ∧ (l.getD i.toNat .un).cells.length = 1, .iptr (l.getD i.toNat .un).cells 0) := by unfold aIdxAddr; simp only [un123, show szT Tryz.prog 28 = some 1 by kernel_rfl]
theorem ia123s (id st len cap : Nat) (i : Int) (H : List AO) : aIdxAddr Tryz.prog 123 (.sl id st len cap) i H = (match H[id]? with | some (.arr sz es) => if sz = 1 then some (0 ≤ i ∧ i < (len : Int), .eptr id (st + i.toNat) 0) else none | _ => none) := by unfold aIdxAddr; simp only [un123, show szT Tryz.prog 28 = some 1 by kernel_rfl]; rfl
theorem li123 (l : List AV) : aLen Tryz.prog 123 (.isl l) = some (l.length : Int) := by unfold aLen; simp only [un123]
theorem ls123 (id st len cap : Nat) : aLen Tryz.prog 123 (.sl id st len cap) = some (len : Int) := by unfold aLen; simp only [un123]
theorem ln123  : aLen Tryz.prog 123 (.c (.slice none 0 0)) = some 0 := by unfold aLen; simp only [un123]
theorem lz123  : aLen Tryz.prog 123 .zs = some 0 := by unfold aLen; simp only [un123]
theorem sz126 : szT Tryz.prog 126 = some 1 := by kernel_rfl
theorem ag126 : aggT Tryz.prog 126 = some false := by kernel_rfl
theorem by126 : bytesT Tryz.prog 126 = some 8 := by kernel_rfl
theorem zc126 : zeroCells Tryz.prog 126 = some [.c .nilFunc] := by kernel_rfl
theorem ze126 : zeroEl Tryz.prog 126 = some (.c .nilFunc) := by kernel_rfl
theorem sz127 : szT Tryz.prog 127 = some 1 := by kernel_rfl
theorem ag127 : aggT Tryz.prog 127 = some false := by kernel_rfl
theorem by127 : bytesT Tryz.prog 127 = some 8 := by kernel_rfl
theorem zc127 : zeroCells Tryz.prog 127 = some [.c .nilFunc] := by kernel_rfl
theorem ze127 : zeroEl Tryz.prog 127 = some (.c .nilFunc) := by kernel_rfl
theorem sz130 : szT Tryz.prog 130 = some 1 := by kernel_rfl
theorem ag130 : aggT Tryz.prog 130 = some false := by kernel_rfl
theorem by130 : bytesT Tryz.prog 130 = some 8 := by kernel_rfl
theorem zc130 : zeroCells Tryz.prog 130 = some [.c .nilFunc] := by kernel_rfl
theorem ze130 : zeroEl Tryz.prog 130 = some (.c .nilFunc) := by kernel_rfl
theorem sz131 : szT Tryz.prog 131 = some 1 := by kernel_rfl
theorem ag131 : aggT Tryz.prog 131 = some false := by kernel_rfl
theorem by131 : bytesT Tryz.prog 131 = some 8 := by kernel_rfl
theorem zc131 : zeroCells Tryz.prog 131 = some [.c .nilFunc] := by kernel_rfl
theorem ze131 : zeroEl Tryz.prog 131 = some (.c .nilFunc) := by kernel_rfl
theorem sz133 : szT Tryz.prog 133 = some 1 := by kernel_rfl
theorem ag133 : aggT Tryz.prog 133 = some false := by kernel_rfl
theorem by133 : bytesT Tryz.prog 133 = some 8 := by kernel_rfl
theorem zc133 : zeroCells Tryz.prog 133 = some [.c .nilFunc] := by kernel_rfl
theorem ze133 : zeroEl Tryz.prog 133 = some (.c .nilFunc) := by kernel_rfl
theorem sz136 : szT Tryz.prog 136 = some 1 := by kernel_rfl
theorem ag136 : aggT Tryz.prog 136 = some false := by kernel_rfl
theorem by136 : bytesT Tryz.prog 136 = some 8 := by kernel_rfl
theorem zc136 : zeroCells Tryz.prog 136 = some [.c .nilFunc] := by kernel_rfl
theorem ze136 : zeroEl Tryz.prog 136 = some (.c .nilFunc) := by kernel_rfl
theorem sz138 : szT Tryz.prog 138 = some 1 := by kernel_rfl
theorem ag138 : aggT Tryz.prog 138 = some false := by kernel_rfl
theorem by138 : bytesT Tryz.prog 138 = some 8 := by kernel_rfl
theorem un138 : Tryz.prog.underlying 138 = some (Go.TypeDesc.int (Go.IntKind.i64)) := by kernel_rfl
theorem zc138 : zeroCells Tryz.prog 138 = some [.c (.int .i64 0)] := by kernel_rfl
theorem ze138 : zeroEl Tryz.prog 138 = some (.c (.int .i64 0)) := by kernel_rfl
theorem sz145 : szT Tryz.prog 145 = some 1 := by kernel_rfl
theorem ag145 : aggT Tryz.prog 145 = some false := by kernel_rfl
theorem by145 : bytesT Tryz.prog 145 = some 4 := by kernel_rfl
theorem un145 : Tryz.prog.underlying 145 = some (Go.TypeDesc.int (Go.IntKind.u32)) := by kernel_rfl
theorem zc145 : zeroCells Tryz.prog 145 = some [.c (.int .u32 0)] := by kernel_rfl
theorem ze145 : zeroEl Tryz.prog 145 = some (.c (.int .u32 0)) := by kernel_rfl
theorem sz152 : szT Tryz.prog 152 = some 2 := by kernel_rfl
theorem ag152 : aggT Tryz.prog 152 = some true := by kernel_rfl
theorem by152 : bytesT Tryz.prog 152 = some 16 := by kernel_rfl
theorem un152 : Tryz.prog.underlying 152 = some (Go.TypeDesc.array 2 3) := by kernel_rfl
theorem zc152 : zeroCells Tryz.prog 152 = some [.c (.int .i64 0), .c (.int .i64 0)] := by kernel_rfl
theorem ze152 : zeroEl Tryz.prog 152 = some (.agg [.c (.int .i64 0), .c (.int .i64 0)]) := by kernel_rfl
theorem ia152 (x : AV) (i : Int) (H : List AO) : aIdxAddr Tryz.prog 152 x i H = (ptrAdd x (i.toNat * 1)).map fun v => (0 ≤ i ∧ i < 2, v) := by unfold aIdxAddr; simp only [un152, show szT Tryz.prog 3 = some 1 by kernel_rfl]; rfl
theorem sz154 : szT Tryz.prog 154 = some 1 := by kernel_rfl
theorem ag154 : aggT Tryz.prog 154 = some false := by kernel_rfl
theorem by154 : bytesT Tryz.prog 154 = some 8 := by kernel_rfl
theorem zc154 : zeroCells Tryz.prog 154 = some [.c .nilFunc] := by kernel_rfl
theorem ze154 : zeroEl Tryz.prog 154 = some (.c .nilFunc) := by kernel_rfl
theorem sz159 : szT Tryz.prog 159 = some 1 := by kernel_rfl
theorem ag159 : aggT Tryz.prog 159 = some false := by kernel_rfl
theorem by159 : bytesT Tryz.prog 159 = some 8 := by kernel_rfl
theorem un159 : Tryz.prog.underlying 159 = some (Go.TypeDesc.int (Go.IntKind.u64)) := by kernel_rfl
theorem zc159 : zeroCells Tryz.prog 159 = some [.c (.int .u64 0)] := by kernel_rfl
theorem ze159 : zeroEl Tryz.prog 159 = some (.c (.int .u64 0)) := by kernel_rfl
theorem sz163 : szT Tryz.prog 163 = some 1 := by kernel_rfl
theorem ag163 : aggT Tryz.prog 163 = some false := by kernel_rfl
theorem by163 : bytesT Tryz.prog 163 = some 8 := by kernel_rfl
theorem un163 : Tryz.prog.underlying 163 = some (Go.TypeDesc.pointer 3) := by kernel_rfl
theorem zc163 : zeroCells Tryz.prog 163 = some [.c (.pointer none)] := by kernel_rfl
theorem ze163 : zeroEl Tryz.prog 163 = some (.c (.pointer none)) := by kernel_rfl
theorem sz167 : szT Tryz.prog 167 = some 64 := by kernel_rfl
theorem ag167 : aggT Tryz.prog 167 = some true := by kernel_rfl
theorem by167 : bytesT Tryz.prog 167 = some 64 := by kernel_rfl
theorem un167 : Tryz.prog.underlying 167 = some (Go.TypeDesc.array 64 5) := by kernel_rfl
theorem zc167 : zeroCells Tryz.prog 167 = some [.c (.int .u8 0), .c (.int .u8 0), .c (.int .u8 0), .c (.int .u8 0), .c (.int .u8 0), .c (.int .u8 0), .c (.int .u8 0), .c (.int .u8 0), .c (.int .u8 0), .c (.int .u8 0), .c (.int .u8 0), .c (.int .u8 0), .c (.int .u8 0), .c (.int .u8 0), .c (.int .u8 0), .c (.int .u8 0), .c (.int .u8 0), .c (.int .u8 0), .c (.int .u8 0), .c (.int .u8 0), .c (.int .u8 0), .c (.int .u8 0), .c (.int .u8 0), .c (.int .u8 0), .c (.int .u8 0), .c (.int .u8 0), .c (.int .u8 0), .c (.int .u8 0), .c (.int .u8 0), .c (.int .u8 0), .c (.int .u8 0), .c (.int .u8 0), .c (.int .u8 0), .c (.int .u8 0), .c (.int .u8 0), .c (.int .u8 0), .c (.int .u8 0), .c (.int .u8 0), .c (.int .u8 0), .c (.int .u8 0), .c (.int .u8 0), .c (.int .u8 0), .c (.int .u8 0), .c (.int .u8 0), .c (.int .u8 0), .c (.int .u8 0), .c (.int .u8 0), .c (.int .u8 0), .c (.int .u8 0), .c (.int .u8 0), .c (.int .u8 0), .c (.int .u8 0), .c (.int .u8 0), .c (.int .u8 0), .c (.int .u8 0), .c (.int .u8 0), .c (.int .u8 0), .c (.int .u8 0), .c (.int .u8 0), .c (.int .u8 0), .c (.int .u8 0), .c (.int .u8 0), .c (.int .u8 0), .c (.int .u8 0)] := by kernel_rfl
theorem ze167 : zeroEl Tryz.prog 167 = some (.agg [.c (.int .u8 0), .c (.int .u8 0), .c (.int .u8 0), .c (.int .u8 0), .c (.int .u8 0), .c (.int .u8 0), .c (.int .u8 0), .c (.int .u8 0), .c (.int .u8 0), .c (.int .u8 0), .c (.int .u8 0), .c (.int .u8 0), .c (.int .u8 0), .c (.int .u8 0), .c (.int .u8 0), .c (.int .u8 0), .c (.int .u8 0), .c (.int .u8 0), .c (.int .u8 0), .c (.int .u8 0), .c (.int .u8 0), .c (.int .u8 0), .c (.int .u8 0), .c (.int .u8 0), .c (.int .u8 0), .c (.int .u8 0), .c (.int .u8 0), .c (.int .u8 0), .c (.int .u8 0), .c (.int .u8 0), .c (.int .u8 0), .c (.int .u8 0), .c (.int .u8 0), .c (.int .u8 0), .c (.int .u8 0), .c (.int .u8 0), .c (.int .u8 0), .c (.int .u8 0), .c (.int .u8 0), .c (.int .u8 0), .c (.int .u8 0), .c (.int .u8 0), .c (.int .u8 0), .c (.int .u8 0), .c (.int .u8 0), .c (.int .u8 0), .c (.int .u8 0), .c (.int .u8 0), .c (.int .u8 0), .c (.int .u8 0), .c (.int .u8 0), .c (.int .u8 0), .c (.int .u8 0), .c (.int .u8 0), .c (.int .u8 0), .c (.int .u8 0), .c (.int .u8 0), .c (.int .u8 0), .c (.int .u8 0), .c (.int .u8 0), .c (.int .u8 0), .c (.int .u8 0), .c (.int .u8 0), .c (.int .u8 0)]) := by kernel_rfl
theorem ia167 (x : AV) (i : Int) (H : List AO) : aIdxAddr Tryz.prog 167 x i H = (ptrAdd x (i.toNat * 1)).map fun v => (0 ≤ i ∧ i < 64, v) := by unfold aIdxAddr; simp only [un167, show szT Tryz.prog 5 = some 1 by kernel_rfl]; rfl
theorem sz170 : szT Tryz.prog 170 = some 1 := by kernel_rfl
theorem ag170 : aggT Tryz.prog 170 = some false := by kernel_rfl
theorem by170 : bytesT Tryz.prog 170 = some 8 := by kernel_rfl
theorem un170 : Tryz.prog.underlying 170 = some (Go.TypeDesc.pointer 159) := by kernel_rfl
theorem zc170 : zeroCells Tryz.prog 170 = some [.c (.pointer none)] := by kernel_rfl
theorem ze170 : zeroEl Tryz.prog 170 = some (.c (.pointer none)) := by kernel_rfl
theorem ty0 : (szT Tryz.prog 3 = some 1) ∧ (aggT Tryz.prog 3 = some false) ∧ (bytesT Tryz.prog 3 = some 8) ∧ (Tryz.prog.underlying 3 = some (Go.TypeDesc.int (Go.IntKind.i64))) ∧ (zeroCells Tryz.prog 3 = some [.c (.int .i64 0)]) ∧ (zeroEl Tryz.prog 3 = some (.c (.int .i64 0))) ∧ (szT Tryz.prog 4 = some 1) ∧ (aggT Tryz.prog 4 = some false) ∧ (bytesT Tryz.prog 4 = some 1) ∧ (Tryz.prog.underlying 4 = some (Go.TypeDesc.bool)) ∧ (zeroCells Tryz.prog 4 = some [.c (.bool false)]) ∧ (zeroEl Tryz.prog 4 = some (.c (.bool false))) ∧ (szT Tryz.prog 5 = some 1) ∧ (aggT Tryz.prog 5 = some false) ∧ (bytesT Tryz.prog 5 = some 1) ∧ (Tryz.prog.underlying 5 = some (Go.TypeDesc.int (Go.IntKind.u8))) ∧ (zeroCells Tryz.prog 5 = some [.c (.int .u8 0)]) ∧ (zeroEl Tryz.prog 5 = some (.c (.int .u8 0))) ∧ (szT Tryz.prog 9 = some 1) ∧ (aggT Tryz.prog 9 = some false) ∧ (bytesT Tryz.prog 9 = some 16) ∧ (Tryz.prog.underlying 9 = some (Go.TypeDesc.string)) ∧ (szT Tryz.prog 20 = some 1) ∧ (aggT Tryz.prog 20 = some false) ∧ (bytesT Tryz.prog 20 = some 16) ∧ (zeroCells Tryz.prog 20 = some [.c .nilIface]) ∧ (zeroEl Tryz.prog 20 = some (.c .nilIface)) ∧ (szT Tryz.prog 22 = some 3) ∧ (aggT Tryz.prog 22 = some true) ∧ (bytesT Tryz.prog 22 = some 24) ∧ (Tryz.prog.underlying 22 = some (Go.TypeDesc.array 3 3)) ∧ (zeroCells Tryz.prog 22 = some [.c (.int .i64 0), .c (.int .i64 0), .c (.int .i64 0)]) ∧ (zeroEl Tryz.prog 22 = some (.agg [.c (.int .i64 0), .c (.int .i64 0), .c (.int .i64 0)])) ∧ (∀ (x : AV) (i : Int) (H : List AO), aIdxAddr Tryz.prog 22 x i H = (ptrAdd x (i.toNat * 1)).map fun v => (0 ≤ i ∧ i < 3, v)) ∧ (szT Tryz.prog 23 = some 3) ∧ (aggT Tryz.prog 23 = some true) ∧ (bytesT Tryz.prog 23 = some 24) ∧ (Tryz.prog.underlying 23 = some (Go.TypeDesc.array 3 3)) ∧ (zeroCells Tryz.prog 23 = some [.c (.int .i64 0), .c (.int .i64 0), .c (.int .i64 0)]) ∧ (zeroEl Tryz.prog 23 = some (.agg [.c (.int .i64 0), .c (.int .i64 0), .c (.int .i64 0)])) ∧ (∀ (x : AV) (i : Int) (H : List AO), aIdxAddr Tryz.prog 23 x i H = (ptrAdd x (i.toNat * 1)).map fun v => (0 ≤ i ∧ i < 3, v)) ∧ (szT Tryz.prog 24 = some 3) ∧ (aggT Tryz.prog 24 = some true) ∧ (bytesT Tryz.prog 24 = some 3) ∧ (Tryz.prog.underlying 24 = some (Go.TypeDesc.array 3 4)) ∧ (zeroCells Tryz.prog 24 = some [.c (.bool false), .c (.bool false), .c (.bool false)]) ∧ (zeroEl Tryz.prog 24 = some (.agg [.c (.bool false), .c (.bool false), .c (.bool false)])) ∧ (∀ (x : AV) (i : Int) (H : List AO), aIdxAddr Tryz.prog 24 x i H = (ptrAdd x (i.toNat * 1)).map fun v => (0 ≤ i ∧ i < 3, v)) ∧ (szT Tryz.prog 26 = some 7) ∧ (aggT Tryz.prog 26 = some true) ∧ (bytesT Tryz.prog 26 = some 32) ∧ (Tryz.prog.underlying 26 = some (Go.TypeDesc.struct #[{ name := "Shape", type := 22, offset := 0, embedded := false, tag := "", pkgPath := "", byteOffset := 0 }, { name := "Torus", type := 24, offset := 3, embedded := false, tag := "", pkgPath := "", byteOffset := 24 }, { name := "Turn", type := 4, offset := 6, embedded := false, tag := "", pkgPath := "", byteOffset := 27 }])) ∧ (zeroCells Tryz.prog 26 = some [.c (.int .i64 0), .c (.int .i64 0), .c (.int .i64 0), .c (.bool false), .c (.bool false), .c (.bool false), .c (.bool false)]) ∧ (zeroEl Tryz.prog 26 = some (.agg [.c (.int .i64 0), .c (.int .i64 0), .c (.int .i64 0), .c (.bool false), .c (.bool false), .c (.bool false), .c (.bool false)])) ∧ (Array.all (#[{ name := "Shape", type := 22, offset := 0, embedded := false, tag := "", pkgPath := "", byteOffset := 0 }, { name := "Torus", type := 24, offset := 3, embedded := false, tag := "", pkgPath := "", byteOffset := 24 }, { name := "Turn", type := 4, offset := 6, embedded := false, tag := "", pkgPath := "", byteOffset := 27 }] : Array Field) (fun f => (szT Tryz.prog f.type).isSome) 0 3 = true) ∧ (fieldPlaces Tryz.prog #[{ name := "Shape", type := 22, offset := 0, embedded := false, tag := "", pkgPath := "", byteOffset := 0 }, { name := "Torus", type := 24, offset := 3, embedded := false, tag := "", pkgPath := "", byteOffset := 24 }, { name := "Turn", type := 4, offset := 6, embedded := false, tag := "", pkgPath := "", byteOffset := 27 }] 0 = some (0, 3)) ∧ (fieldPlaces Tryz.prog #[{ name := "Shape", type := 22, offset := 0, embedded := false, tag := "", pkgPath := "", byteOffset := 0 }, { name := "Torus", type := 24, offset := 3, embedded := false, tag := "", pkgPath := "", byteOffset := 24 }, { name := "Turn", type := 4, offset := 6, embedded := false, tag := "", pkgPath := "", byteOffset := 27 }] 1 = some (3, 3)) ∧ (fieldPlaces Tryz.prog #[{ name := "Shape", type := 22, offset := 0, embedded := false, tag := "", pkgPath := "", byteOffset := 0 }, { name := "Torus", type := 24, offset := 3, embedded := false, tag := "", pkgPath := "", byteOffset := 24 }, { name := "Turn", type := 4, offset := 6, embedded := false, tag := "", pkgPath := "", byteOffset := 27 }] 2 = some (6, 1)) ∧ (fieldOffA Tryz.prog 26 0 = some 0) ∧ (fieldOffA Tryz.prog 26 1 = some 3) := ⟨@sz3, @ag3, @by3, @un3, @zc3, @ze3, @sz4, @ag4, @by4, @un4, @zc4, @ze4, @sz5, @ag5, @by5, @un5, @zc5, @ze5, @sz9, @ag9, @by9, @un9, @sz20, @ag20, @by20, @zc20, @ze20, @sz22, @ag22, @by22, @un22, @zc22, @ze22, @ia22, @sz23, @ag23, @by23, @un23, @zc23, @ze23, @ia23, @sz24, @ag24, @by24, @un24, @zc24, @ze24, @ia24, @sz26, @ag26, @by26, @un26, @zc26, @ze26, @fa26, @fp26_0, @fp26_1, @fp26_2, @fo26_0, @fo26_1⟩
theorem ty1 : (fieldOffA Tryz.prog 26 2 = some 6) ∧ (szT Tryz.prog 28 = some 1) ∧ (aggT Tryz.prog 28 = some false) ∧ (bytesT Tryz.prog 28 = some 24) ∧ (Tryz.prog.underlying 28 = some (Go.TypeDesc.slice 53)) ∧ (zeroCells Tryz.prog 28 = some [.c (.slice none 0 0)]) ∧ (zeroEl Tryz.prog 28 = some (.c (.slice none 0 0))) ∧ (∀ (l : List AV) (i : Int) (H : List AO), aIdxAddr Tryz.prog 28 (.isl l) i H = some ((0 ≤ i ∧ i < (l.length : Int)) ∧ (l.getD i.toNat .un).cells.length = 1, .iptr (l.getD i.toNat .un).cells 0)) ∧ (∀ (id st len cap : Nat) (i : Int) (H : List AO), aIdxAddr Tryz.prog 28 (.sl id st len cap) i H = (match H[id]? with | some (.arr sz es) => if sz = 1 then some (0 ≤ i ∧ i < (len : Int), .eptr id (st + i.toNat) 0) else none | _ => none)) ∧ (∀ (l : List AV), aLen Tryz.prog 28 (.isl l) = some (l.length : Int)) ∧ (∀ (id st len cap : Nat), aLen Tryz.prog 28 (.sl id st len cap) = some (len : Int)) ∧ (aLen Tryz.prog 28 (.c (.slice none 0 0)) = some 0) ∧ (aLen Tryz.prog 28 .zs = some 0) ∧ (szT Tryz.prog 32 = some 6) ∧ (aggT Tryz.prog 32 = some true) ∧ (bytesT Tryz.prog 32 = some 48) ∧ (Tryz.prog.underlying 32 = some (Go.TypeDesc.struct #[{ name := "Base", type := 22, offset := 0, embedded := false, tag := "", pkgPath := "", byteOffset := 0 }, { name := "Size", type := 22, offset := 3, embedded := false, tag := "", pkgPath := "", byteOffset := 24 }])) ∧ (zeroCells Tryz.prog 32 = some [.c (.int .i64 0), .c (.int .i64 0), .c (.int .i64 0), .c (.int .i64 0), .c (.int .i64 0), .c (.int .i64 0)]) ∧ (zeroEl Tryz.prog 32 = some (.agg [.c (.int .i64 0), .c (.int .i64 0), .c (.int .i64 0), .c (.int .i64 0), .c (.int .i64 0), .c (.int .i64 0)])) ∧ (Array.all (#[{ name := "Base", type := 22, offset := 0, embedded := false, tag := "", pkgPath := "", byteOffset := 0 }, { name := "Size", type := 22, offset := 3, embedded := false, tag := "", pkgPath := "", byteOffset := 24 }] : Array Field) (fun f => (szT Tryz.prog f.type).isSome) 0 2 = true) ∧ (fieldPlaces Tryz.prog #[{ name := "Base", type := 22, offset := 0, embedded := false, tag := "", pkgPath := "", byteOffset := 0 }, { name := "Size", type := 22, offset := 3, embedded := false, tag := "", pkgPath := "", byteOffset := 24 }] 0 = some (0, 3)) ∧ (fieldPlaces Tryz.prog #[{ name := "Base", type := 22, offset := 0, embedded := false, tag := "", pkgPath := "", byteOffset := 0 }, { name := "Size", type := 22, offset := 3, embedded := false, tag := "", pkgPath := "", byteOffset := 24 }] 1 = some (3, 3)) ∧ (fieldOffA Tryz.prog 32 0 = some 0) ∧ (fieldOffA Tryz.prog 32 1 = some 3) ∧ (szT Tryz.prog 34 = some 9) ∧ (aggT Tryz.prog 34 = some true) ∧ (bytesT Tryz.prog 34 = some 56) ∧ (Tryz.prog.underlying 34 = some (Go.TypeDesc.struct #[{ name := "Box", type := 32, offset := 0, embedded := false, tag := "", pkgPath := "", byteOffset := 0 }, { name := "Torus", type := 24, offset := 6, embedded := false, tag := "", pkgPath := "", byteOffset := 48 }])) ∧ (zeroCells Tryz.prog 34 = some [.c (.int .i64 0), .c (.int .i64 0), .c (.int .i64 0), .c (.int .i64 0), .c (.int .i64 0), .c (.int .i64 0), .c (.bool false), .c (.bool false), .c (.bool false)]) ∧ (zeroEl Tryz.prog 34 = some (.agg [.c (.int .i64 0), .c (.int .i64 0), .c (.int .i64 0), .c (.int .i64 0), .c (.int .i64 0), .c (.int .i64 0), .c (.bool false), .c (.bool false), .c (.bool false)])) ∧ (Array.all (#[{ name := "Box", type := 32, offset := 0, embedded := false, tag := "", pkgPath := "", byteOffset := 0 }, { name := "Torus", type := 24, offset := 6, embedded := false, tag := "", pkgPath := "", byteOffset := 48 }] : Array Field) (fun f => (szT Tryz.prog f.type).isSome) 0 2 = true) ∧ (fieldPlaces Tryz.prog #[{ name := "Box", type := 32, offset := 0, embedded := false, tag := "", pkgPath := "", byteOffset := 0 }, { name := "Torus", type := 24, offset := 6, embedded := false, tag := "", pkgPath := "", byteOffset := 48 }] 0 = some (0, 6)) ∧ (fieldPlaces Tryz.prog #[{ name := "Box", type := 32, offset := 0, embedded := false, tag := "", pkgPath := "", byteOffset := 0 }, { name := "Torus", type := 24, offset := 6, embedded := false, tag := "", pkgPath := "", byteOffset := 48 }] 1 = some (6, 3)) ∧ (fieldOffA Tryz.prog 34 0 = some 0) ∧ (fieldOffA Tryz.prog 34 1 = some 6) ∧ (szT Tryz.prog 35 = some 1) ∧ (aggT Tryz.prog 35 = some false) ∧ (bytesT Tryz.prog 35 = some 8) ∧ (Tryz.prog.underlying 35 = some (Go.TypeDesc.int (Go.IntKind.i64))) ∧ (zeroCells Tryz.prog 35 = some [.c (.int .i64 0)]) ∧ (zeroEl Tryz.prog 35 = some (.c (.int .i64 0))) ∧ (szT Tryz.prog 39 = some 1) ∧ (aggT Tryz.prog 39 = some false) ∧ (bytesT Tryz.prog 39 = some 8) ∧ (zeroCells Tryz.prog 39 = some [.c .nilFunc]) ∧ (zeroEl Tryz.prog 39 = some (.c .nilFunc)) ∧ (szT Tryz.prog 43 = some 1) ∧ (aggT Tryz.prog 43 = some false) ∧ (bytesT Tryz.prog 43 = some 24) ∧ (Tryz.prog.underlying 43 = some (Go.TypeDesc.slice 34)) ∧ (zeroCells Tryz.prog 43 = some [.c (.slice none 0 0)]) ∧ (zeroEl Tryz.prog 43 = some (.c (.slice none 0 0))) ∧ (∀ (l : List AV) (i : Int) (H : List AO), aIdxAddr Tryz.prog 43 (.isl l) i H = some ((0 ≤ i ∧ i < (l.length : Int)) ∧ (l.getD i.toNat .un).cells.length = 9, .iptr (l.getD i.toNat .un).cells 0)) ∧ (∀ (id st len cap : Nat) (i : Int) (H : List AO), aIdxAddr Tryz.prog 43 (.sl id st len cap) i H = (match H[id]? with | some (.arr sz es) => if sz = 9 then some (0 ≤ i ∧ i < (len : Int), .eptr id (st + i.toNat) 0) else none | _ => none)) ∧ (∀ (l : List AV), aLen Tryz.prog 43 (.isl l) = some (l.length : Int)) ∧ (∀ (id st len cap : Nat), aLen Tryz.prog 43 (.sl id st len cap) = some (len : Int)) ∧ (aLen Tryz.prog 43 (.c (.slice none 0 0)) = some 0) ∧ (aLen Tryz.prog 43 .zs = some 0) ∧ (szT Tryz.prog 53 = some 1) ∧ (aggT Tryz.prog 53 = some false) := ⟨@fo26_2, @sz28, @ag28, @by28, @un28, @zc28, @ze28, @ia28i, @ia28s, @li28, @ls28, @ln28, @lz28, @sz32, @ag32, @by32, @un32, @zc32, @ze32, @fa32, @fp32_0, @fp32_1, @fo32_0, @fo32_1, @sz34, @ag34, @by34, @un34, @zc34, @ze34, @fa34, @fp34_0, @fp34_1, @fo34_0, @fo34_1, @sz35, @ag35, @by35, @un35, @zc35, @ze35, @sz39, @ag39, @by39, @zc39, @ze39, @sz43, @ag43, @by43, @un43, @zc43, @ze43, @ia43i, @ia43s, @li43, @ls43, @ln43, @lz43, @sz53, @ag53⟩
theorem ty2 : (bytesT Tryz.prog 53 = some 8) ∧ (Tryz.prog.underlying 53 = some (Go.TypeDesc.int (Go.IntKind.u64))) ∧ (zeroCells Tryz.prog 53 = some [.c (.int .u64 0)]) ∧ (zeroEl Tryz.prog 53 = some (.c (.int .u64 0))) ∧ (szT Tryz.prog 55 = some 1) ∧ (aggT Tryz.prog 55 = some false) ∧ (bytesT Tryz.prog 55 = some 8) ∧ (zeroCells Tryz.prog 55 = some [.c .nilFunc]) ∧ (zeroEl Tryz.prog 55 = some (.c .nilFunc)) ∧ (szT Tryz.prog 58 = some 1) ∧ (aggT Tryz.prog 58 = some false) ∧ (bytesT Tryz.prog 58 = some 8) ∧ (zeroCells Tryz.prog 58 = some [.c .nilFunc]) ∧ (zeroEl Tryz.prog 58 = some (.c .nilFunc)) ∧ (szT Tryz.prog 71 = some 1) ∧ (aggT Tryz.prog 71 = some false) ∧ (bytesT Tryz.prog 71 = some 8) ∧ (zeroCells Tryz.prog 71 = some [.c .nilFunc]) ∧ (zeroEl Tryz.prog 71 = some (.c .nilFunc)) ∧ (szT Tryz.prog 73 = some 1) ∧ (aggT Tryz.prog 73 = some false) ∧ (bytesT Tryz.prog 73 = some 24) ∧ (Tryz.prog.underlying 73 = some (Go.TypeDesc.slice 26)) ∧ (zeroCells Tryz.prog 73 = some [.c (.slice none 0 0)]) ∧ (zeroEl Tryz.prog 73 = some (.c (.slice none 0 0))) ∧ (∀ (l : List AV) (i : Int) (H : List AO), aIdxAddr Tryz.prog 73 (.isl l) i H = some ((0 ≤ i ∧ i < (l.length : Int)) ∧ (l.getD i.toNat .un).cells.length = 7, .iptr (l.getD i.toNat .un).cells 0)) ∧ (∀ (id st len cap : Nat) (i : Int) (H : List AO), aIdxAddr Tryz.prog 73 (.sl id st len cap) i H = (match H[id]? with | some (.arr sz es) => if sz = 7 then some (0 ≤ i ∧ i < (len : Int), .eptr id (st + i.toNat) 0) else none | _ => none)) ∧ (∀ (l : List AV), aLen Tryz.prog 73 (.isl l) = some (l.length : Int)) ∧ (∀ (id st len cap : Nat), aLen Tryz.prog 73 (.sl id st len cap) = some (len : Int)) ∧ (aLen Tryz.prog 73 (.c (.slice none 0 0)) = some 0) ∧ (aLen Tryz.prog 73 .zs = some 0) ∧ (szT Tryz.prog 78 = some 1) ∧ (aggT Tryz.prog 78 = some false) ∧ (bytesT Tryz.prog 78 = some 8) ∧ (zeroCells Tryz.prog 78 = some [.c .nilFunc]) ∧ (zeroEl Tryz.prog 78 = some (.c .nilFunc)) ∧ (szT Tryz.prog 84 = some 1) ∧ (aggT Tryz.prog 84 = some false) ∧ (bytesT Tryz.prog 84 = some 8) ∧ (Tryz.prog.underlying 84 = some (Go.TypeDesc.map 34 3)) ∧ (zeroCells Tryz.prog 84 = some [.c (.map none)]) ∧ (zeroEl Tryz.prog 84 = some (.c (.map none))) ∧ (szT Tryz.prog 86 = some 1) ∧ (aggT Tryz.prog 86 = some false) ∧ (bytesT Tryz.prog 86 = some 8) ∧ (zeroCells Tryz.prog 86 = some [.c .nilFunc]) ∧ (zeroEl Tryz.prog 86 = some (.c .nilFunc)) ∧ (szT Tryz.prog 92 = some 1) ∧ (aggT Tryz.prog 92 = some false) ∧ (bytesT Tryz.prog 92 = some 24) ∧ (Tryz.prog.underlying 92 = some (Go.TypeDesc.slice 3)) ∧ (zeroCells Tryz.prog 92 = some [.c (.slice none 0 0)]) ∧ (zeroEl Tryz.prog 92 = some (.c (.slice none 0 0))) ∧ (∀ (l : List AV) (i : Int) (H : List AO), aIdxAddr Tryz.prog 92 (.isl l) i H = some ((0 ≤ i ∧ i < (l.length : Int)) ∧ (l.getD i.toNat .un).cells.length = 1, .iptr (l.getD i.toNat .un).cells 0)) ∧ (∀ (id st len cap : Nat) (i : Int) (H : List AO), aIdxAddr Tryz.prog 92 (.sl id st len cap) i H = (match H[id]? with | some (.arr sz es) => if sz = 1 then some (0 ≤ i ∧ i < (len : Int), .eptr id (st + i.toNat) 0) else none | _ => none)) ∧ (∀ (l : List AV), aLen Tryz.prog 92 (.isl l) = some (l.length : Int)) ∧ (∀ (id st len cap : Nat), aLen Tryz.prog 92 (.sl id st len cap) = some (len : Int)) ∧ (aLen Tryz.prog 92 (.c (.slice none 0 0)) = some 0) ∧ (aLen Tryz.prog 92 .zs = some 0) ∧ (szT Tryz.prog 102 = some 1) := ⟨@by53, @un53, @zc53, @ze53, @sz55, @ag55, @by55, @zc55, @ze55, @sz58, @ag58, @by58, @zc58, @ze58, @sz71, @ag71, @by71, @zc71, @ze71, @sz73, @ag73, @by73, @un73, @zc73, @ze73, @ia73i, @ia73s, @li73, @ls73, @ln73, @lz73, @sz78, @ag78, @by78, @zc78, @ze78, @sz84, @ag84, @by84, @un84, @zc84, @ze84, @sz86, @ag86, @by86, @zc86, @ze86, @sz92, @ag92, @by92, @un92, @zc92, @ze92, @ia92i, @ia92s, @li92, @ls92, @ln92, @lz92, @sz102⟩
theorem ty3 : (aggT Tryz.prog 102 = some false) ∧ (bytesT Tryz.prog 102 = some 8) ∧ (Tryz.prog.underlying 102 = some (Go.TypeDesc.int (Go.IntKind.u64))) ∧ (zeroCells Tryz.prog 102 = some [.c (.int .u64 0)]) ∧ (zeroEl Tryz.prog 102 = some (.c (.int .u64 0))) ∧ (szT Tryz.prog 107 = some 1) ∧ (aggT Tryz.prog 107 = some false) ∧ (bytesT Tryz.prog 107 = some 8) ∧ (zeroCells Tryz.prog 107 = some [.c .nilFunc]) ∧ (zeroEl Tryz.prog 107 = some (.c .nilFunc)) ∧ (szT Tryz.prog 108 = some 1) ∧ (aggT Tryz.prog 108 = some false) ∧ (bytesT Tryz.prog 108 = some 8) ∧ (zeroCells Tryz.prog 108 = some [.c .nilFunc]) ∧ (zeroEl Tryz.prog 108 = some (.c .nilFunc)) ∧ (szT Tryz.prog 114 = some 1) ∧ (aggT Tryz.prog 114 = some false) ∧ (bytesT Tryz.prog 114 = some 8) ∧ (Tryz.prog.underlying 114 = some (Go.TypeDesc.map 26 4)) ∧ (zeroCells Tryz.prog 114 = some [.c (.map none)]) ∧ (zeroEl Tryz.prog 114 = some (.c (.map none))) ∧ (szT Tryz.prog 115 = some 18) ∧ (aggT Tryz.prog 115 = some true) ∧ (bytesT Tryz.prog 115 = some 144) ∧ (Tryz.prog.underlying 115 = some (Go.TypeDesc.array 6 22)) ∧ (zeroCells Tryz.prog 115 = some [.c (.int .i64 0), .c (.int .i64 0), .c (.int .i64 0), .c (.int .i64 0), .c (.int .i64 0), .c (.int .i64 0), .c (.int .i64 0), .c (.int .i64 0), .c (.int .i64 0), .c (.int .i64 0), .c (.int .i64 0), .c (.int .i64 0), .c (.int .i64 0), .c (.int .i64 0), .c (.int .i64 0), .c (.int .i64 0), .c (.int .i64 0), .c (.int .i64 0)]) ∧ (zeroEl Tryz.prog 115 = some (.agg [.c (.int .i64 0), .c (.int .i64 0), .c (.int .i64 0), .c (.int .i64 0), .c (.int .i64 0), .c (.int .i64 0), .c (.int .i64 0), .c (.int .i64 0), .c (.int .i64 0), .c (.int .i64 0), .c (.int .i64 0), .c (.int .i64 0), .c (.int .i64 0), .c (.int .i64 0), .c (.int .i64 0), .c (.int .i64 0), .c (.int .i64 0), .c (.int .i64 0)])) ∧ (∀ (x : AV) (i : Int) (H : List AO), aIdxAddr Tryz.prog 115 x i H = (ptrAdd x (i.toNat * 3)).map fun v => (0 ≤ i ∧ i < 6, v)) ∧ (szT Tryz.prog 118 = some 1) ∧ (aggT Tryz.prog 118 = some false) ∧ (bytesT Tryz.prog 118 = some 8) ∧ (zeroCells Tryz.prog 118 = some [.c .nilFunc]) ∧ (zeroEl Tryz.prog 118 = some (.c .nilFunc)) ∧ (szT Tryz.prog 119 = some 1) ∧ (aggT Tryz.prog 119 = some false) ∧ (bytesT Tryz.prog 119 = some 8) ∧ (zeroCells Tryz.prog 119 = some [.c .nilFunc]) ∧ (zeroEl Tryz.prog 119 = some (.c .nilFunc)) ∧ (szT Tryz.prog 121 = some 1) ∧ (aggT Tryz.prog 121 = some false) ∧ (bytesT Tryz.prog 121 = some 8) ∧ (zeroCells Tryz.prog 121 = some [.c .nilFunc]) ∧ (zeroEl Tryz.prog 121 = some (.c .nilFunc)) ∧ (szT Tryz.prog 123 = some 1) ∧ (aggT Tryz.prog 123 = some false) ∧ (bytesT Tryz.prog 123 = some 24) ∧ (Tryz.prog.underlying 123 = some (Go.TypeDesc.slice 28)) ∧ (zeroCells Tryz.prog 123 = some [.c (.slice none 0 0)]) ∧ (zeroEl Tryz.prog 123 = some (.c (.slice none 0 0))) ∧ (∀ (l : List AV) (i : Int) (H : List AO), aIdxAddr Tryz.prog 123 (.isl l) i H = some ((0 ≤ i ∧ i < (l.length : Int)) ∧ (l.getD i.toNat .un).cells.length = 1, .iptr (l.getD i.toNat .un).cells 0)) ∧ (∀ (id st len cap : Nat) (i : Int) (H : List AO), aIdxAddr Tryz.prog 123 (.sl id st len cap) i H = (match H[id]? with | some (.arr sz es) => if sz = 1 then some (0 ≤ i ∧ i < (len : Int), .eptr id (st + i.toNat) 0) else none | _ => none)) ∧ (∀ (l : List AV), aLen Tryz.prog 123 (.isl l) = some (l.length : Int)) ∧ (∀ (id st len cap : Nat), aLen Tryz.prog 123 (.sl id st len cap) = some (len : Int)) ∧ (aLen Tryz.prog 123 (.c (.slice none 0 0)) = some 0) ∧ (aLen Tryz.prog 123 .zs = some 0) ∧ (szT Tryz.prog 126 = some 1) ∧ (aggT Tryz.prog 126 = some false) ∧ (bytesT Tryz.prog 126 = some 8) ∧ (zeroCells Tryz.prog 126 = some [.c .nilFunc]) ∧ (zeroEl Tryz.prog 126 = some (.c .nilFunc)) := ⟨@ag102, @by102, @un102, @zc102, @ze102, @sz107, @ag107, @by107, @zc107, @ze107, @sz108, @ag108, @by108, @zc108, @ze108, @sz114, @ag114, @by114, @un114, @zc114, @ze114, @sz115, @ag115, @by115, @un115, @zc115, @ze115, @ia115, @sz118, @ag118, @by118, @zc118, @ze118, @sz119, @ag119, @by119, @zc119, @ze119, @sz121, @ag121, @by121, @zc121, @ze121, @sz123, @ag123, @by123, @un123, @zc123, @ze123, @ia123i, @ia123s, @li123, @ls123, @ln123, @lz123, @sz126, @ag126, @by126, @zc126, @ze126⟩
theorem ty4 : (szT Tryz.prog 127 = some 1) ∧ (aggT Tryz.prog 127 = some false) ∧ (bytesT Tryz.prog 127 = some 8) ∧ (zeroCells Tryz.prog 127 = some [.c .nilFunc]) ∧ (zeroEl Tryz.prog 127 = some (.c .nilFunc)) ∧ (szT Tryz.prog 130 = some 1) ∧ (aggT Tryz.prog 130 = some false) ∧ (bytesT Tryz.prog 130 = some 8) ∧ (zeroCells Tryz.prog 130 = some [.c .nilFunc]) ∧ (zeroEl Tryz.prog 130 = some (.c .nilFunc)) ∧ (szT Tryz.prog 131 = some 1) ∧ (aggT Tryz.prog 131 = some false) ∧ (bytesT Tryz.prog 131 = some 8) ∧ (zeroCells Tryz.prog 131 = some [.c .nilFunc]) ∧ (zeroEl Tryz.prog 131 = some (.c .nilFunc)) ∧ (szT Tryz.prog 133 = some 1) ∧ (aggT Tryz.prog 133 = some false) ∧ (bytesT Tryz.prog 133 = some 8) ∧ (zeroCells Tryz.prog 133 = some [.c .nilFunc]) ∧ (zeroEl Tryz.prog 133 = some (.c .nilFunc)) ∧ (szT Tryz.prog 136 = some 1) ∧ (aggT Tryz.prog 136 = some false) ∧ (bytesT Tryz.prog 136 = some 8) ∧ (zeroCells Tryz.prog 136 = some [.c .nilFunc]) ∧ (zeroEl Tryz.prog 136 = some (.c .nilFunc)) ∧ (szT Tryz.prog 138 = some 1) ∧ (aggT Tryz.prog 138 = some false) ∧ (bytesT Tryz.prog 138 = some 8) ∧ (Tryz.prog.underlying 138 = some (Go.TypeDesc.int (Go.IntKind.i64))) ∧ (zeroCells Tryz.prog 138 = some [.c (.int .i64 0)]) ∧ (zeroEl Tryz.prog 138 = some (.c (.int .i64 0))) ∧ (szT Tryz.prog 145 = some 1) ∧ (aggT Tryz.prog 145 = some false) ∧ (bytesT Tryz.prog 145 = some 4) ∧ (Tryz.prog.underlying 145 = some (Go.TypeDesc.int (Go.IntKind.u32))) ∧ (zeroCells Tryz.prog 145 = some [.c (.int .u32 0)]) ∧ (zeroEl Tryz.prog 145 = some (.c (.int .u32 0))) ∧ (szT Tryz.prog 152 = some 2) ∧ (aggT Tryz.prog 152 = some true) ∧ (bytesT Tryz.prog 152 = some 16) ∧ (Tryz.prog.underlying 152 = some (Go.TypeDesc.array 2 3)) ∧ (zeroCells Tryz.prog 152 = some [.c (.int .i64 0), .c (.int .i64 0)]) ∧ (zeroEl Tryz.prog 152 = some (.agg [.c (.int .i64 0), .c (.int .i64 0)])) ∧ (∀ (x : AV) (i : Int) (H : List AO), aIdxAddr Tryz.prog 152 x i H = (ptrAdd x (i.toNat * 1)).map fun v => (0 ≤ i ∧ i < 2, v)) ∧ (szT Tryz.prog 154 = some 1) ∧ (aggT Tryz.prog 154 = some false) ∧ (bytesT Tryz.prog 154 = some 8) ∧ (zeroCells Tryz.prog 154 = some [.c .nilFunc]) ∧ (zeroEl Tryz.prog 154 = some (.c .nilFunc)) ∧ (szT Tryz.prog 159 = some 1) ∧ (aggT Tryz.prog 159 = some false) ∧ (bytesT Tryz.prog 159 = some 8) ∧ (Tryz.prog.underlying 159 = some (Go.TypeDesc.int (Go.IntKind.u64))) ∧ (zeroCells Tryz.prog 159 = some [.c (.int .u64 0)]) ∧ (zeroEl Tryz.prog 159 = some (.c (.int .u64 0))) ∧ (szT Tryz.prog 163 = some 1) ∧ (aggT Tryz.prog 163 = some false) ∧ (bytesT Tryz.prog 163 = some 8) ∧ (Tryz.prog.underlying 163 = some (Go.TypeDesc.pointer 3)) ∧ (zeroCells Tryz.prog 163 = some [.c (.pointer none)]) := ⟨@sz127, @ag127, @by127, @zc127, @ze127, @sz130, @ag130, @by130, @zc130, @ze130, @sz131, @ag131, @by131, @zc131, @ze131, @sz133, @ag133, @by133, @zc133, @ze133, @sz136, @ag136, @by136, @zc136, @ze136, @sz138, @ag138, @by138, @un138, @zc138, @ze138, @sz145, @ag145, @by145, @un145, @zc145, @ze145, @sz152, @ag152, @by152, @un152, @zc152, @ze152, @ia152, @sz154, @ag154, @by154, @zc154, @ze154, @sz159, @ag159, @by159, @un159, @zc159, @ze159, @sz163, @ag163, @by163, @un163, @zc163⟩
theorem ty5 : (zeroEl Tryz.prog 163 = some (.c (.pointer none))) ∧ (szT Tryz.prog 167 = some 64) ∧ (aggT Tryz.prog 167 = some true) ∧ (bytesT Tryz.prog 167 = some 64) ∧ (Tryz.prog.underlying 167 = some (Go.TypeDesc.array 64 5)) ∧ (zeroCells Tryz.prog 167 = some [.c (.int .u8 0), .c (.int .u8 0), .c (.int .u8 0), .c (.int .u8 0), .c (.int .u8 0), .c (.int .u8 0), .c (.int .u8 0), .c (.int .u8 0), .c (.int .u8 0), .c (.int .u8 0), .c (.int .u8 0), .c (.int .u8 0), .c (.int .u8 0), .c (.int .u8 0), .c (.int .u8 0), .c (.int .u8 0), .c (.int .u8 0), .c (.int .u8 0), .c (.int .u8 0), .c (.int .u8 0), .c (.int .u8 0), .c (.int .u8 0), .c (.int .u8 0), .c (.int .u8 0), .c (.int .u8 0), .c (.int .u8 0), .c (.int .u8 0), .c (.int .u8 0), .c (.int .u8 0), .c (.int .u8 0), .c (.int .u8 0), .c (.int .u8 0), .c (.int .u8 0), .c (.int .u8 0), .c (.int .u8 0), .c (.int .u8 0), .c (.int .u8 0), .c (.int .u8 0), .c (.int .u8 0), .c (.int .u8 0), .c (.int .u8 0), .c (.int .u8 0), .c (.int .u8 0), .c (.int .u8 0), .c (.int .u8 0), .c (.int .u8 0), .c (.int .u8 0), .c (.int .u8 0), .c (.int .u8 0), .c (.int .u8 0), .c (.int .u8 0), .c (.int .u8 0), .c (.int .u8 0), .c (.int .u8 0), .c (.int .u8 0), .c (.int .u8 0), .c (.int .u8 0), .c (.int .u8 0), .c (.int .u8 0), .c (.int .u8 0), .c (.int .u8 0), .c (.int .u8 0), .c (.int .u8 0), .c (.int .u8 0)]) ∧ (zeroEl Tryz.prog 167 = some (.agg [.c (.int .u8 0), .c (.int .u8 0), .c (.int .u8 0), .c (.int .u8 0), .c (.int .u8 0), .c (.int .u8 0), .c (.int .u8 0), .c (.int .u8 0), .c (.int .u8 0), .c (.int .u8 0), .c (.int .u8 0), .c (.int .u8 0), .c (.int .u8 0), .c (.int .u8 0), .c (.int .u8 0), .c (.int .u8 0), .c (.int .u8 0), .c (.int .u8 0), .c (.int .u8 0), .c (.int .u8 0), .c (.int .u8 0), .c (.int .u8 0), .c (.int .u8 0), .c (.int .u8 0), .c (.int .u8 0), .c (.int .u8 0), .c (.int .u8 0), .c (.int .u8 0), .c (.int .u8 0), .c (.int .u8 0), .c (.int .u8 0), .c (.int .u8 0), .c (.int .u8 0), .c (.int .u8 0), .c (.int .u8 0), .c (.int .u8 0), .c (.int .u8 0), .c (.int .u8 0), .c (.int .u8 0), .c (.int .u8 0), .c (.int .u8 0), .c (.int .u8 0), .c (.int .u8 0), .c (.int .u8 0), .c (.int .u8 0), .c (.int .u8 0), .c (.int .u8 0), .c (.int .u8 0), .c (.int .u8 0), .c (.int .u8 0), .c (.int .u8 0), .c (.int .u8 0), .c (.int .u8 0), .c (.int .u8 0), .c (.int .u8 0), .c (.int .u8 0), .c (.int .u8 0), .c (.int .u8 0), .c (.int .u8 0), .c (.int .u8 0), .c (.int .u8 0), .c (.int .u8 0), .c (.int .u8 0), .c (.int .u8 0)])) ∧ (∀ (x : AV) (i : Int) (H : List AO), aIdxAddr Tryz.prog 167 x i H = (ptrAdd x (i.toNat * 1)).map fun v => (0 ≤ i ∧ i < 64, v)) ∧ (szT Tryz.prog 170 = some 1) ∧ (aggT Tryz.prog 170 = some false) ∧ (bytesT Tryz.prog 170 = some 8) ∧ (Tryz.prog.underlying 170 = some (Go.TypeDesc.pointer 159)) ∧ (zeroCells Tryz.prog 170 = some [.c (.pointer none)]) ∧ (zeroEl Tryz.prog 170 = some (.c (.pointer none))) := ⟨@ze163, @sz167, @ag167, @by167, @un167, @zc167, @ze167, @ia167, @sz170, @ag170, @by170, @un170, @zc170, @ze170⟩
end Go.Ab
