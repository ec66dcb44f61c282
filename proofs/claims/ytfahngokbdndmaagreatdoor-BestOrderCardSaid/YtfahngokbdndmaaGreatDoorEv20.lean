/- One of the texts that this claim stands on. -/
import Derived.Test.YtfahngokbdndmaaGreatDoorEv19
import Derived.Test.YtfahngokbdndmaaGreatDoorProg
import Derived.KernelRfl
set_option maxRecDepth 20000
namespace Go.Ab
open Go.Proofs
theorem sz3 : szT Tryz.prog 3 = some 1 := by kernel_rfl
theorem ag3 : aggT Tryz.prog 3 = some false := by kernel_rfl
theorem by3 : bytesT Tryz.prog 3 = some 8 := by kernel_rfl
theorem un3 : Tryz.prog.underlying 3 = some (Go.TypeDesc.int (Go.IntKind.i64)) := by kernel_rfl
theorem zc3 : zeroCells Tryz.prog 3 = some [.c (.int .i64 0)] := by kernel_rfl
theorem ze3 : zeroEl Tryz.prog 3 = some (.c (.int .i64 0)) := by kernel_rfl
theorem sz4 : szT Tryz.prog 4 = some 1 := by kernel_rfl
theorem ag4 : aggT Tryz.prog 4 = some false := by kernel_rfl
theorem by4 : bytesT Tryz.prog 4 = some 1 := by kernel_rfl
theorem un4 : Tryz.prog.underlying 4 = some (Go.TypeDesc.bool) := by kernel_rfl
theorem zc4 : zeroCells Tryz.prog 4 = some [.c (.bool false)] := by kernel_rfl
theorem ze4 : zeroEl Tryz.prog 4 = some (.c (.bool false)) := by kernel_rfl
theorem sz5 : szT Tryz.prog 5 = some 1 := by kernel_rfl
theorem ag5 : aggT Tryz.prog 5 = some false := by kernel_rfl
theorem by5 : bytesT Tryz.prog 5 = some 1 := by kernel_rfl
theorem un5 : Tryz.prog.underlying 5 = some (Go.TypeDesc.int (Go.IntKind.u8)) := by kernel_rfl
theorem zc5 : zeroCells Tryz.prog 5 = some [.c (.int .u8 0)] := by kernel_rfl
theorem ze5 : zeroEl Tryz.prog 5 = some (.c (.int .u8 0)) := by kernel_rfl
theorem sz9 : szT Tryz.prog 9 = some 1 := by kernel_rfl
theorem ag9 : aggT Tryz.prog 9 = some false := by kernel_rfl
theorem by9 : bytesT Tryz.prog 9 = some 16 := by kernel_rfl
theorem un9 : Tryz.prog.underlying 9 = some (Go.TypeDesc.string) := by kernel_rfl
theorem sz20 : szT Tryz.prog 20 = some 1 := by kernel_rfl
theorem ag20 : aggT Tryz.prog 20 = some false := by kernel_rfl
theorem by20 : bytesT Tryz.prog 20 = some 16 := by kernel_rfl
theorem zc20 : zeroCells Tryz.prog 20 = some [.c .nilIface] := by kernel_rfl
theorem ze20 : zeroEl Tryz.prog 20 = some (.c .nilIface) := by kernel_rfl
theorem sz22 : szT Tryz.prog 22 = some 3 := by kernel_rfl
theorem ag22 : aggT Tryz.prog 22 = some true := by kernel_rfl
theorem by22 : bytesT Tryz.prog 22 = some 24 := by kernel_rfl
theorem un22 : Tryz.prog.underlying 22 = some (Go.TypeDesc.array 3 3) := by kernel_rfl
theorem zc22 : zeroCells Tryz.prog 22 = some [.c (.int .i64 0), .c (.int .i64 0), .c (.int .i64 0)] := by kernel_rfl
theorem ze22 : zeroEl Tryz.prog 22 = some (.agg [.c (.int .i64 0), .c (.int .i64 0), .c (.int .i64 0)]) := by kernel_rfl
theorem ia22 (x : AV) (i : Int) (H : List AO) : aIdxAddr Tryz.prog 22 x i H = (ptrAdd x (i.toNat * 1)).map fun v => (0 ≤ i ∧ i < 3, v) := by unfold aIdxAddr; simp only [un22, show szT Tryz.prog 3 = some 1 by kernel_rfl]; rfl
theorem sz23 : szT Tryz.prog 23 = some 3 := by kernel_rfl
theorem ag23 : aggT Tryz.prog 23 = some true := by kernel_rfl
theorem by23 : bytesT Tryz.prog 23 = some 24 := by kernel_rfl
theorem un23 : Tryz.prog.underlying 23 = some (Go.TypeDesc.array 3 3) := by kernel_rfl
theorem zc23 : zeroCells Tryz.prog 23 = some [.c (.int .i64 0), .c (.int .i64 0), .c (.int .i64 0)] := by kernel_rfl
theorem ze23 : zeroEl Tryz.prog 23 = some (.agg [.c (.int .i64 0), .c (.int .i64 0), .c (.int .i64 0)]) := by kernel_rfl
theorem ia23 (x : AV) (i : Int) (H : List AO) : aIdxAddr Tryz.prog 23 x i H = (ptrAdd x (i.toNat * 1)).map fun v => (0 ≤ i ∧ i < 3, v) := by unfold aIdxAddr; simp only [un23, show szT Tryz.prog 3 = some 1 by kernel_rfl]; rfl
theorem sz25 : szT Tryz.prog 25 = some 6 := by kernel_rfl
theorem ag25 : aggT Tryz.prog 25 = some true := by kernel_rfl
theorem by25 : bytesT Tryz.prog 25 = some 48 := by kernel_rfl
theorem un25 : Tryz.prog.underlying 25 = some (Go.TypeDesc.struct #[{ name := "Base", type := 22, offset := 0, embedded := false, tag := "", pkgPath := "", byteOffset := 0 }, { name := "Size", type := 22, offset := 3, embedded := false, tag := "", pkgPath := "", byteOffset := 24 }]) := by kernel_rfl
theorem zc25 : zeroCells Tryz.prog 25 = some [.c (.int .i64 0), .c (.int .i64 0), .c (.int .i64 0), .c (.int .i64 0), .c (.int .i64 0), .c (.int .i64 0)] := by kernel_rfl
theorem ze25 : zeroEl Tryz.prog 25 = some (.agg [.c (.int .i64 0), .c (.int .i64 0), .c (.int .i64 0), .c (.int .i64 0), .c (.int .i64 0), .c (.int .i64 0)]) := by kernel_rfl
theorem fa25 : Array.all (#[{ name := "Base", type := 22, offset := 0, embedded := false, tag := "", pkgPath := "", byteOffset := 0 }, { name := "Size", type := 22, offset := 3, embedded := false, tag := "", pkgPath := "", byteOffset := 24 }] : Array Field) (fun f => (szT Tryz.prog f.type).isSome) 0 2 = true := by kernel_rfl
theorem fp25_0 : fieldPlaces Tryz.prog #[{ name := "Base", type := 22, offset := 0, embedded := false, tag := "", pkgPath := "", byteOffset := 0 }, { name := "Size", type := 22, offset := 3, embedded := false, tag := "", pkgPath := "", byteOffset := 24 }] 0 = some (0, 3) := by kernel_rfl
theorem fp25_1 : fieldPlaces Tryz.prog #[{ name := "Base", type := 22, offset := 0, embedded := false, tag := "", pkgPath := "", byteOffset := 0 }, { name := "Size", type := 22, offset := 3, embedded := false, tag := "", pkgPath := "", byteOffset := 24 }] 1 = some (3, 3) := by kernel_rfl
theorem fo25_0 : fieldOffA Tryz.prog 25 0 = some 0 := by kernel_rfl
theorem fo25_1 : fieldOffA Tryz.prog 25 1 = some 3 := by kernel_rfl
theorem sz26 : szT Tryz.prog 26 = some 3 := by kernel_rfl
theorem ag26 : aggT Tryz.prog 26 = some true := by kernel_rfl
theorem by26 : bytesT Tryz.prog 26 = some 3 := by kernel_rfl
theorem un26 : Tryz.prog.underlying 26 = some (Go.TypeDesc.array 3 4) := by kernel_rfl
theorem zc26 : zeroCells Tryz.prog 26 = some [.c (.bool false), .c (.bool false), .c (.bool false)] := by kernel_rfl
theorem ze26 : zeroEl Tryz.prog 26 = some (.agg [.c (.bool false), .c (.bool false), .c (.bool false)]) := by kernel_rfl
theorem ia26 (x : AV) (i : Int) (H : List AO) : aIdxAddr Tryz.prog 26 x i H = (ptrAdd x (i.toNat * 1)).map fun v => (0 ≤ i ∧ i < 3, v) := by unfold aIdxAddr; simp only [un26, show szT Tryz.prog 4 = some 1 by kernel_rfl]; rfl
theorem sz28 : szT Tryz.prog 28 = some 9 := by kernel_rfl
theorem ag28 : aggT Tryz.prog 28 = some true := by kernel_rfl
theorem by28 : bytesT Tryz.prog 28 = some 56 := by kernel_rfl
theorem un28 : Tryz.prog.underlying 28 = some (Go.TypeDesc.struct #[{ name := "Box", type := 25, offset := 0, embedded := false, tag := "", pkgPath := "", byteOffset := 0 }, { name := "Torus", type := 26, offset := 6, embedded := false, tag := "", pkgPath := "", byteOffset := 48 }]) := by kernel_rfl
theorem zc28 : zeroCells Tryz.prog 28 = some [.c (.int .i64 0), .c (.int .i64 0), .c (.int .i64 0), .c (.int .i64 0), .c (.int .i64 0), .c (.int .i64 0), .c (.bool false), .c (.bool false), .c (.bool false)] := by kernel_rfl
theorem ze28 : zeroEl Tryz.prog 28 = some (.agg [.c (.int .i64 0), .c (.int .i64 0), .c (.int .i64 0), .c (.int .i64 0), .c (.int .i64 0), .c (.int .i64 0), .c (.bool false), .c (.bool false), .c (.bool false)]) := by kernel_rfl
theorem fa28 : Array.all (#[{ name := "Box", type := 25, offset := 0, embedded := false, tag := "", pkgPath := "", byteOffset := 0 }, { name := "Torus", type := 26, offset := 6, embedded := false, tag := "", pkgPath := "", byteOffset := 48 }] : Array Field) (fun f => (szT Tryz.prog f.type).isSome) 0 2 = true := by kernel_rfl
theorem fp28_0 : fieldPlaces Tryz.prog #[{ name := "Box", type := 25, offset := 0, embedded := false, tag := "", pkgPath := "", byteOffset := 0 }, { name := "Torus", type := 26, offset := 6, embedded := false, tag := "", pkgPath := "", byteOffset := 48 }] 0 = some (0, 6) := by kernel_rfl
theorem fp28_1 : fieldPlaces Tryz.prog #[{ name := "Box", type := 25, offset := 0, embedded := false, tag := "", pkgPath := "", byteOffset := 0 }, { name := "Torus", type := 26, offset := 6, embedded := false, tag := "", pkgPath := "", byteOffset := 48 }] 1 = some (6, 3) := by kernel_rfl
theorem fo28_0 : fieldOffA Tryz.prog 28 0 = some 0 := by kernel_rfl
theorem fo28_1 : fieldOffA Tryz.prog 28 1 = some 6 := by kernel_rfl
theorem sz30 : szT Tryz.prog 30 = some 1 := by kernel_rfl
theorem ag30 : aggT Tryz.prog 30 = some false := by kernel_rfl
theorem by30 : bytesT Tryz.prog 30 = some 24 := by kernel_rfl
theorem un30 : Tryz.prog.underlying 30 = some (Go.TypeDesc.slice 37) := by kernel_rfl
theorem zc30 : zeroCells Tryz.prog 30 = some [.c (.slice none 0 0)] := by kernel_rfl
theorem ze30 : zeroEl Tryz.prog 30 = some (.c (.slice none 0 0)) := by kernel_rfl
theorem ia30i (l : List AV) (i : Int) (H : List AO) : aIdxAddr Tryz.prog 30 (.isl l) i H = some ((0 ≤ i ∧ i < (l.length : Int)) ∧ (l.getD i.toNat .un).cells.length = 1, .iptr (l.getD i.toNat .un).cells 0) := by unfold aIdxAddr; simp only [un30, show szT Tryz.prog 37 = some 1 by kernel_rfl]
theorem ia30s (id st len cap : Nat) (i : Int) (H : List AO) : aIdxAddr Tryz.prog 30 (.sl id st len cap) i H = (match H[id]? with | some (.arr sz es) => if sz = 1 then some (0 ≤ i ∧ i < (len : Int), .eptr id (st + i.toNat) 0) else none | _ => none) := by unfold aIdxAddr; simp only [un30, show szT Tryz.prog 37 = some 1 by kernel_rfl]; rfl
theorem li30 (l : List AV) : aLen Tryz.prog 30 (.isl l) = some (l.length : Int) := by unfold aLen; simp only [un30]
theorem ls30 (id st len cap : Nat) : aLen Tryz.prog 30 (.sl id st len cap) = some (len : Int) := by unfold aLen; simp only [un30]
theorem ln30  : aLen Tryz.prog 30 (.c (.slice none 0 0)) = some 0 := by unfold aLen; simp only [un30]
theorem lz30  : aLen Tryz.prog 30 .zs = some 0 := by unfold aLen; simp only [un30]
theorem sz32 : szT Tryz.prog 32 = some 1 := by kernel_rfl
theorem ag32 : aggT Tryz.prog 32 = some false := by kernel_rfl
theorem by32 : bytesT Tryz.prog 32 = some 8 := by kernel_rfl
theorem un32 : Tryz.prog.underlying 32 = some (Go.TypeDesc.int (Go.IntKind.i64)) := by kernel_rfl
theorem zc32 : zeroCells Tryz.prog 32 = some [.c (.int .i64 0)] := by kernel_rfl
theorem ze32 : zeroEl Tryz.prog 32 = some (.c (.int .i64 0)) := by kernel_rfl
theorem sz37 : szT Tryz.prog 37 = some 1 := by kernel_rfl
theorem ag37 : aggT Tryz.prog 37 = some false := by kernel_rfl
theorem by37 : bytesT Tryz.prog 37 = some 8 := by kernel_rfl
theorem un37 : Tryz.prog.underlying 37 = some (Go.TypeDesc.int (Go.IntKind.u64)) := by kernel_rfl
theorem zc37 : zeroCells Tryz.prog 37 = some [.c (.int .u64 0)] := by kernel_rfl
theorem ze37 : zeroEl Tryz.prog 37 = some (.c (.int .u64 0)) := by kernel_rfl
theorem sz41 : szT Tryz.prog 41 = some 1 := by kernel_rfl
theorem ag41 : aggT Tryz.prog 41 = some false := by kernel_rfl
theorem by41 : bytesT Tryz.prog 41 = some 24 := by kernel_rfl
theorem un41 : Tryz.prog.underlying 41 = some (Go.TypeDesc.slice 28) := by kernel_rfl
theorem zc41 : zeroCells Tryz.prog 41 = some [.c (.slice none 0 0)] := by kernel_rfl
theorem ze41 : zeroEl Tryz.prog 41 = some (.c (.slice none 0 0)) := by kernel_rfl
theorem ia41i (l : List AV) (i : Int) (H : List AO) : aIdxAddr Tryz.prog 41 (.isl l) i H = some ((0 ≤ i ∧ i < (l.length : Int)) ∧ (l.getD i.toNat .un).cells.length = 9, .iptr (l.getD i.toNat .un).cells 0) := by unfold aIdxAddr; simp only [un41, show szT Tryz.prog 28 = some 9 by kernel_rfl]
theorem ia41s (id st len cap : Nat) (i : Int) (H : List AO) : aIdxAddr Tryz.prog 41 (.sl id st len cap) i H = (match H[id]? with | some (.arr sz es) => if sz = 9 then some (0 ≤ i ∧ i < (len : Int), .eptr id (st + i.toNat) 0) else none | _ => none) := by unfold aIdxAddr; simp only [un41, show szT Tryz.prog 28 = some 9 by kernel_rfl]; rfl
theorem li41 (l : List AV) : aLen Tryz.prog 41 (.isl l) = some (l.length : Int) := by unfold aLen; simp only [un41]
theorem ls41 (id st len cap : Nat) : aLen Tryz.prog 41 (.sl id st len cap) = some (len : Int) := by unfold aLen; simp only [un41]
theorem ln41  : aLen Tryz.prog 41 (.c (.slice none 0 0)) = some 0 := by unfold aLen; simp only [un41]
theorem lz41  : aLen Tryz.prog 41 .zs = some 0 := by unfold aLen; simp only [un41]
theorem sz43 : szT Tryz.prog 43 = some 1 := by kernel_rfl
theorem ag43 : aggT Tryz.prog 43 = some false := by kernel_rfl
theorem by43 : bytesT Tryz.prog 43 = some 8 := by kernel_rfl
theorem zc43 : zeroCells Tryz.prog 43 = some [.c .nilFunc] := by kernel_rfl
theorem ze43 : zeroEl Tryz.prog 43 = some (.c .nilFunc) := by kernel_rfl
theorem sz49 : szT Tryz.prog 49 = some 7 := by kernel_rfl
theorem ag49 : aggT Tryz.prog 49 = some true := by kernel_rfl
theorem by49 : bytesT Tryz.prog 49 = some 32 := by kernel_rfl
theorem un49 : Tryz.prog.underlying 49 = some (Go.TypeDesc.struct #[{ name := "Shape", type := 22, offset := 0, embedded := false, tag := "", pkgPath := "", byteOffset := 0 }, { name := "Torus", type := 26, offset := 3, embedded := false, tag := "", pkgPath := "", byteOffset := 24 }, { name := "Turn", type := 4, offset := 6, embedded := false, tag := "", pkgPath := "", byteOffset := 27 }]) := by kernel_rfl
theorem zc49 : zeroCells Tryz.prog 49 = some [.c (.int .i64 0), .c (.int .i64 0), .c (.int .i64 0), .c (.bool false), .c (.bool false), .c (.bool false), .c (.bool false)] := by kernel_rfl
theorem ze49 : zeroEl Tryz.prog 49 = some (.agg [.c (.int .i64 0), .c (.int .i64 0), .c (.int .i64 0), .c (.bool false), .c (.bool false), .c (.bool false), .c (.bool false)]) := by kernel_rfl
theorem fa49 : Array.all (#[{ name := "Shape", type := 22, offset := 0, embedded := false, tag := "", pkgPath := "", byteOffset := 0 }, { name := "Torus", type := 26, offset := 3, embedded := false, tag := "", pkgPath := "", byteOffset := 24 }, { name := "Turn", type := 4, offset := 6, embedded := false, tag := "", pkgPath := "", byteOffset := 27 }] : Array Field) (fun f => (szT Tryz.prog f.type).isSome) 0 3 = true := by kernel_rfl
theorem fp49_0 : fieldPlaces Tryz.prog #[{ name := "Shape", type := 22, offset := 0, embedded := false, tag := "", pkgPath := "", byteOffset := 0 }, { name := "Torus", type := 26, offset := 3, embedded := false, tag := "", pkgPath := "", byteOffset := 24 }, { name := "Turn", type := 4, offset := 6, embedded := false, tag := "", pkgPath := "", byteOffset := 27 }] 0 = some (0, 3) := by kernel_rfl
theorem fp49_1 : fieldPlaces Tryz.prog #[{ name := "Shape", type := 22, offset := 0, embedded := false, tag := "", pkgPath := "", byteOffset := 0 }, { name := "Torus", type := 26, offset := 3, embedded := false, tag := "", pkgPath := "", byteOffset := 24 }, { name := "Turn", type := 4, offset := 6, embedded := false, tag := "", pkgPath := "", byteOffset := 27 }] 1 = some (3, 3) := by kernel_rfl
theorem fp49_2 : fieldPlaces Tryz.prog #[{ name := "Shape", type := 22, offset := 0, embedded := false, tag := "", pkgPath := "", byteOffset := 0 }, { name := "Torus", type := 26, offset := 3, embedded := false, tag := "", pkgPath := "", byteOffset := 24 }, { name := "Turn", type := 4, offset := 6, embedded := false, tag := "", pkgPath := "", byteOffset := 27 }] 2 = some (6, 1) := by kernel_rfl
theorem fo49_0 : fieldOffA Tryz.prog 49 0 = some 0 := by kernel_rfl
theorem fo49_1 : fieldOffA Tryz.prog 49 1 = some 3 := by kernel_rfl
theorem fo49_2 : fieldOffA Tryz.prog 49 2 = some 6 := by kernel_rfl
theorem sz55 : szT Tryz.prog 55 = some 1 := by kernel_rfl
theorem ag55 : aggT Tryz.prog 55 = some false := by kernel_rfl
theorem by55 : bytesT Tryz.prog 55 = some 8 := by kernel_rfl
theorem un55 : Tryz.prog.underlying 55 = some (Go.TypeDesc.map 28 3) := by kernel_rfl
theorem zc55 : zeroCells Tryz.prog 55 = some [.c (.map none)] := by kernel_rfl
theorem ze55 : zeroEl Tryz.prog 55 = some (.c (.map none)) := by kernel_rfl
theorem sz58 : szT Tryz.prog 58 = some 1 := by kernel_rfl
theorem ag58 : aggT Tryz.prog 58 = some false := by kernel_rfl
theorem by58 : bytesT Tryz.prog 58 = some 8 := by kernel_rfl
theorem zc58 : zeroCells Tryz.prog 58 = some [.c .nilFunc] := by kernel_rfl
theorem ze58 : zeroEl Tryz.prog 58 = some (.c .nilFunc) := by kernel_rfl
theorem sz64 : szT Tryz.prog 64 = some 1 := by kernel_rfl
theorem ag64 : aggT Tryz.prog 64 = some false := by kernel_rfl
theorem by64 : bytesT Tryz.prog 64 = some 24 := by kernel_rfl
theorem un64 : Tryz.prog.underlying 64 = some (Go.TypeDesc.slice 3) := by kernel_rfl
theorem zc64 : zeroCells Tryz.prog 64 = some [.c (.slice none 0 0)] := by kernel_rfl
theorem ze64 : zeroEl Tryz.prog 64 = some (.c (.slice none 0 0)) := by kernel_rfl
theorem ia64i (l : List AV) (i : Int) (H : List AO) : aIdxAddr Tryz.prog 64 (.isl l) i H = some ((0 ≤ i ∧ i < (l.length : Int)) ∧ (l.getD i.toNat .un).cells.length = 1, .iptr (l.getD i.toNat .un).cells 0) := by unfold aIdxAddr; simp only [un64, show szT Tryz.prog 3 = some 1 by kernel_rfl]
theorem ia64s (id st len cap : Nat) (i : Int) (H : List AO) : aIdxAddr Tryz.prog 64 (.sl id st len cap) i H = (match H[id]? with | some (.arr sz es) => if sz = 1 then some (0 ≤ i ∧ i < (len : Int), .eptr id (st + i.toNat) 0) else none | _ => none) := by unfold aIdxAddr; simp only [un64, show szT Tryz.prog 3 = some 1 by kernel_rfl]; rfl
theorem li64 (l : List AV) : aLen Tryz.prog 64 (.isl l) = some (l.length : Int) := by unfold aLen; simp only [un64]
theorem ls64 (id st len cap : Nat) : aLen Tryz.prog 64 (.sl id st len cap) = some (len : Int) := by unfold aLen; simp only [un64]
theorem ln64  : aLen Tryz.prog 64 (.c (.slice none 0 0)) = some 0 := by unfold aLen; simp only [un64]
theorem lz64  : aLen Tryz.prog 64 .zs = some 0 := by unfold aLen; simp only [un64]
theorem sz73 : szT Tryz.prog 73 = some 1 := by kernel_rfl
theorem ag73 : aggT Tryz.prog 73 = some false := by kernel_rfl
theorem by73 : bytesT Tryz.prog 73 = some 8 := by kernel_rfl
theorem zc73 : zeroCells Tryz.prog 73 = some [.c .nilFunc] := by kernel_rfl
theorem ze73 : zeroEl Tryz.prog 73 = some (.c .nilFunc) := by kernel_rfl
theorem sz77 : szT Tryz.prog 77 = some 1 := by kernel_rfl
theorem ag77 : aggT Tryz.prog 77 = some false := by kernel_rfl
theorem by77 : bytesT Tryz.prog 77 = some 8 := by kernel_rfl
theorem zc77 : zeroCells Tryz.prog 77 = some [.c .nilFunc] := by kernel_rfl
theorem ze77 : zeroEl Tryz.prog 77 = some (.c .nilFunc) := by kernel_rfl
theorem sz78 : szT Tryz.prog 78 = some 1 := by kernel_rfl
theorem ag78 : aggT Tryz.prog 78 = some false := by kernel_rfl
theorem by78 : bytesT Tryz.prog 78 = some 8 := by kernel_rfl
theorem zc78 : zeroCells Tryz.prog 78 = some [.c .nilFunc] := by kernel_rfl
theorem ze78 : zeroEl Tryz.prog 78 = some (.c .nilFunc) := by kernel_rfl
theorem sz80 : szT Tryz.prog 80 = some 1 := by kernel_rfl
theorem ag80 : aggT Tryz.prog 80 = some false := by kernel_rfl
theorem by80 : bytesT Tryz.prog 80 = some 8 := by kernel_rfl
theorem zc80 : zeroCells Tryz.prog 80 = some [.c .nilFunc] := by kernel_rfl
theorem ze80 : zeroEl Tryz.prog 80 = some (.c .nilFunc) := by kernel_rfl
theorem sz85 : szT Tryz.prog 85 = some 1 := by kernel_rfl
theorem ag85 : aggT Tryz.prog 85 = some false := by kernel_rfl
theorem by85 : bytesT Tryz.prog 85 = some 8 := by kernel_rfl
theorem zc85 : zeroCells Tryz.prog 85 = some [.c .nilFunc] := by kernel_rfl
theorem ze85 : zeroEl Tryz.prog 85 = some (.c .nilFunc) := by kernel_rfl
theorem sz86 : szT Tryz.prog 86 = some 1 := by kernel_rfl
theorem ag86 : aggT Tryz.prog 86 = some false := by kernel_rfl
theorem by86 : bytesT Tryz.prog 86 = some 24 := by kernel_rfl
theorem un86 : Tryz.prog.underlying 86 = some (Go.TypeDesc.slice 30) := by kernel_rfl
theorem zc86 : zeroCells Tryz.prog 86 = some [.c (.slice none 0 0)] := by kernel_rfl
theorem ze86 : zeroEl Tryz.prog 86 = some (.c (.slice none 0 0)) := by kernel_rfl
theorem ia86i (l : List AV) (i : Int) (H : List AO) : aIdxAddr Tryz.prog 86 (.isl l) i H = some ((0 ≤ i ∧ i < (l.length : Int)) ∧ (l.getD i.toNat .un).cells.length = 1, .iptr (l.getD i.toNat .un).cells 0) := by unfold aIdxAddr; simp only [un86, show szT Tryz.prog 30 = some 1 by kernel_rfl]
theorem ia86s (id st len cap : Nat) (i : Int) (H : List AO) : aIdxAddr Tryz.prog 86 (.sl id st len cap) i H = (match H[id]? with | some (.arr sz es) => if sz = 1 then some (0 ≤ i ∧ i < (len : Int), .eptr id (st + i.toNat) 0) else none | _ => none) := by unfold aIdxAddr; simp only [un86, show szT Tryz.prog 30 = some 1 by kernel_rfl]; rfl
theorem li86 (l : List AV) : aLen Tryz.prog 86 (.isl l) = some (l.length : Int) := by unfold aLen; simp only [un86]
theorem ls86 (id st len cap : Nat) : aLen Tryz.prog 86 (.sl id st len cap) = some (len : Int) := by unfold aLen; simp only [un86]
theorem ln86  : aLen Tryz.prog 86 (.c (.slice none 0 0)) = some 0 := by unfold aLen; simp only [un86]
theorem lz86  : aLen Tryz.prog 86 .zs = some 0 := by unfold aLen; simp only [un86]
theorem sz91 : szT Tryz.prog 91 = some 1 := by kernel_rfl
theorem ag91 : aggT Tryz.prog 91 = some false := by kernel_rfl
theorem by91 : bytesT Tryz.prog 91 = some 8 := by kernel_rfl
theorem zc91 : zeroCells Tryz.prog 91 = some [.c .nilFunc] := by kernel_rfl
theorem ze91 : zeroEl Tryz.prog 91 = some (.c .nilFunc) := by kernel_rfl
theorem sz95 : szT Tryz.prog 95 = some 1 := by kernel_rfl
theorem ag95 : aggT Tryz.prog 95 = some false := by kernel_rfl
theorem by95 : bytesT Tryz.prog 95 = some 8 := by kernel_rfl
theorem zc95 : zeroCells Tryz.prog 95 = some [.c .nilFunc] := by kernel_rfl
theorem ze95 : zeroEl Tryz.prog 95 = some (.c .nilFunc) := by kernel_rfl
theorem sz96 : szT Tryz.prog 96 = some 1 := by kernel_rfl
theorem ag96 : aggT Tryz.prog 96 = some false := by kernel_rfl
theorem by96 : bytesT Tryz.prog 96 = some 8 := by kernel_rfl
theorem zc96 : zeroCells Tryz.prog 96 = some [.c .nilFunc] := by kernel_rfl
theorem ze96 : zeroEl Tryz.prog 96 = some (.c .nilFunc) := by kernel_rfl
theorem sz99 : szT Tryz.prog 99 = some 1 := by kernel_rfl
theorem ag99 : aggT Tryz.prog 99 = some false := by kernel_rfl
theorem by99 : bytesT Tryz.prog 99 = some 8 := by kernel_rfl
theorem zc99 : zeroCells Tryz.prog 99 = some [.c .nilFunc] := by kernel_rfl
theorem ze99 : zeroEl Tryz.prog 99 = some (.c .nilFunc) := by kernel_rfl
theorem sz102 : szT Tryz.prog 102 = some 1 := by kernel_rfl
theorem ag102 : aggT Tryz.prog 102 = some false := by kernel_rfl
theorem by102 : bytesT Tryz.prog 102 = some 24 := by kernel_rfl
theorem un102 : Tryz.prog.underlying 102 = some (Go.TypeDesc.slice 49) := by kernel_rfl
theorem zc102 : zeroCells Tryz.prog 102 = some [.c (.slice none 0 0)] := by kernel_rfl
theorem ze102 : zeroEl Tryz.prog 102 = some (.c (.slice none 0 0)) := by kernel_rfl
theorem ia102i (l : List AV) (i : Int) (H : List AO) : aIdxAddr Tryz.prog 102 (.isl l) i H = some ((0 ≤ i ∧ i < (l.length : Int)) ∧ (l.getD i.toNat .un).cells.length = 7, .iptr (l.getD i.toNat .un).cells 0) := by unfold aIdxAddr; simp only [un102, show szT Tryz.prog 49 = some 7 by kernel_rfl]
theorem ia102s (id st len cap : Nat) (i : Int) (H : List AO) : aIdxAddr Tryz.prog 102 (.sl id st len cap) i H = (match H[id]? with | some (.arr sz es) => if sz = 7 then some (0 ≤ i ∧ i < (len : Int), .eptr id (st + i.toNat) 0) else none | _ => none) := by unfold aIdxAddr; simp only [un102, show szT Tryz.prog 49 = some 7 by kernel_rfl]; rfl
theorem li102 (l : List AV) : aLen Tryz.prog 102 (.isl l) = some (l.length : Int) := by unfold aLen; simp only [un102]
theorem ls102 (id st len cap : Nat) : aLen Tryz.prog 102 (.sl id st len cap) = some (len : Int) := by unfold aLen; simp only [un102]
theorem ln102  : aLen Tryz.prog 102 (.c (.slice none 0 0)) = some 0 := by unfold aLen; simp only [un102]
theorem lz102  : aLen Tryz.prog 102 .zs = some 0 := by unfold aLen; simp only [un102]
theorem sz106 : szT Tryz.prog 106 = some 1 := by kernel_rfl
theorem ag106 : aggT Tryz.prog 106 = some false := by kernel_rfl
theorem by106 : bytesT Tryz.prog 106 = some 8 := by kernel_rfl
theorem zc106 : zeroCells Tryz.prog 106 = some [.c .nilFunc] := by kernel_rfl
theorem ze106 : zeroEl Tryz.prog 106 = some (.c .nilFunc) := by kernel_rfl
theorem sz107 : szT Tryz.prog 107 = some 1 := by kernel_rfl
theorem ag107 : aggT Tryz.prog 107 = some false := by kernel_rfl
theorem by107 : bytesT Tryz.prog 107 = some 8 := by kernel_rfl
theorem zc107 : zeroCells Tryz.prog 107 = some [.c .nilFunc] := by kernel_rfl
theorem ze107 : zeroEl Tryz.prog 107 = some (.c .nilFunc) := by kernel_rfl
theorem sz117 : szT Tryz.prog 117 = some 1 := by kernel_rfl
theorem ag117 : aggT Tryz.prog 117 = some false := by kernel_rfl
theorem by117 : bytesT Tryz.prog 117 = some 8 := by kernel_rfl
theorem zc117 : zeroCells Tryz.prog 117 = some [.c .nilFunc] := by kernel_rfl
theorem ze117 : zeroEl Tryz.prog 117 = some (.c .nilFunc) := by kernel_rfl
theorem sz120 : szT Tryz.prog 120 = some 1 := by kernel_rfl
theorem ag120 : aggT Tryz.prog 120 = some false := by kernel_rfl
theorem by120 : bytesT Tryz.prog 120 = some 8 := by kernel_rfl
theorem un120 : Tryz.prog.underlying 120 = some (Go.TypeDesc.int (Go.IntKind.u64)) := by kernel_rfl
theorem zc120 : zeroCells Tryz.prog 120 = some [.c (.int .u64 0)] := by kernel_rfl
theorem ze120 : zeroEl Tryz.prog 120 = some (.c (.int .u64 0)) := by kernel_rfl
theorem sz121 : szT Tryz.prog 121 = some 2 := by kernel_rfl
theorem ag121 : aggT Tryz.prog 121 = some true := by kernel_rfl
theorem by121 : bytesT Tryz.prog 121 = some 16 := by kernel_rfl
theorem un121 : Tryz.prog.underlying 121 = some (Go.TypeDesc.array 2 3) := by kernel_rfl
theorem zc121 : zeroCells Tryz.prog 121 = some [.c (.int .i64 0), .c (.int .i64 0)] := by kernel_rfl
theorem ze121 : zeroEl Tryz.prog 121 = some (.agg [.c (.int .i64 0), .c (.int .i64 0)]) := by kernel_rfl
theorem ia121 (x : AV) (i : Int) (H : List AO) : aIdxAddr Tryz.prog 121 x i H = (ptrAdd x (i.toNat * 1)).map fun v => (0 ≤ i ∧ i < 2, v) := by unfold aIdxAddr; simp only [un121, show szT Tryz.prog 3 = some 1 by kernel_rfl]; rfl
theorem sz123 : szT Tryz.prog 123 = some 1 := by kernel_rfl
theorem ag123 : aggT Tryz.prog 123 = some false := by kernel_rfl
theorem by123 : bytesT Tryz.prog 123 = some 8 := by kernel_rfl
theorem un123 : Tryz.prog.underlying 123 = some (Go.TypeDesc.map 49 4) := by kernel_rfl
theorem zc123 : zeroCells Tryz.prog 123 = some [.c (.map none)] := by kernel_rfl
theorem ze123 : zeroEl Tryz.prog 123 = some (.c (.map none)) := by kernel_rfl
theorem sz124 : szT Tryz.prog 124 = some 18 := by kernel_rfl
theorem ag124 : aggT Tryz.prog 124 = some true := by kernel_rfl
theorem by124 : bytesT Tryz.prog 124 = some 144 := by kernel_rfl
theorem un124 : Tryz.prog.underlying 124 = some (Go.TypeDesc.array 6 22) := by kernel_rfl
theorem zc124 : zeroCells Tryz.prog 124 = some [.c (.int .i64 0), .c (.int .i64 0), .c (.int .i64 0), .c (.int .i64 0), .c (.int .i64 0), .c (.int .i64 0), .c (.int .i64 0), .c (.int .i64 0), .c (.int .i64 0), .c (.int .i64 0), .c (.int .i64 0), .c (.int .i64 0), .c (.int .i64 0), .c (.int .i64 0), .c (.int .i64 0), .c (.int .i64 0), .c (.int .i64 0), .c (.int .i64 0)] := by kernel_rfl
theorem ze124 : zeroEl Tryz.prog 124 = some (.agg [.c (.int .i64 0), .c (.int .i64 0), .c (.int .i64 0), .c (.int .i64 0), .c (.int .i64 0), .c (.int .i64 0), .c (.int .i64 0), .c (.int .i64 0), .c (.int .i64 0), .c (.int .i64 0), .c (.int .i64 0), .c (.int .i64 0), .c (.int .i64 0), .c (.int .i64 0), .c (.int .i64 0), .c (.int .i64 0), .c (.int .i64 0), .c (.int .i64 0)]) := by kernel_rfl
theorem ia124 (x : AV) (i : Int) (H : List AO) : aIdxAddr Tryz.prog 124 x i H = (ptrAdd x (i.toNat * 3)).map fun v => (0 ≤ i ∧ i < 6, v) := by unfold aIdxAddr; simp only [un124, show szT Tryz.prog 22 = some 3 by kernel_rfl]; rfl
theorem sz127 : szT Tryz.prog 127 = some 1 := by kernel_rfl
theorem ag127 : aggT Tryz.prog 127 = some false := by kernel_rfl
theorem by127 : bytesT Tryz.prog 127 = some 8 := by kernel_rfl
theorem zc127 : zeroCells Tryz.prog 127 = some [.c .nilFunc] := by kernel_rfl
theorem ze127 : zeroEl Tryz.prog 127 = some (.c .nilFunc) := by kernel_rfl
theorem sz128 : szT Tryz.prog 128 = some 1 := by kernel_rfl
theorem ag128 : aggT Tryz.prog 128 = some false := by kernel_rfl
theorem by128 : bytesT Tryz.prog 128 = some 8 := by kernel_rfl
theorem zc128 : zeroCells Tryz.prog 128 = some [.c .nilFunc] := by kernel_rfl
theorem ze128 : zeroEl Tryz.prog 128 = some (.c .nilFunc) := by kernel_rfl
theorem sz130 : szT Tryz.prog 130 = some 1 := by kernel_rfl
theorem ag130 : aggT Tryz.prog 130 = some false := by kernel_rfl
theorem by130 : bytesT Tryz.prog 130 = some 8 := by kernel_rfl
theorem zc130 : zeroCells Tryz.prog 130 = some [.c .nilFunc] := by kernel_rfl
theorem ze130 : zeroEl Tryz.prog 130 = some (.c .nilFunc) := by kernel_rfl
theorem sz141 : szT Tryz.prog 141 = some 64 := by kernel_rfl
theorem ag141 : aggT Tryz.prog 141 = some true := by kernel_rfl
theorem by141 : bytesT Tryz.prog 141 = some 64 := by kernel_rfl
theorem un141 : Tryz.prog.underlying 141 = some (Go.TypeDesc.array 64 5) := by kernel_rfl
theorem zc141 : zeroCells Tryz.prog 141 = some [.c (.int .u8 0), .c (.int .u8 0), .c (.int .u8 0), .c (.int .u8 0), .c (.int .u8 0), .c (.int .u8 0), .c (.int .u8 0), .c (.int .u8 0), .c (.int .u8 0), .c (.int .u8 0), .c (.int .u8 0), .c (.int .u8 0), .c (.int .u8 0), .c (.int .u8 0), .c (.int .u8 0), .c (.int .u8 0), .c (.int .u8 0), .c (.int .u8 0), .c (.int .u8 0), .c (.int .u8 0), .c (.int .u8 0), .c (.int .u8 0), .c (.int .u8 0), .c (.int .u8 0), .c (.int .u8 0), .c (.int .u8 0), .c (.int .u8 0), .c (.int .u8 0), .c (.int .u8 0), .c (.int .u8 0), .c (.int .u8 0), .c (.int .u8 0), .c (.int .u8 0), .c (.int .u8 0), .c (.int .u8 0), .c (.int .u8 0), .c (.int .u8 0), .c (.int .u8 0), .c (.int .u8 0), .c (.int .u8 0), .c (.int .u8 0), .c (.int .u8 0), .c (.int .u8 0), .c (.int .u8 0), .c (.int .u8 0), .c (.int .u8 0), .c (.int .u8 0), .c (.int .u8 0), .c (.int .u8 0), .c (.int .u8 0), .c (.int .u8 0), .c (.int .u8 0), .c (.int .u8 0), .c (.int .u8 0), .c (.int .u8 0), .c (.int .u8 0), .c (.int .u8 0), .c (.int .u8 0), .c (.int .u8 0), .c (.int .u8 0), .c (.int .u8 0), .c (.int .u8 0), .c (.int .u8 0), .c (.int .u8 0)] := by kernel_rfl
theorem ze141 : zeroEl Tryz.prog 141 = some (.agg [.c (.int .u8 0), .c (.int .u8 0), .c (.int .u8 0), .c (.int .u8 0), .c (.int .u8 0), .c (.int .u8 0), .c (.int .u8 0), .c (.int .u8 0), .c (.int .u8 0), .c (.int .u8 0), .c (.int .u8 0), .c (.int .u8 0), .c (.int .u8 0), .c (.int .u8 0), .c (.int .u8 0), .c (.int .u8 0), .c (.int .u8 0), .c (.int .u8 0), .c (.int .u8 0), .c (.int .u8 0), .c (.int .u8 0), .c (.int .u8 0), .c (.int .u8 0), .c (.int .u8 0), .c (.int .u8 0), .c (.int .u8 0), .c (.int .u8 0), .c (.int .u8 0), .c (.int .u8 0), .c (.int .u8 0), .c (.int .u8 0), .c (.int .u8 0), .c (.int .u8 0), .c (.int .u8 0), .c (.int .u8 0), .c (.int .u8 0), .c (.int .u8 0), .c (.int .u8 0), .c (.int .u8 0), .c (.int .u8 0), .c (.int .u8 0), .c (.int .u8 0), .c (.int .u8 0), .c (.int .u8 0), .c (.int .u8 0), .c (.int .u8 0), .c (.int .u8 0), .c (.int .u8 0), .c (.int .u8 0), .c (.int .u8 0), .c (.int .u8 0), .c (.int .u8 0), .c (.int .u8 0), .c (.int .u8 0), .c (.int .u8 0), .c (.int .u8 0), .c (.int .u8 0), .c (.int .u8 0), .c (.int .u8 0), .c (.int .u8 0), .c (.int .u8 0), .c (.int .u8 0), .c (.int .u8 0), .c (.int .u8 0)]) := by kernel_rfl
theorem ia141 (x : AV) (i : Int) (H : List AO) : aIdxAddr Tryz.prog 141 x i H = (ptrAdd x (i.toNat * 1)).map fun v => (0 ≤ i ∧ i < 64, v) := by unfold aIdxAddr; simp only [un141, show szT Tryz.prog 5 = some 1 by kernel_rfl]; rfl
theorem sz144 : szT Tryz.prog 144 = some 1 := by kernel_rfl
theorem ag144 : aggT Tryz.prog 144 = some false := by kernel_rfl
theorem by144 : bytesT Tryz.prog 144 = some 8 := by kernel_rfl
theorem zc144 : zeroCells Tryz.prog 144 = some [.c .nilFunc] := by kernel_rfl
theorem ze144 : zeroEl Tryz.prog 144 = some (.c .nilFunc) := by kernel_rfl
theorem sz146 : szT Tryz.prog 146 = some 1 := by kernel_rfl
theorem ag146 : aggT Tryz.prog 146 = some false := by kernel_rfl
theorem by146 : bytesT Tryz.prog 146 = some 8 := by kernel_rfl
theorem un146 : Tryz.prog.underlying 146 = some (Go.TypeDesc.int (Go.IntKind.i64)) := by kernel_rfl
theorem zc146 : zeroCells Tryz.prog 146 = some [.c (.int .i64 0)] := by kernel_rfl
theorem ze146 : zeroEl Tryz.prog 146 = some (.c (.int .i64 0)) := by kernel_rfl
theorem sz153 : szT Tryz.prog 153 = some 1 := by kernel_rfl
theorem ag153 : aggT Tryz.prog 153 = some false := by kernel_rfl
theorem by153 : bytesT Tryz.prog 153 = some 4 := by kernel_rfl
theorem un153 : Tryz.prog.underlying 153 = some (Go.TypeDesc.int (Go.IntKind.u32)) := by kernel_rfl
theorem zc153 : zeroCells Tryz.prog 153 = some [.c (.int .u32 0)] := by kernel_rfl
theorem ze153 : zeroEl Tryz.prog 153 = some (.c (.int .u32 0)) := by kernel_rfl
theorem sz158 : szT Tryz.prog 158 = some 1 := by kernel_rfl
theorem ag158 : aggT Tryz.prog 158 = some false := by kernel_rfl
theorem by158 : bytesT Tryz.prog 158 = some 8 := by kernel_rfl
theorem un158 : Tryz.prog.underlying 158 = some (Go.TypeDesc.int (Go.IntKind.u64)) := by kernel_rfl
theorem ty0 : (szT Tryz.prog 3 = some 1) ∧ (aggT Tryz.prog 3 = some false) ∧ (bytesT Tryz.prog 3 = some 8) ∧ (Tryz.prog.underlying 3 = some (Go.TypeDesc.int (Go.IntKind.i64))) ∧ (zeroCells Tryz.prog 3 = some [.c (.int .i64 0)]) ∧ (zeroEl Tryz.prog 3 = some (.c (.int .i64 0))) ∧ (szT Tryz.prog 4 = some 1) ∧ (aggT Tryz.prog 4 = some false) ∧ (bytesT Tryz.prog 4 = some 1) ∧ (Tryz.prog.underlying 4 = some (Go.TypeDesc.bool)) ∧ (zeroCells Tryz.prog 4 = some [.c (.bool false)]) ∧ (zeroEl Tryz.prog 4 = some (.c (.bool false))) ∧ (szT Tryz.prog 5 = some 1) ∧ (aggT Tryz.prog 5 = some false) ∧ (bytesT Tryz.prog 5 = some 1) ∧ (Tryz.prog.underlying 5 = some (Go.TypeDesc.int (Go.IntKind.u8))) ∧ (zeroCells Tryz.prog 5 = some [.c (.int .u8 0)]) ∧ (zeroEl Tryz.prog 5 = some (.c (.int .u8 0))) ∧ (szT Tryz.prog 9 = some 1) ∧ (aggT Tryz.prog 9 = some false) ∧ (bytesT Tryz.prog 9 = some 16) ∧ (Tryz.prog.underlying 9 = some (Go.TypeDesc.string)) ∧ (szT Tryz.prog 20 = some 1) ∧ (aggT Tryz.prog 20 = some false) ∧ (bytesT Tryz.prog 20 = some 16) ∧ (zeroCells Tryz.prog 20 = some [.c .nilIface]) ∧ (zeroEl Tryz.prog 20 = some (.c .nilIface)) ∧ (szT Tryz.prog 22 = some 3) ∧ (aggT Tryz.prog 22 = some true) ∧ (bytesT Tryz.prog 22 = some 24) ∧ (Tryz.prog.underlying 22 = some (Go.TypeDesc.array 3 3)) ∧ (zeroCells Tryz.prog 22 = some [.c (.int .i64 0), .c (.int .i64 0), .c (.int .i64 0)]) ∧ (zeroEl Tryz.prog 22 = some (.agg [.c (.int .i64 0), .c (.int .i64 0), .c (.int .i64 0)])) ∧ (∀ (x : AV) (i : Int) (H : List AO), aIdxAddr Tryz.prog 22 x i H = (ptrAdd x (i.toNat * 1)).map fun v => (0 ≤ i ∧ i < 3, v)) ∧ (szT Tryz.prog 23 = some 3) ∧ (aggT Tryz.prog 23 = some true) ∧ (bytesT Tryz.prog 23 = some 24) ∧ (Tryz.prog.underlying 23 = some (Go.TypeDesc.array 3 3)) ∧ (zeroCells Tryz.prog 23 = some [.c (.int .i64 0), .c (.int .i64 0), .c (.int .i64 0)]) ∧ (zeroEl Tryz.prog 23 = some (.agg [.c (.int .i64 0), .c (.int .i64 0), .c (.int .i64 0)])) ∧ (∀ (x : AV) (i : Int) (H : List AO), aIdxAddr Tryz.prog 23 x i H = (ptrAdd x (i.toNat * 1)).map fun v => (0 ≤ i ∧ i < 3, v)) ∧ (szT Tryz.prog 25 = some 6) ∧ (aggT Tryz.prog 25 = some true) ∧ (bytesT Tryz.prog 25 = some 48) ∧ (Tryz.prog.underlying 25 = some (Go.TypeDesc.struct #[{ name := "Base", type := 22, offset := 0, embedded := false, tag := "", pkgPath := "", byteOffset := 0 }, { name := "Size", type := 22, offset := 3, embedded := false, tag := "", pkgPath := "", byteOffset := 24 }])) ∧ (zeroCells Tryz.prog 25 = some [.c (.int .i64 0), .c (.int .i64 0), .c (.int .i64 0), .c (.int .i64 0), .c (.int .i64 0), .c (.int .i64 0)]) ∧ (zeroEl Tryz.prog 25 = some (.agg [.c (.int .i64 0), .c (.int .i64 0), .c (.int .i64 0), .c (.int .i64 0), .c (.int .i64 0), .c (.int .i64 0)])) ∧ (Array.all (#[{ name := "Base", type := 22, offset := 0, embedded := false, tag := "", pkgPath := "", byteOffset := 0 }, { name := "Size", type := 22, offset := 3, embedded := false, tag := "", pkgPath := "", byteOffset := 24 }] : Array Field) (fun f => (szT Tryz.prog f.type).isSome) 0 2 = true) ∧ (fieldPlaces Tryz.prog #[{ name := "Base", type := 22, offset := 0, embedded := false, tag := "", pkgPath := "", byteOffset := 0 }, { name := "Size", type := 22, offset := 3, embedded := false, tag := "", pkgPath := "", byteOffset := 24 }] 0 = some (0, 3)) ∧ (fieldPlaces Tryz.prog #[{ name := "Base", type := 22, offset := 0, embedded := false, tag := "", pkgPath := "", byteOffset := 0 }, { name := "Size", type := 22, offset := 3, embedded := false, tag := "", pkgPath := "", byteOffset := 24 }] 1 = some (3, 3)) ∧ (fieldOffA Tryz.prog 25 0 = some 0) ∧ (fieldOffA Tryz.prog 25 1 = some 3) ∧ (szT Tryz.prog 26 = some 3) ∧ (aggT Tryz.prog 26 = some true) ∧ (bytesT Tryz.prog 26 = some 3) ∧ (Tryz.prog.underlying 26 = some (Go.TypeDesc.array 3 4)) ∧ (zeroCells Tryz.prog 26 = some [.c (.bool false), .c (.bool false), .c (.bool false)]) ∧ (zeroEl Tryz.prog 26 = some (.agg [.c (.bool false), .c (.bool false), .c (.bool false)])) ∧ (∀ (x : AV) (i : Int) (H : List AO), aIdxAddr Tryz.prog 26 x i H = (ptrAdd x (i.toNat * 1)).map fun v => (0 ≤ i ∧ i < 3, v)) ∧ (szT Tryz.prog 28 = some 9) := ⟨@sz3, @ag3, @by3, @un3, @zc3, @ze3, @sz4, @ag4, @by4, @un4, @zc4, @ze4, @sz5, @ag5, @by5, @un5, @zc5, @ze5, @sz9, @ag9, @by9, @un9, @sz20, @ag20, @by20, @zc20, @ze20, @sz22, @ag22, @by22, @un22, @zc22, @ze22, @ia22, @sz23, @ag23, @by23, @un23, @zc23, @ze23, @ia23, @sz25, @ag25, @by25, @un25, @zc25, @ze25, @fa25, @fp25_0, @fp25_1, @fo25_0, @fo25_1, @sz26, @ag26, @by26, @un26, @zc26, @ze26, @ia26, @sz28⟩
theorem ty1 : (aggT Tryz.prog 28 = some true) ∧ (bytesT Tryz.prog 28 = some 56) ∧ (Tryz.prog.underlying 28 = some (Go.TypeDesc.struct #[{ name := "Box", type := 25, offset := 0, embedded := false, tag := "", pkgPath := "", byteOffset := 0 }, { name := "Torus", type := 26, offset := 6, embedded := false, tag := "", pkgPath := "", byteOffset := 48 }])) ∧ (zeroCells Tryz.prog 28 = some [.c (.int .i64 0), .c (.int .i64 0), .c (.int .i64 0), .c (.int .i64 0), .c (.int .i64 0), .c (.int .i64 0), .c (.bool false), .c (.bool false), .c (.bool false)]) ∧ (zeroEl Tryz.prog 28 = some (.agg [.c (.int .i64 0), .c (.int .i64 0), .c (.int .i64 0), .c (.int .i64 0), .c (.int .i64 0), .c (.int .i64 0), .c (.bool false), .c (.bool false), .c (.bool false)])) ∧ (Array.all (#[{ name := "Box", type := 25, offset := 0, embedded := false, tag := "", pkgPath := "", byteOffset := 0 }, { name := "Torus", type := 26, offset := 6, embedded := false, tag := "", pkgPath := "", byteOffset := 48 }] : Array Field) (fun f => (szT Tryz.prog f.type).isSome) 0 2 = true) ∧ (fieldPlaces Tryz.prog #[{ name := "Box", type := 25, offset := 0, embedded := false, tag := "", pkgPath := "", byteOffset := 0 }, { name := "Torus", type := 26, offset := 6, embedded := false, tag := "", pkgPath := "", byteOffset := 48 }] 0 = some (0, 6)) ∧ (fieldPlaces Tryz.prog #[{ name := "Box", type := 25, offset := 0, embedded := false, tag := "", pkgPath := "", byteOffset := 0 }, { name := "Torus", type := 26, offset := 6, embedded := false, tag := "", pkgPath := "", byteOffset := 48 }] 1 = some (6, 3)) ∧ (fieldOffA Tryz.prog 28 0 = some 0) ∧ (fieldOffA Tryz.prog 28 1 = some 6) ∧ (szT Tryz.prog 30 = some 1) ∧ (aggT Tryz.prog 30 = some false) ∧ (bytesT Tryz.prog 30 = some 24) ∧ (Tryz.prog.underlying 30 = some (Go.TypeDesc.slice 37)) ∧ (zeroCells Tryz.prog 30 = some [.c (.slice none 0 0)]) ∧ (zeroEl Tryz.prog 30 = some (.c (.slice none 0 0))) ∧ (∀ (l : List AV) (i : Int) (H : List AO), aIdxAddr Tryz.prog 30 (.isl l) i H = some ((0 ≤ i ∧ i < (l.length : Int)) ∧ (l.getD i.toNat .un).cells.length = 1, .iptr (l.getD i.toNat .un).cells 0)) ∧ (∀ (id st len cap : Nat) (i : Int) (H : List AO), aIdxAddr Tryz.prog 30 (.sl id st len cap) i H = (match H[id]? with | some (.arr sz es) => if sz = 1 then some (0 ≤ i ∧ i < (len : Int), .eptr id (st + i.toNat) 0) else none | _ => none)) ∧ (∀ (l : List AV), aLen Tryz.prog 30 (.isl l) = some (l.length : Int)) ∧ (∀ (id st len cap : Nat), aLen Tryz.prog 30 (.sl id st len cap) = some (len : Int)) ∧ (aLen Tryz.prog 30 (.c (.slice none 0 0)) = some 0) ∧ (aLen Tryz.prog 30 .zs = some 0) ∧ (szT Tryz.prog 32 = some 1) ∧ (aggT Tryz.prog 32 = some false) ∧ (bytesT Tryz.prog 32 = some 8) ∧ (Tryz.prog.underlying 32 = some (Go.TypeDesc.int (Go.IntKind.i64))) ∧ (zeroCells Tryz.prog 32 = some [.c (.int .i64 0)]) ∧ (zeroEl Tryz.prog 32 = some (.c (.int .i64 0))) ∧ (szT Tryz.prog 37 = some 1) ∧ (aggT Tryz.prog 37 = some false) ∧ (bytesT Tryz.prog 37 = some 8) ∧ (Tryz.prog.underlying 37 = some (Go.TypeDesc.int (Go.IntKind.u64))) ∧ (zeroCells Tryz.prog 37 = some [.c (.int .u64 0)]) ∧ (zeroEl Tryz.prog 37 = some (.c (.int .u64 0))) ∧ (szT Tryz.prog 41 = some 1) ∧ (aggT Tryz.prog 41 = some false) ∧ (bytesT Tryz.prog 41 = some 24) ∧ (Tryz.prog.underlying 41 = some (Go.TypeDesc.slice 28)) ∧ (zeroCells Tryz.prog 41 = some [.c (.slice none 0 0)]) ∧ (zeroEl Tryz.prog 41 = some (.c (.slice none 0 0))) ∧ (∀ (l : List AV) (i : Int) (H : List AO), aIdxAddr Tryz.prog 41 (.isl l) i H = some ((0 ≤ i ∧ i < (l.length : Int)) ∧ (l.getD i.toNat .un).cells.length = 9, .iptr (l.getD i.toNat .un).cells 0)) ∧ (∀ (id st len cap : Nat) (i : Int) (H : List AO), aIdxAddr Tryz.prog 41 (.sl id st len cap) i H = (match H[id]? with | some (.arr sz es) => if sz = 9 then some (0 ≤ i ∧ i < (len : Int), .eptr id (st + i.toNat) 0) else none | _ => none)) ∧ (∀ (l : List AV), aLen Tryz.prog 41 (.isl l) = some (l.length : Int)) ∧ (∀ (id st len cap : Nat), aLen Tryz.prog 41 (.sl id st len cap) = some (len : Int)) ∧ (aLen Tryz.prog 41 (.c (.slice none 0 0)) = some 0) ∧ (aLen Tryz.prog 41 .zs = some 0) ∧ (szT Tryz.prog 43 = some 1) ∧ (aggT Tryz.prog 43 = some false) ∧ (bytesT Tryz.prog 43 = some 8) ∧ (zeroCells Tryz.prog 43 = some [.c .nilFunc]) ∧ (zeroEl Tryz.prog 43 = some (.c .nilFunc)) ∧ (szT Tryz.prog 49 = some 7) ∧ (aggT Tryz.prog 49 = some true) ∧ (bytesT Tryz.prog 49 = some 32) ∧ (Tryz.prog.underlying 49 = some (Go.TypeDesc.struct #[{ name := "Shape", type := 22, offset := 0, embedded := false, tag := "", pkgPath := "", byteOffset := 0 }, { name := "Torus", type := 26, offset := 3, embedded := false, tag := "", pkgPath := "", byteOffset := 24 }, { name := "Turn", type := 4, offset := 6, embedded := false, tag := "", pkgPath := "", byteOffset := 27 }])) ∧ (zeroCells Tryz.prog 49 = some [.c (.int .i64 0), .c (.int .i64 0), .c (.int .i64 0), .c (.bool false), .c (.bool false), .c (.bool false), .c (.bool false)]) ∧ (zeroEl Tryz.prog 49 = some (.agg [.c (.int .i64 0), .c (.int .i64 0), .c (.int .i64 0), .c (.bool false), .c (.bool false), .c (.bool false), .c (.bool false)])) ∧ (Array.all (#[{ name := "Shape", type := 22, offset := 0, embedded := false, tag := "", pkgPath := "", byteOffset := 0 }, { name := "Torus", type := 26, offset := 3, embedded := false, tag := "", pkgPath := "", byteOffset := 24 }, { name := "Turn", type := 4, offset := 6, embedded := false, tag := "", pkgPath := "", byteOffset := 27 }] : Array Field) (fun f => (szT Tryz.prog f.type).isSome) 0 3 = true) ∧ (fieldPlaces Tryz.prog #[{ name := "Shape", type := 22, offset := 0, embedded := false, tag := "", pkgPath := "", byteOffset := 0 }, { name := "Torus", type := 26, offset := 3, embedded := false, tag := "", pkgPath := "", byteOffset := 24 }, { name := "Turn", type := 4, offset := 6, embedded := false, tag := "", pkgPath := "", byteOffset := 27 }] 0 = some (0, 3)) ∧ (fieldPlaces Tryz.prog #[{ name := "Shape", type := 22, offset := 0, embedded := false, tag := "", pkgPath := "", byteOffset := 0 }, { name := "Torus", type := 26, offset := 3, embedded := false, tag := "", pkgPath := "", byteOffset := 24 }, { name := "Turn", type := 4, offset := 6, embedded := false, tag := "", pkgPath := "", byteOffset := 27 }] 1 = some (3, 3)) := ⟨@ag28, @by28, @un28, @zc28, @ze28, @fa28, @fp28_0, @fp28_1, @fo28_0, @fo28_1, @sz30, @ag30, @by30, @un30, @zc30, @ze30, @ia30i, @ia30s, @li30, @ls30, @ln30, @lz30, @sz32, @ag32, @by32, @un32, @zc32, @ze32, @sz37, @ag37, @by37, @un37, @zc37, @ze37, @sz41, @ag41, @by41, @un41, @zc41, @ze41, @ia41i, @ia41s, @li41, @ls41, @ln41, @lz41, @sz43, @ag43, @by43, @zc43, @ze43, @sz49, @ag49, @by49, @un49, @zc49, @ze49, @fa49, @fp49_0, @fp49_1⟩
theorem ty2 : (fieldPlaces Tryz.prog #[{ name := "Shape", type := 22, offset := 0, embedded := false, tag := "", pkgPath := "", byteOffset := 0 }, { name := "Torus", type := 26, offset := 3, embedded := false, tag := "", pkgPath := "", byteOffset := 24 }, { name := "Turn", type := 4, offset := 6, embedded := false, tag := "", pkgPath := "", byteOffset := 27 }] 2 = some (6, 1)) ∧ (fieldOffA Tryz.prog 49 0 = some 0) ∧ (fieldOffA Tryz.prog 49 1 = some 3) ∧ (fieldOffA Tryz.prog 49 2 = some 6) ∧ (szT Tryz.prog 55 = some 1) ∧ (aggT Tryz.prog 55 = some false) ∧ (bytesT Tryz.prog 55 = some 8) ∧ (Tryz.prog.underlying 55 = some (Go.TypeDesc.map 28 3)) ∧ (zeroCells Tryz.prog 55 = some [.c (.map none)]) ∧ (zeroEl Tryz.prog 55 = some (.c (.map none))) ∧ (szT Tryz.prog 58 = some 1) ∧ (aggT Tryz.prog 58 = some false) ∧ (bytesT Tryz.prog 58 = some 8) ∧ (zeroCells Tryz.prog 58 = some [.c .nilFunc]) ∧ (zeroEl Tryz.prog 58 = some (.c .nilFunc)) ∧ (szT Tryz.prog 64 = some 1) ∧ (aggT Tryz.prog 64 = some false) ∧ (bytesT Tryz.prog 64 = some 24) ∧ (Tryz.prog.underlying 64 = some (Go.TypeDesc.slice 3)) ∧ (zeroCells Tryz.prog 64 = some [.c (.slice none 0 0)]) ∧ (zeroEl Tryz.prog 64 = some (.c (.slice none 0 0))) ∧ (∀ (l : List AV) (i : Int) (H : List AO), aIdxAddr Tryz.prog 64 (.isl l) i H = some ((0 ≤ i ∧ i < (l.length : Int)) ∧ (l.getD i.toNat .un).cells.length = 1, .iptr (l.getD i.toNat .un).cells 0)) ∧ (∀ (id st len cap : Nat) (i : Int) (H : List AO), aIdxAddr Tryz.prog 64 (.sl id st len cap) i H = (match H[id]? with | some (.arr sz es) => if sz = 1 then some (0 ≤ i ∧ i < (len : Int), .eptr id (st + i.toNat) 0) else none | _ => none)) ∧ (∀ (l : List AV), aLen Tryz.prog 64 (.isl l) = some (l.length : Int)) ∧ (∀ (id st len cap : Nat), aLen Tryz.prog 64 (.sl id st len cap) = some (len : Int)) ∧ (aLen Tryz.prog 64 (.c (.slice none 0 0)) = some 0) ∧ (aLen Tryz.prog 64 .zs = some 0) ∧ (szT Tryz.prog 73 = some 1) ∧ (aggT Tryz.prog 73 = some false) ∧ (bytesT Tryz.prog 73 = some 8) ∧ (zeroCells Tryz.prog 73 = some [.c .nilFunc]) ∧ (zeroEl Tryz.prog 73 = some (.c .nilFunc)) ∧ (szT Tryz.prog 77 = some 1) ∧ (aggT Tryz.prog 77 = some false) ∧ (bytesT Tryz.prog 77 = some 8) ∧ (zeroCells Tryz.prog 77 = some [.c .nilFunc]) ∧ (zeroEl Tryz.prog 77 = some (.c .nilFunc)) ∧ (szT Tryz.prog 78 = some 1) ∧ (aggT Tryz.prog 78 = some false) ∧ (bytesT Tryz.prog 78 = some 8) ∧ (zeroCells Tryz.prog 78 = some [.c .nilFunc]) ∧ (zeroEl Tryz.prog 78 = some (.c .nilFunc)) ∧ (szT Tryz.prog 80 = some 1) ∧ (aggT Tryz.prog 80 = some false) ∧ (bytesT Tryz.prog 80 = some 8) ∧ (zeroCells Tryz.prog 80 = some [.c .nilFunc]) ∧ (zeroEl Tryz.prog 80 = some (.c .nilFunc)) ∧ (szT Tryz.prog 85 = some 1) ∧ (aggT Tryz.prog 85 = some false) ∧ (bytesT Tryz.prog 85 = some 8) ∧ (zeroCells Tryz.prog 85 = some [.c .nilFunc]) ∧ (zeroEl Tryz.prog 85 = some (.c .nilFunc)) ∧ (szT Tryz.prog 86 = some 1) ∧ (aggT Tryz.prog 86 = some false) ∧ (bytesT Tryz.prog 86 = some 24) ∧ (Tryz.prog.underlying 86 = some (Go.TypeDesc.slice 30)) ∧ (zeroCells Tryz.prog 86 = some [.c (.slice none 0 0)]) ∧ (zeroEl Tryz.prog 86 = some (.c (.slice none 0 0))) ∧ (∀ (l : List AV) (i : Int) (H : List AO), aIdxAddr Tryz.prog 86 (.isl l) i H = some ((0 ≤ i ∧ i < (l.length : Int)) ∧ (l.getD i.toNat .un).cells.length = 1, .iptr (l.getD i.toNat .un).cells 0)) ∧ (∀ (id st len cap : Nat) (i : Int) (H : List AO), aIdxAddr Tryz.prog 86 (.sl id st len cap) i H = (match H[id]? with | some (.arr sz es) => if sz = 1 then some (0 ≤ i ∧ i < (len : Int), .eptr id (st + i.toNat) 0) else none | _ => none)) := ⟨@fp49_2, @fo49_0, @fo49_1, @fo49_2, @sz55, @ag55, @by55, @un55, @zc55, @ze55, @sz58, @ag58, @by58, @zc58, @ze58, @sz64, @ag64, @by64, @un64, @zc64, @ze64, @ia64i, @ia64s, @li64, @ls64, @ln64, @lz64, @sz73, @ag73, @by73, @zc73, @ze73, @sz77, @ag77, @by77, @zc77, @ze77, @sz78, @ag78, @by78, @zc78, @ze78, @sz80, @ag80, @by80, @zc80, @ze80, @sz85, @ag85, @by85, @zc85, @ze85, @sz86, @ag86, @by86, @un86, @zc86, @ze86, @ia86i, @ia86s⟩
theorem ty3 : (∀ (l : List AV), aLen Tryz.prog 86 (.isl l) = some (l.length : Int)) ∧ (∀ (id st len cap : Nat), aLen Tryz.prog 86 (.sl id st len cap) = some (len : Int)) ∧ (aLen Tryz.prog 86 (.c (.slice none 0 0)) = some 0) ∧ (aLen Tryz.prog 86 .zs = some 0) ∧ (szT Tryz.prog 91 = some 1) ∧ (aggT Tryz.prog 91 = some false) ∧ (bytesT Tryz.prog 91 = some 8) ∧ (zeroCells Tryz.prog 91 = some [.c .nilFunc]) ∧ (zeroEl Tryz.prog 91 = some (.c .nilFunc)) ∧ (szT Tryz.prog 95 = some 1) ∧ (aggT Tryz.prog 95 = some false) ∧ (bytesT Tryz.prog 95 = some 8) ∧ (zeroCells Tryz.prog 95 = some [.c .nilFunc]) ∧ (zeroEl Tryz.prog 95 = some (.c .nilFunc)) ∧ (szT Tryz.prog 96 = some 1) ∧ (aggT Tryz.prog 96 = some false) ∧ (bytesT Tryz.prog 96 = some 8) ∧ (zeroCells Tryz.prog 96 = some [.c .nilFunc]) ∧ (zeroEl Tryz.prog 96 = some (.c .nilFunc)) ∧ (szT Tryz.prog 99 = some 1) ∧ (aggT Tryz.prog 99 = some false) ∧ (bytesT Tryz.prog 99 = some 8) ∧ (zeroCells Tryz.prog 99 = some [.c .nilFunc]) ∧ (zeroEl Tryz.prog 99 = some (.c .nilFunc)) ∧ (szT Tryz.prog 102 = some 1) ∧ (aggT Tryz.prog 102 = some false) ∧ (bytesT Tryz.prog 102 = some 24) ∧ (Tryz.prog.underlying 102 = some (Go.TypeDesc.slice 49)) ∧ (zeroCells Tryz.prog 102 = some [.c (.slice none 0 0)]) ∧ (zeroEl Tryz.prog 102 = some (.c (.slice none 0 0))) ∧ (∀ (l : List AV) (i : Int) (H : List AO), aIdxAddr Tryz.prog 102 (.isl l) i H = some ((0 ≤ i ∧ i < (l.length : Int)) ∧ (l.getD i.toNat .un).cells.length = 7, .iptr (l.getD i.toNat .un).cells 0)) ∧ (∀ (id st len cap : Nat) (i : Int) (H : List AO), aIdxAddr Tryz.prog 102 (.sl id st len cap) i H = (match H[id]? with | some (.arr sz es) => if sz = 7 then some (0 ≤ i ∧ i < (len : Int), .eptr id (st + i.toNat) 0) else none | _ => none)) ∧ (∀ (l : List AV), aLen Tryz.prog 102 (.isl l) = some (l.length : Int)) ∧ (∀ (id st len cap : Nat), aLen Tryz.prog 102 (.sl id st len cap) = some (len : Int)) ∧ (aLen Tryz.prog 102 (.c (.slice none 0 0)) = some 0) ∧ (aLen Tryz.prog 102 .zs = some 0) ∧ (szT Tryz.prog 106 = some 1) ∧ (aggT Tryz.prog 106 = some false) ∧ (bytesT Tryz.prog 106 = some 8) ∧ (zeroCells Tryz.prog 106 = some [.c .nilFunc]) ∧ (zeroEl Tryz.prog 106 = some (.c .nilFunc)) ∧ (szT Tryz.prog 107 = some 1) ∧ (aggT Tryz.prog 107 = some false) ∧ (bytesT Tryz.prog 107 = some 8) ∧ (zeroCells Tryz.prog 107 = some [.c .nilFunc]) ∧ (zeroEl Tryz.prog 107 = some (.c .nilFunc)) ∧ (szT Tryz.prog 117 = some 1) ∧ (aggT Tryz.prog 117 = some false) ∧ (bytesT Tryz.prog 117 = some 8) ∧ (zeroCells Tryz.prog 117 = some [.c .nilFunc]) ∧ (zeroEl Tryz.prog 117 = some (.c .nilFunc)) ∧ (szT Tryz.prog 120 = some 1) ∧ (aggT Tryz.prog 120 = some false) ∧ (bytesT Tryz.prog 120 = some 8) ∧ (Tryz.prog.underlying 120 = some (Go.TypeDesc.int (Go.IntKind.u64))) ∧ (zeroCells Tryz.prog 120 = some [.c (.int .u64 0)]) ∧ (zeroEl Tryz.prog 120 = some (.c (.int .u64 0))) ∧ (szT Tryz.prog 121 = some 2) ∧ (aggT Tryz.prog 121 = some true) ∧ (bytesT Tryz.prog 121 = some 16) := ⟨@li86, @ls86, @ln86, @lz86, @sz91, @ag91, @by91, @zc91, @ze91, @sz95, @ag95, @by95, @zc95, @ze95, @sz96, @ag96, @by96, @zc96, @ze96, @sz99, @ag99, @by99, @zc99, @ze99, @sz102, @ag102, @by102, @un102, @zc102, @ze102, @ia102i, @ia102s, @li102, @ls102, @ln102, @lz102, @sz106, @ag106, @by106, @zc106, @ze106, @sz107, @ag107, @by107, @zc107, @ze107, @sz117, @ag117, @by117, @zc117, @ze117, @sz120, @ag120, @by120, @un120, @zc120, @ze120, @sz121, @ag121, @by121⟩
theorem ty4 : (Tryz.prog.underlying 121 = some (Go.TypeDesc.array 2 3)) ∧ (zeroCells Tryz.prog 121 = some [.c (.int .i64 0), .c (.int .i64 0)]) ∧ (zeroEl Tryz.prog 121 = some (.agg [.c (.int .i64 0), .c (.int .i64 0)])) ∧ (∀ (x : AV) (i : Int) (H : List AO), aIdxAddr Tryz.prog 121 x i H = (ptrAdd x (i.toNat * 1)).map fun v => (0 ≤ i ∧ i < 2, v)) ∧ (szT Tryz.prog 123 = some 1) ∧ (aggT Tryz.prog 123 = some false) ∧ (bytesT Tryz.prog 123 = some 8) ∧ (Tryz.prog.underlying 123 = some (Go.TypeDesc.map 49 4)) ∧ (zeroCells Tryz.prog 123 = some [.c (.map none)]) ∧ (zeroEl Tryz.prog 123 = some (.c (.map none))) ∧ (szT Tryz.prog 124 = some 18) ∧ (aggT Tryz.prog 124 = some true) ∧ (bytesT Tryz.prog 124 = some 144) ∧ (Tryz.prog.underlying 124 = some (Go.TypeDesc.array 6 22)) ∧ (zeroCells Tryz.prog 124 = some [.c (.int .i64 0), .c (.int .i64 0), .c (.int .i64 0), .c (.int .i64 0), .c (.int .i64 0), .c (.int .i64 0), .c (.int .i64 0), .c (.int .i64 0), .c (.int .i64 0), .c (.int .i64 0), .c (.int .i64 0), .c (.int .i64 0), .c (.int .i64 0), .c (.int .i64 0), .c (.int .i64 0), .c (.int .i64 0), .c (.int .i64 0), .c (.int .i64 0)]) ∧ (zeroEl Tryz.prog 124 = some (.agg [.c (.int .i64 0), .c (.int .i64 0), .c (.int .i64 0), .c (.int .i64 0), .c (.int .i64 0), .c (.int .i64 0), .c (.int .i64 0), .c (.int .i64 0), .c (.int .i64 0), .c (.int .i64 0), .c (.int .i64 0), .c (.int .i64 0), .c (.int .i64 0), .c (.int .i64 0), .c (.int .i64 0), .c (.int .i64 0), .c (.int .i64 0), .c (.int .i64 0)])) ∧ (∀ (x : AV) (i : Int) (H : List AO), aIdxAddr Tryz.prog 124 x i H = (ptrAdd x (i.toNat * 3)).map fun v => (0 ≤ i ∧ i < 6, v)) ∧ (szT Tryz.prog 127 = some 1) ∧ (aggT Tryz.prog 127 = some false) ∧ (bytesT Tryz.prog 127 = some 8) ∧ (zeroCells Tryz.prog 127 = some [.c .nilFunc]) ∧ (zeroEl Tryz.prog 127 = some (.c .nilFunc)) ∧ (szT Tryz.prog 128 = some 1) ∧ (aggT Tryz.prog 128 = some false) ∧ (bytesT Tryz.prog 128 = some 8) ∧ (zeroCells Tryz.prog 128 = some [.c .nilFunc]) ∧ (zeroEl Tryz.prog 128 = some (.c .nilFunc)) ∧ (szT Tryz.prog 130 = some 1) ∧ (aggT Tryz.prog 130 = some false) ∧ (bytesT Tryz.prog 130 = some 8) ∧ (zeroCells Tryz.prog 130 = some [.c .nilFunc]) ∧ (zeroEl Tryz.prog 130 = some (.c .nilFunc)) ∧ (szT Tryz.prog 141 = some 64) ∧ (aggT Tryz.prog 141 = some true) ∧ (bytesT Tryz.prog 141 = some 64) ∧ (Tryz.prog.underlying 141 = some (Go.TypeDesc.array 64 5)) ∧ (zeroCells Tryz.prog 141 = some [.c (.int .u8 0), .c (.int .u8 0), .c (.int .u8 0), .c (.int .u8 0), .c (.int .u8 0), .c (.int .u8 0), .c (.int .u8 0), .c (.int .u8 0), .c (.int .u8 0), .c (.int .u8 0), .c (.int .u8 0), .c (.int .u8 0), .c (.int .u8 0), .c (.int .u8 0), .c (.int .u8 0), .c (.int .u8 0), .c (.int .u8 0), .c (.int .u8 0), .c (.int .u8 0), .c (.int .u8 0), .c (.int .u8 0), .c (.int .u8 0), .c (.int .u8 0), .c (.int .u8 0), .c (.int .u8 0), .c (.int .u8 0), .c (.int .u8 0), .c (.int .u8 0), .c (.int .u8 0), .c (.int .u8 0), .c (.int .u8 0), .c (.int .u8 0), .c (.int .u8 0), .c (.int .u8 0), .c (.int .u8 0), .c (.int .u8 0), .c (.int .u8 0), .c (.int .u8 0), .c (.int .u8 0), .c (.int .u8 0), .c (.int .u8 0), .c (.int .u8 0), .c (.int .u8 0), .c (.int .u8 0), .c (.int .u8 0), .c (.int .u8 0), .c (.int .u8 0), .c (.int .u8 0), .c (.int .u8 0), .c (.int .u8 0), .c (.int .u8 0), .c (.int .u8 0), .c (.int .u8 0), .c (.int .u8 0), .c (.int .u8 0), .c (.int .u8 0), .c (.int .u8 0), .c (.int .u8 0), .c (.int .u8 0), .c (.int .u8 0), .c (.int .u8 0), .c (.int .u8 0), .c (.int .u8 0), .c (.int .u8 0)]) ∧ (zeroEl Tryz.prog 141 = some (.agg [.c (.int .u8 0), .c (.int .u8 0), .c (.int .u8 0), .c (.int .u8 0), .c (.int .u8 0), .c (.int .u8 0), .c (.int .u8 0), .c (.int .u8 0), .c (.int .u8 0), .c (.int .u8 0), .c (.int .u8 0), .c (.int .u8 0), .c (.int .u8 0), .c (.int .u8 0), .c (.int .u8 0), .c (.int .u8 0), .c (.int .u8 0), .c (.int .u8 0), .c (.int .u8 0), .c (.int .u8 0), .c (.int .u8 0), .c (.int .u8 0), .c (.int .u8 0), .c (.int .u8 0), .c (.int .u8 0), .c (.int .u8 0), .c (.int .u8 0), .c (.int .u8 0), .c (.int .u8 0), .c (.int .u8 0), .c (.int .u8 0), .c (.int .u8 0), .c (.int .u8 0), .c (.int .u8 0), .c (.int .u8 0), .c (.int .u8 0), .c (.int .u8 0), .c (.int .u8 0), .c (.int .u8 0), .c (.int .u8 0), .c (.int .u8 0), .c (.int .u8 0), .c (.int .u8 0), .c (.int .u8 0), .c (.int .u8 0), .c (.int .u8 0), .c (.int .u8 0), .c (.int .u8 0), .c (.int .u8 0), .c (.int .u8 0), .c (.int .u8 0), .c (.int .u8 0), .c (.int .u8 0), .c (.int .u8 0), .c (.int .u8 0), .c (.int .u8 0), .c (.int .u8 0), .c (.int .u8 0), .c (.int .u8 0), .c (.int .u8 0), .c (.int .u8 0), .c (.int .u8 0), .c (.int .u8 0), .c (.int .u8 0)])) ∧ (∀ (x : AV) (i : Int) (H : List AO), aIdxAddr Tryz.prog 141 x i H = (ptrAdd x (i.toNat * 1)).map fun v => (0 ≤ i ∧ i < 64, v)) ∧ (szT Tryz.prog 144 = some 1) ∧ (aggT Tryz.prog 144 = some false) ∧ (bytesT Tryz.prog 144 = some 8) ∧ (zeroCells Tryz.prog 144 = some [.c .nilFunc]) ∧ (zeroEl Tryz.prog 144 = some (.c .nilFunc)) ∧ (szT Tryz.prog 146 = some 1) ∧ (aggT Tryz.prog 146 = some false) ∧ (bytesT Tryz.prog 146 = some 8) ∧ (Tryz.prog.underlying 146 = some (Go.TypeDesc.int (Go.IntKind.i64))) ∧ (zeroCells Tryz.prog 146 = some [.c (.int .i64 0)]) ∧ (zeroEl Tryz.prog 146 = some (.c (.int .i64 0))) ∧ (szT Tryz.prog 153 = some 1) ∧ (aggT Tryz.prog 153 = some false) ∧ (bytesT Tryz.prog 153 = some 4) ∧ (Tryz.prog.underlying 153 = some (Go.TypeDesc.int (Go.IntKind.u32))) ∧ (zeroCells Tryz.prog 153 = some [.c (.int .u32 0)]) ∧ (zeroEl Tryz.prog 153 = some (.c (.int .u32 0))) ∧ (szT Tryz.prog 158 = some 1) ∧ (aggT Tryz.prog 158 = some false) ∧ (bytesT Tryz.prog 158 = some 8) ∧ (Tryz.prog.underlying 158 = some (Go.TypeDesc.int (Go.IntKind.u64))) := ⟨@un121, @zc121, @ze121, @ia121, @sz123, @ag123, @by123, @un123, @zc123, @ze123, @sz124, @ag124, @by124, @un124, @zc124, @ze124, @ia124, @sz127, @ag127, @by127, @zc127, @ze127, @sz128, @ag128, @by128, @zc128, @ze128, @sz130, @ag130, @by130, @zc130, @ze130, @sz141, @ag141, @by141, @un141, @zc141, @ze141, @ia141, @sz144, @ag144, @by144, @zc144, @ze144, @sz146, @ag146, @by146, @un146, @zc146, @ze146, @sz153, @ag153, @by153, @un153, @zc153, @ze153, @sz158, @ag158, @by158, @un158⟩
end Go.Ab
