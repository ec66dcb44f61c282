/- One of the texts that this claim stands on. -/
import Derived.Test.YtnfnhccebebflaaGreatEv18
import Derived.Test.YtnfnhccebebflaaGreatProg
import Derived.KernelRfl
set_option maxHeartbeats 40000000
set_option maxRecDepth 400000
set_option linter.all false
namespace Go.Ab
open Go.Proofs
@[push_cast] theorem sz3:szT Tryz.prog 3=some 1:=by kernel_rfl
@[push_cast] theorem ag3:aggT Tryz.prog 3=some false:=by kernel_rfl
@[push_cast] theorem by3:zCc Tryz.prog 3=some 8:=by kernel_rfl
@[push_cast] theorem un3:Tryz.prog.underlying 3=some (Go.TypeDesc.int (Go.IntKind.i64)):=by kernel_rfl
@[push_cast] theorem zc3:zeroCells Tryz.prog 3=some [.c (.int .i64 0)]:=by kernel_rfl
@[push_cast] theorem ze3:zBj Tryz.prog 3=some (.c (.int .i64 0)):=by kernel_rfl
@[push_cast] theorem sz4:szT Tryz.prog 4=some 1:=by kernel_rfl
@[push_cast] theorem ag4:aggT Tryz.prog 4=some false:=by kernel_rfl
@[push_cast] theorem un4:Tryz.prog.underlying 4=some (Go.TypeDesc.bool):=by kernel_rfl
@[push_cast] theorem sz5:szT Tryz.prog 5=some 1:=by kernel_rfl
@[push_cast] theorem ag5:aggT Tryz.prog 5=some false:=by kernel_rfl
@[push_cast] theorem ze5:zBj Tryz.prog 5=some (.c (.int .u8 0)):=by kernel_rfl
@[push_cast] theorem sz22:szT Tryz.prog 22=some 3:=by kernel_rfl
@[push_cast] theorem ag22:aggT Tryz.prog 22=some true:=by kernel_rfl
@[push_cast] theorem un22:Tryz.prog.underlying 22=some (Go.TypeDesc.array 3 3):=by kernel_rfl
@[push_cast] theorem zc22:zeroCells Tryz.prog 22=some [.c (.int .i64 0),.c (.int .i64 0),.c (.int .i64 0)]:=by kernel_rfl
@[push_cast] theorem ia22 (x:AV) (i:Int) (H:List AO):zAl Tryz.prog 22 x i H=(zEj x (i.toNat*1)).map fun v=>(0≤i∧i < 3,v):=by unfold zAl; simp only[un22,show szT Tryz.prog 3=some 1 by kernel_rfl]; rfl
@[push_cast] theorem sz23:szT Tryz.prog 23=some 3:=by kernel_rfl
@[push_cast] theorem ag23:aggT Tryz.prog 23=some true:=by kernel_rfl
@[push_cast] theorem un23:Tryz.prog.underlying 23=some (Go.TypeDesc.array 3 3):=by kernel_rfl
@[push_cast] theorem zc23:zeroCells Tryz.prog 23=some [.c (.int .i64 0),.c (.int .i64 0),.c (.int .i64 0)]:=by kernel_rfl
@[push_cast] theorem ia23 (x:AV) (i:Int) (H:List AO):zAl Tryz.prog 23 x i H=(zEj x (i.toNat*1)).map fun v=>(0≤i∧i < 3,v):=by unfold zAl; simp only[un23,show szT Tryz.prog 3=some 1 by kernel_rfl]; rfl
@[push_cast] theorem sz24:szT Tryz.prog 24=some 3:=by kernel_rfl
@[push_cast] theorem ag24:aggT Tryz.prog 24=some true:=by kernel_rfl
@[push_cast] theorem un24:Tryz.prog.underlying 24=some (Go.TypeDesc.array 3 4):=by kernel_rfl
@[push_cast] theorem zc24:zeroCells Tryz.prog 24=some [.c (.bool false),.c (.bool false),.c (.bool false)]:=by kernel_rfl
@[push_cast] theorem ia24 (x:AV) (i:Int) (H:List AO):zAl Tryz.prog 24 x i H=(zEj x (i.toNat*1)).map fun v=>(0≤i∧i < 3,v):=by unfold zAl; simp only[un24,show szT Tryz.prog 4=some 1 by kernel_rfl]; rfl
@[push_cast] theorem sz26:szT Tryz.prog 26=some 7:=by kernel_rfl
@[push_cast] theorem ag26:aggT Tryz.prog 26=some true:=by kernel_rfl
@[push_cast] theorem by26:zCc Tryz.prog 26=some 32:=by kernel_rfl
@[push_cast] theorem zc26:zeroCells Tryz.prog 26=some [.c (.int .i64 0),.c (.int .i64 0),.c (.int .i64 0),.c (.bool false),.c (.bool false),.c (.bool false),.c (.bool false)]:=by kernel_rfl
@[push_cast] theorem ze26:zBj Tryz.prog 26=some (.agg [.c (.int .i64 0),.c (.int .i64 0),.c (.int .i64 0),.c (.bool false),.c (.bool false),.c (.bool false),.c (.bool false)]):=by kernel_rfl
@[push_cast] theorem fo26_0:zAj Tryz.prog 26 0=some 0:=by kernel_rfl
@[push_cast] theorem fo26_1:zAj Tryz.prog 26 1=some 3:=by kernel_rfl
@[push_cast] theorem fo26_2:zAj Tryz.prog 26 2=some 6:=by kernel_rfl
@[push_cast] theorem sz28:szT Tryz.prog 28=some 1:=by kernel_rfl
@[push_cast] theorem ag28:aggT Tryz.prog 28=some false:=by kernel_rfl
@[push_cast] theorem un28:Tryz.prog.underlying 28=some (Go.TypeDesc.slice 132):=by kernel_rfl
@[push_cast] theorem ze28:zBj Tryz.prog 28=some (.c (.slice none 0 0)):=by kernel_rfl
@[push_cast] theorem ia28i (l:List AV) (i:Int) (H:List AO):zAl Tryz.prog 28 (.isl l) i H=some ((0≤i∧i < (l.length:Int))∧(l.getD i.toNat .un).cells.length=1,.iptr (l.getD i.toNat .un).cells 0):=by unfold zAl; simp only[un28,show szT Tryz.prog 132=some 1 by kernel_rfl]
@[push_cast] theorem ia28s (id st len cap:Nat) (i:Int) (H:List AO):zAl Tryz.prog 28 (.sl id st len cap) i H=(match H[id]? with | some (.arr sz es)=>if sz=1 then some (0≤i∧i < (len:Int),.eptr id (st+i.toNat) 0) else none | _=>none):=by unfold zAl; simp only[un28,show szT Tryz.prog 132=some 1 by kernel_rfl]; rfl
@[push_cast] theorem li28 (l:List AV):aLen Tryz.prog 28 (.isl l)=some (l.length:Int):=by unfold aLen; simp only[un28]
@[push_cast] theorem ln28 :aLen Tryz.prog 28 (.c (.slice none 0 0))=some 0:=by unfold aLen; simp only[un28]
@[push_cast] theorem sz30:szT Tryz.prog 30=some 6:=by kernel_rfl
@[push_cast] theorem ag30:aggT Tryz.prog 30=some true:=by kernel_rfl
@[push_cast] theorem un30:Tryz.prog.underlying 30=some (Go.TypeDesc.struct #[{ name:= "Base",type:=22,offset:=0,embedded:=false,tag:= "",pkgPath:= "",byteOffset:=0 },{ name:= "Size",type:=22,offset:=3,embedded:=false,tag:= "",pkgPath:= "",byteOffset:=24 }]):=by kernel_rfl
@[push_cast] theorem zc30:zeroCells Tryz.prog 30=some [.c (.int .i64 0),.c (.int .i64 0),.c (.int .i64 0),.c (.int .i64 0),.c (.int .i64 0),.c (.int .i64 0)]:=by kernel_rfl
@[push_cast] theorem fa30:Array.all (#[{ name:= "Base",type:=22,offset:=0,embedded:=false,tag:= "",pkgPath:= "",byteOffset:=0 },{ name:= "Size",type:=22,offset:=3,embedded:=false,tag:= "",pkgPath:= "",byteOffset:=24 }]:Array Field) (fun f=>(szT Tryz.prog f.type).isSome) 0 2=true:=by kernel_rfl
@[push_cast] theorem fo30_0:zAj Tryz.prog 30 0=some 0:=by kernel_rfl
@[push_cast] theorem fo30_1:zAj Tryz.prog 30 1=some 3:=by kernel_rfl
@[push_cast] theorem sz32:szT Tryz.prog 32=some 9:=by kernel_rfl
@[push_cast] theorem ag32:aggT Tryz.prog 32=some true:=by kernel_rfl
@[push_cast] theorem un32:Tryz.prog.underlying 32=some (Go.TypeDesc.struct #[{ name:= "Box",type:=30,offset:=0,embedded:=false,tag:= "",pkgPath:= "",byteOffset:=0 },{ name:= "Torus",type:=24,offset:=6,embedded:=false,tag:= "",pkgPath:= "",byteOffset:=48 }]):=by kernel_rfl
@[push_cast] theorem zc32:zeroCells Tryz.prog 32=some [.c (.int .i64 0),.c (.int .i64 0),.c (.int .i64 0),.c (.int .i64 0),.c (.int .i64 0),.c (.int .i64 0),.c (.bool false),.c (.bool false),.c (.bool false)]:=by kernel_rfl
@[push_cast] theorem fa32:Array.all (#[{ name:= "Box",type:=30,offset:=0,embedded:=false,tag:= "",pkgPath:= "",byteOffset:=0 },{ name:= "Torus",type:=24,offset:=6,embedded:=false,tag:= "",pkgPath:= "",byteOffset:=48 }]:Array Field) (fun f=>(szT Tryz.prog f.type).isSome) 0 2=true:=by kernel_rfl
@[push_cast] theorem fp32_0:zDi Tryz.prog #[{ name:= "Box",type:=30,offset:=0,embedded:=false,tag:= "",pkgPath:= "",byteOffset:=0 },{ name:= "Torus",type:=24,offset:=6,embedded:=false,tag:= "",pkgPath:= "",byteOffset:=48 }] 0=some (0,6):=by kernel_rfl
@[push_cast] theorem fo32_0:zAj Tryz.prog 32 0=some 0:=by kernel_rfl
@[push_cast] theorem fo32_1:zAj Tryz.prog 32 1=some 6:=by kernel_rfl
@[push_cast] theorem sz35:szT Tryz.prog 35=some 1:=by kernel_rfl
@[push_cast] theorem ag35:aggT Tryz.prog 35=some false:=by kernel_rfl
@[push_cast] theorem zc35:zeroCells Tryz.prog 35=some [.c (.int .i64 0)]:=by kernel_rfl
@[push_cast] theorem sz50:szT Tryz.prog 50=some 1:=by kernel_rfl
@[push_cast] theorem ag50:aggT Tryz.prog 50=some false:=by kernel_rfl
@[push_cast] theorem un50:Tryz.prog.underlying 50=some (Go.TypeDesc.slice 72):=by kernel_rfl
@[push_cast] theorem ia50s (id st len cap:Nat) (i:Int) (H:List AO):zAl Tryz.prog 50 (.sl id st len cap) i H=(match H[id]? with | some (.arr sz es)=>if sz=4 then some (0≤i∧i < (len:Int),.eptr id (st+i.toNat) 0) else none | _=>none):=by unfold zAl; simp only[un50,show szT Tryz.prog 72=some 4 by kernel_rfl]; rfl
@[push_cast] theorem sz52:szT Tryz.prog 52=some 8:=by kernel_rfl
@[push_cast] theorem ag52:aggT Tryz.prog 52=some true:=by kernel_rfl
@[push_cast] theorem zc52:zeroCells Tryz.prog 52=some [.c (.int .i64 0),.c (.int .i64 0),.c (.int .i64 0),.c (.int .i64 0),.c (.int .i64 0),.c (.int .i64 0),.c (.int .i64 0),.c (.slice none 0 0)]:=by kernel_rfl
@[push_cast] theorem fo52_0:zAj Tryz.prog 52 0=some 0:=by kernel_rfl
@[push_cast] theorem fo52_1:zAj Tryz.prog 52 1=some 3:=by kernel_rfl
@[push_cast] theorem fo52_2:zAj Tryz.prog 52 2=some 4:=by kernel_rfl
@[push_cast] theorem fo52_3:zAj Tryz.prog 52 3=some 5:=by kernel_rfl
@[push_cast] theorem fo52_4:zAj Tryz.prog 52 4=some 6:=by kernel_rfl
@[push_cast] theorem fo52_5:zAj Tryz.prog 52 5=some 7:=by kernel_rfl
@[push_cast] theorem sz53:szT Tryz.prog 53=some 1:=by kernel_rfl
@[push_cast] theorem ag53:aggT Tryz.prog 53=some false:=by kernel_rfl
@[push_cast] theorem un53:Tryz.prog.underlying 53=some (Go.TypeDesc.slice 83):=by kernel_rfl
@[push_cast] theorem ia53s (id st len cap:Nat) (i:Int) (H:List AO):zAl Tryz.prog 53 (.sl id st len cap) i H=(match H[id]? with | some (.arr sz es)=>if sz=16 then some (0≤i∧i < (len:Int),.eptr id (st+i.toNat) 0) else none | _=>none):=by unfold zAl; simp only[un53,show szT Tryz.prog 83=some 16 by kernel_rfl]; rfl
@[push_cast] theorem ls53 (id st len cap:Nat):aLen Tryz.prog 53 (.sl id st len cap)=some (len:Int):=by unfold aLen; simp only[un53]
@[push_cast] theorem ln53 :aLen Tryz.prog 53 (.c (.slice none 0 0))=some 0:=by unfold aLen; simp only[un53]
@[push_cast] theorem lz53 :aLen Tryz.prog 53 .zs=some 0:=by unfold aLen; simp only[un53]
@[push_cast] theorem sz54:szT Tryz.prog 54=some 1:=by kernel_rfl
@[push_cast] theorem ag54:aggT Tryz.prog 54=some false:=by kernel_rfl
@[push_cast] theorem un54:Tryz.prog.underlying 54=some (Go.TypeDesc.slice 70):=by kernel_rfl
@[push_cast] theorem ia54s (id st len cap:Nat) (i:Int) (H:List AO):zAl Tryz.prog 54 (.sl id st len cap) i H=(match H[id]? with | some (.arr sz es)=>if sz=13 then some (0≤i∧i < (len:Int),.eptr id (st+i.toNat) 0) else none | _=>none):=by unfold zAl; simp only[un54,show szT Tryz.prog 70=some 13 by kernel_rfl]; rfl
@[push_cast] theorem sz55:szT Tryz.prog 55=some 1:=by kernel_rfl
@[push_cast] theorem ag55:aggT Tryz.prog 55=some false:=by kernel_rfl
@[push_cast] theorem un55:Tryz.prog.underlying 55=some (Go.TypeDesc.slice 68):=by kernel_rfl
@[push_cast] theorem ia55s (id st len cap:Nat) (i:Int) (H:List AO):zAl Tryz.prog 55 (.sl id st len cap) i H=(match H[id]? with | some (.arr sz es)=>if sz=9 then some (0≤i∧i < (len:Int),.eptr id (st+i.toNat) 0) else none | _=>none):=by unfold zAl; simp only[un55,show szT Tryz.prog 68=some 9 by kernel_rfl]; rfl
@[push_cast] theorem ls55 (id st len cap:Nat):aLen Tryz.prog 55 (.sl id st len cap)=some (len:Int):=by unfold aLen; simp only[un55]
@[push_cast] theorem ln55 :aLen Tryz.prog 55 (.c (.slice none 0 0))=some 0:=by unfold aLen; simp only[un55]
@[push_cast] theorem lz55 :aLen Tryz.prog 55 .zs=some 0:=by unfold aLen; simp only[un55]
@[push_cast] theorem sz56:szT Tryz.prog 56=some 1:=by kernel_rfl
@[push_cast] theorem ag56:aggT Tryz.prog 56=some false:=by kernel_rfl
@[push_cast] theorem un56:Tryz.prog.underlying 56=some (Go.TypeDesc.slice 3):=by kernel_rfl
@[push_cast] theorem zc56:zeroCells Tryz.prog 56=some [.c (.slice none 0 0)]:=by kernel_rfl
@[push_cast] theorem ze56:zBj Tryz.prog 56=some (.c (.slice none 0 0)):=by kernel_rfl
@[push_cast] theorem ia56i (l:List AV) (i:Int) (H:List AO):zAl Tryz.prog 56 (.isl l) i H=some ((0≤i∧i < (l.length:Int))∧(l.getD i.toNat .un).cells.length=1,.iptr (l.getD i.toNat .un).cells 0):=by unfold zAl; simp only[un56,show szT Tryz.prog 3=some 1 by kernel_rfl]
@[push_cast] theorem ia56s (id st len cap:Nat) (i:Int) (H:List AO):zAl Tryz.prog 56 (.sl id st len cap) i H=(match H[id]? with | some (.arr sz es)=>if sz=1 then some (0≤i∧i < (len:Int),.eptr id (st+i.toNat) 0) else none | _=>none):=by unfold zAl; simp only[un56,show szT Tryz.prog 3=some 1 by kernel_rfl]; rfl
@[push_cast] theorem li56 (l:List AV):aLen Tryz.prog 56 (.isl l)=some (l.length:Int):=by unfold aLen; simp only[un56]
@[push_cast] theorem ln56 :aLen Tryz.prog 56 (.c (.slice none 0 0))=some 0:=by unfold aLen; simp only[un56]
@[push_cast] theorem sz58:szT Tryz.prog 58=some 16:=by kernel_rfl
@[push_cast] theorem ag58:aggT Tryz.prog 58=some true:=by kernel_rfl
@[push_cast] theorem zc58:zeroCells Tryz.prog 58=some [.c (.int .i64 0),.c (.int .i64 0),.c (.int .i64 0),.c (.int .i64 0),.c (.int .i64 0),.c (.int .i64 0),.c (.int .i64 0),.c (.slice none 0 0),.c (.int .i64 0),.c (.int .i64 0),.c (.slice none 0 0),.c (.slice none 0 0),.c (.slice none 0 0),.c (.slice none 0 0),.c (.slice none 0 0),.c (.slice none 0 0)]:=by kernel_rfl
@[push_cast] theorem fo58_0:zAj Tryz.prog 58 0=some 0:=by kernel_rfl
@[push_cast] theorem fo58_1:zAj Tryz.prog 58 1=some 8:=by kernel_rfl
@[push_cast] theorem fo58_2:zAj Tryz.prog 58 2=some 9:=by kernel_rfl
@[push_cast] theorem fo58_3:zAj Tryz.prog 58 3=some 10:=by kernel_rfl
@[push_cast] theorem fo58_4:zAj Tryz.prog 58 4=some 11:=by kernel_rfl
@[push_cast] theorem fo58_5:zAj Tryz.prog 58 5=some 12:=by kernel_rfl
@[push_cast] theorem fo58_6:zAj Tryz.prog 58 6=some 13:=by kernel_rfl
@[push_cast] theorem fo58_7:zAj Tryz.prog 58 7=some 14:=by kernel_rfl
@[push_cast] theorem fo58_8:zAj Tryz.prog 58 8=some 15:=by kernel_rfl
@[push_cast] theorem sz66:szT Tryz.prog 66=some 2:=by kernel_rfl
@[push_cast] theorem ag66:aggT Tryz.prog 66=some true:=by kernel_rfl
@[push_cast] theorem fo66_0:zAj Tryz.prog 66 0=some 0:=by kernel_rfl
@[push_cast] theorem fo66_1:zAj Tryz.prog 66 1=some 1:=by kernel_rfl
@[push_cast] theorem sz68:szT Tryz.prog 68=some 9:=by kernel_rfl
@[push_cast] theorem ag68:aggT Tryz.prog 68=some true:=by kernel_rfl
@[push_cast] theorem by68:zCc Tryz.prog 68=some 72:=by kernel_rfl
@[push_cast] theorem zc68:zeroCells Tryz.prog 68=some [.c (.int .i64 0),.c (.int .i64 0),.c (.int .i64 0),.c (.int .i64 0),.c (.int .i64 0),.c (.int .i64 0),.c (.int .i64 0),.c (.int .i64 0),.c (.int .i64 0)]:=by kernel_rfl
@[push_cast] theorem ze68:zBj Tryz.prog 68=some (.agg [.c (.int .i64 0),.c (.int .i64 0),.c (.int .i64 0),.c (.int .i64 0),.c (.int .i64 0),.c (.int .i64 0),.c (.int .i64 0),.c (.int .i64 0),.c (.int .i64 0)]):=by kernel_rfl
@[push_cast] theorem fo68_0:zAj Tryz.prog 68 0=some 0:=by kernel_rfl
@[push_cast] theorem fo68_1:zAj Tryz.prog 68 1=some 1:=by kernel_rfl
@[push_cast] theorem fo68_2:zAj Tryz.prog 68 2=some 7:=by kernel_rfl
@[push_cast] theorem sz70:szT Tryz.prog 70=some 13:=by kernel_rfl
@[push_cast] theorem ag70:aggT Tryz.prog 70=some true:=by kernel_rfl
@[push_cast] theorem by70:zCc Tryz.prog 70=some 88:=by kernel_rfl
@[push_cast] theorem zc70:zeroCells Tryz.prog 70=some [.c (.int .i64 0),.c (.int .i64 0),.c (.int .i64 0),.c (.int .i64 0),.c (.int .i64 0),.c (.int .i64 0),.c (.int .i64 0),.c (.bool false),.c (.bool false),.c (.bool false),.c (.int .u8 0),.c (.int .i64 0),.c (.int .i64 0)]:=by kernel_rfl
@[push_cast] theorem ze70:zBj Tryz.prog 70=some (.agg [.c (.int .i64 0),.c (.int .i64 0),.c (.int .i64 0),.c (.int .i64 0),.c (.int .i64 0),.c (.int .i64 0),.c (.int .i64 0),.c (.bool false),.c (.bool false),.c (.bool false),.c (.int .u8 0),.c (.int .i64 0),.c (.int .i64 0)]):=by kernel_rfl
@[push_cast] theorem fo70_0:zAj Tryz.prog 70 0=some 0:=by kernel_rfl
@[push_cast] theorem fo70_1:zAj Tryz.prog 70 1=some 1:=by kernel_rfl
@[push_cast] theorem fo70_2:zAj Tryz.prog 70 2=some 10:=by kernel_rfl
@[push_cast] theorem fo70_3:zAj Tryz.prog 70 3=some 11:=by kernel_rfl
@[push_cast] theorem fo70_4:zAj Tryz.prog 70 4=some 12:=by kernel_rfl
@[push_cast] theorem sz72:szT Tryz.prog 72=some 4:=by kernel_rfl
@[push_cast] theorem ag72:aggT Tryz.prog 72=some true:=by kernel_rfl
@[push_cast] theorem by72:zCc Tryz.prog 72=some 32:=by kernel_rfl
@[push_cast] theorem zc72:zeroCells Tryz.prog 72=some [.c (.int .i64 0),.c (.int .i64 0),.c (.int .i64 0),.c (.int .i64 0)]:=by kernel_rfl
@[push_cast] theorem ze72:zBj Tryz.prog 72=some (.agg [.c (.int .i64 0),.c (.int .i64 0),.c (.int .i64 0),.c (.int .i64 0)]):=by kernel_rfl
@[push_cast] theorem fo72_0:zAj Tryz.prog 72 0=some 0:=by kernel_rfl
@[push_cast] theorem fo72_1:zAj Tryz.prog 72 1=some 1:=by kernel_rfl
@[push_cast] theorem fo72_2:zAj Tryz.prog 72 2=some 2:=by kernel_rfl
@[push_cast] theorem fo72_3:zAj Tryz.prog 72 3=some 3:=by kernel_rfl
@[push_cast] theorem sz83:szT Tryz.prog 83=some 16:=by kernel_rfl
@[push_cast] theorem ag83:aggT Tryz.prog 83=some true:=by kernel_rfl
@[push_cast] theorem by83:zCc Tryz.prog 83=some 120:=by kernel_rfl
@[push_cast] theorem un83:Tryz.prog.underlying 83=some (Go.TypeDesc.struct #[{ name:= "Id",type:=3,offset:=0,embedded:=false,tag:= "",pkgPath:= "",byteOffset:=0 },{ name:= "User",type:=3,offset:=1,embedded:=false,tag:= "",pkgPath:= "",byteOffset:=8 },{ name:= "Class",type:=3,offset:=2,embedded:=false,tag:= "",pkgPath:= "",byteOffset:=16 },{ name:= "Wants",type:=26,offset:=3,embedded:=false,tag:= "",pkgPath:= "",byteOffset:=24 },{ name:= "Wall",type:=3,offset:=10,embedded:=false,tag:= "",pkgPath:= "",byteOffset:=56 },{ name:= "Prio",type:=3,offset:=11,embedded:=false,tag:= "",pkgPath:= "",byteOffset:=64 },{ name:= "Held",type:=4,offset:=12,embedded:=false,tag:= "",pkgPath:= "",byteOffset:=72 },{ name:= "After",type:=56,offset:=13,embedded:=false,tag:= "",pkgPath:= "",byteOffset:=80 },{ name:= "State",type:=5,offset:=14,embedded:=false,tag:= "",pkgPath:= "",byteOffset:=104 },{ name:= "Came",type:=3,offset:=15,embedded:=false,tag:= "",pkgPath:= "",byteOffset:=112 }]):=by kernel_rfl
@[push_cast] theorem zc83:zeroCells Tryz.prog 83=some [.c (.int .i64 0),.c (.int .i64 0),.c (.int .i64 0),.c (.int .i64 0),.c (.int .i64 0),.c (.int .i64 0),.c (.bool false),.c (.bool false),.c (.bool false),.c (.bool false),.c (.int .i64 0),.c (.int .i64 0),.c (.bool false),.c (.slice none 0 0),.c (.int .u8 0),.c (.int .i64 0)]:=by kernel_rfl
@[push_cast] theorem ze83:zBj Tryz.prog 83=some (.agg [.c (.int .i64 0),.c (.int .i64 0),.c (.int .i64 0),.c (.int .i64 0),.c (.int .i64 0),.c (.int .i64 0),.c (.bool false),.c (.bool false),.c (.bool false),.c (.bool false),.c (.int .i64 0),.c (.int .i64 0),.c (.bool false),.c (.slice none 0 0),.c (.int .u8 0),.c (.int .i64 0)]):=by kernel_rfl
@[push_cast] theorem fa83:Array.all (#[{ name:= "Id",type:=3,offset:=0,embedded:=false,tag:= "",pkgPath:= "",byteOffset:=0 },{ name:= "User",type:=3,offset:=1,embedded:=false,tag:= "",pkgPath:= "",byteOffset:=8 },{ name:= "Class",type:=3,offset:=2,embedded:=false,tag:= "",pkgPath:= "",byteOffset:=16 },{ name:= "Wants",type:=26,offset:=3,embedded:=false,tag:= "",pkgPath:= "",byteOffset:=24 },{ name:= "Wall",type:=3,offset:=10,embedded:=false,tag:= "",pkgPath:= "",byteOffset:=56 },{ name:= "Prio",type:=3,offset:=11,embedded:=false,tag:= "",pkgPath:= "",byteOffset:=64 },{ name:= "Held",type:=4,offset:=12,embedded:=false,tag:= "",pkgPath:= "",byteOffset:=72 },{ name:= "After",type:=56,offset:=13,embedded:=false,tag:= "",pkgPath:= "",byteOffset:=80 },{ name:= "State",type:=5,offset:=14,embedded:=false,tag:= "",pkgPath:= "",byteOffset:=104 },{ name:= "Came",type:=3,offset:=15,embedded:=false,tag:= "",pkgPath:= "",byteOffset:=112 }]:Array Field) (fun f=>(szT Tryz.prog f.type).isSome) 0 10=true:=by kernel_rfl
@[push_cast] theorem fo83_0:zAj Tryz.prog 83 0=some 0:=by kernel_rfl
@[push_cast] theorem fo83_1:zAj Tryz.prog 83 1=some 1:=by kernel_rfl
@[push_cast] theorem fo83_2:zAj Tryz.prog 83 2=some 2:=by kernel_rfl
@[push_cast] theorem fo83_3:zAj Tryz.prog 83 3=some 3:=by kernel_rfl
@[push_cast] theorem fo83_4:zAj Tryz.prog 83 4=some 10:=by kernel_rfl
@[push_cast] theorem fo83_5:zAj Tryz.prog 83 5=some 11:=by kernel_rfl
@[push_cast] theorem fo83_6:zAj Tryz.prog 83 6=some 12:=by kernel_rfl
@[push_cast] theorem fo83_7:zAj Tryz.prog 83 7=some 13:=by kernel_rfl
@[push_cast] theorem fo83_8:zAj Tryz.prog 83 8=some 14:=by kernel_rfl
@[push_cast] theorem fo83_9:zAj Tryz.prog 83 9=some 15:=by kernel_rfl
@[push_cast] theorem sz97:szT Tryz.prog 97=some 1:=by kernel_rfl
@[push_cast] theorem ag97:aggT Tryz.prog 97=some false:=by kernel_rfl
@[push_cast] theorem un97:Tryz.prog.underlying 97=some (Go.TypeDesc.slice 26):=by kernel_rfl
@[push_cast] theorem ia97i (l:List AV) (i:Int) (H:List AO):zAl Tryz.prog 97 (.isl l) i H=some ((0≤i∧i < (l.length:Int))∧(l.getD i.toNat .un).cells.length=7,.iptr (l.getD i.toNat .un).cells 0):=by unfold zAl; simp only[un97,show szT Tryz.prog 26=some 7 by kernel_rfl]
@[push_cast] theorem ia97s (id st len cap:Nat) (i:Int) (H:List AO):zAl Tryz.prog 97 (.sl id st len cap) i H=(match H[id]? with | some (.arr sz es)=>if sz=7 then some (0≤i∧i < (len:Int),.eptr id (st+i.toNat) 0) else none | _=>none):=by unfold zAl; simp only[un97,show szT Tryz.prog 26=some 7 by kernel_rfl]; rfl
@[push_cast] theorem li97 (l:List AV):aLen Tryz.prog 97 (.isl l)=some (l.length:Int):=by unfold aLen; simp only[un97]
@[push_cast] theorem ls97 (id st len cap:Nat):aLen Tryz.prog 97 (.sl id st len cap)=some (len:Int):=by unfold aLen; simp only[un97]
@[push_cast] theorem sz114:szT Tryz.prog 114=some 16:=by kernel_rfl
@[push_cast] theorem ag114:aggT Tryz.prog 114=some true:=by kernel_rfl
@[push_cast] theorem un114:Tryz.prog.underlying 114=some (Go.TypeDesc.struct #[{ name:= "State",type:=58,offset:=0,embedded:=true,tag:= "",pkgPath:= "",byteOffset:=0 }]):=by kernel_rfl
@[push_cast] theorem zc114:zeroCells Tryz.prog 114=some [.c (.int .i64 0),.c (.int .i64 0),.c (.int .i64 0),.c (.int .i64 0),.c (.int .i64 0),.c (.int .i64 0),.c (.int .i64 0),.c (.slice none 0 0),.c (.int .i64 0),.c (.int .i64 0),.c (.slice none 0 0),.c (.slice none 0 0),.c (.slice none 0 0),.c (.slice none 0 0),.c (.slice none 0 0),.c (.slice none 0 0)]:=by kernel_rfl
@[push_cast] theorem fa114:Array.all (#[{ name:= "State",type:=58,offset:=0,embedded:=true,tag:= "",pkgPath:= "",byteOffset:=0 }]:Array Field) (fun f=>(szT Tryz.prog f.type).isSome) 0 1=true:=by kernel_rfl
@[push_cast] theorem fp114_0:zDi Tryz.prog #[{ name:= "State",type:=58,offset:=0,embedded:=true,tag:= "",pkgPath:= "",byteOffset:=0 }] 0=some (0,16):=by kernel_rfl
@[push_cast] theorem fo114_0:zAj Tryz.prog 114 0=some 0:=by kernel_rfl
@[push_cast] theorem sz115:szT Tryz.prog 115=some 1:=by kernel_rfl
@[push_cast] theorem ag115:aggT Tryz.prog 115=some false:=by kernel_rfl
@[push_cast] theorem ze115:zBj Tryz.prog 115=some (.c .nilFunc):=by kernel_rfl
@[push_cast] theorem un116:Tryz.prog.underlying 116=some (Go.TypeDesc.slice 115):=by kernel_rfl
@[push_cast] theorem ia116s (id st len cap:Nat) (i:Int) (H:List AO):zAl Tryz.prog 116 (.sl id st len cap) i H=(match H[id]? with | some (.arr sz es)=>if sz=1 then some (0≤i∧i < (len:Int),.eptr id (st+i.toNat) 0) else none | _=>none):=by unfold zAl; simp only[un116,show szT Tryz.prog 115=some 1 by kernel_rfl]; rfl
@[push_cast] theorem ls116 (id st len cap:Nat):aLen Tryz.prog 116 (.sl id st len cap)=some (len:Int):=by unfold aLen; simp only[un116]
@[push_cast] theorem sz132:szT Tryz.prog 132=some 1:=by kernel_rfl
@[push_cast] theorem ag132:aggT Tryz.prog 132=some false:=by kernel_rfl
@[push_cast] theorem by132:zCc Tryz.prog 132=some 8:=by kernel_rfl
@[push_cast] theorem un132:Tryz.prog.underlying 132=some (Go.TypeDesc.int (Go.IntKind.u64)):=by kernel_rfl
@[push_cast] theorem ze132:zBj Tryz.prog 132=some (.c (.int .u64 0)):=by kernel_rfl
@[push_cast] theorem sz151:szT Tryz.prog 151=some 1:=by kernel_rfl
@[push_cast] theorem ag151:aggT Tryz.prog 151=some false:=by kernel_rfl
@[push_cast] theorem un151:Tryz.prog.underlying 151=some (Go.TypeDesc.map 26 4):=by kernel_rfl
@[push_cast] theorem sz152:szT Tryz.prog 152=some 18:=by kernel_rfl
@[push_cast] theorem ag152:aggT Tryz.prog 152=some true:=by kernel_rfl
@[push_cast] theorem un152:Tryz.prog.underlying 152=some (Go.TypeDesc.array 6 22):=by kernel_rfl
@[push_cast] theorem zc152:zeroCells Tryz.prog 152=some [.c (.int .i64 0),.c (.int .i64 0),.c (.int .i64 0),.c (.int .i64 0),.c (.int .i64 0),.c (.int .i64 0),.c (.int .i64 0),.c (.int .i64 0),.c (.int .i64 0),.c (.int .i64 0),.c (.int .i64 0),.c (.int .i64 0),.c (.int .i64 0),.c (.int .i64 0),.c (.int .i64 0),.c (.int .i64 0),.c (.int .i64 0),.c (.int .i64 0)]:=by kernel_rfl
@[push_cast] theorem un173:Tryz.prog.underlying 173=some (Go.TypeDesc.map 174 3):=by kernel_rfl
@[push_cast] theorem sz174:szT Tryz.prog 174=some 2:=by kernel_rfl
@[push_cast] theorem ag174:aggT Tryz.prog 174=some true:=by kernel_rfl
@[push_cast] theorem un174:Tryz.prog.underlying 174=some (Go.TypeDesc.array 2 3):=by kernel_rfl
@[push_cast] theorem zc174:zeroCells Tryz.prog 174=some [.c (.int .i64 0),.c (.int .i64 0)]:=by kernel_rfl
@[push_cast] theorem sz212:szT Tryz.prog 212=some 1:=by kernel_rfl
@[push_cast] theorem ag212:aggT Tryz.prog 212=some false:=by kernel_rfl
@[push_cast] theorem un212:Tryz.prog.underlying 212=some (Go.TypeDesc.map 3 5):=by kernel_rfl
@[push_cast] theorem zc212:zeroCells Tryz.prog 212=some [.c (.map none)]:=by kernel_rfl
@[push_cast] theorem sz229:szT Tryz.prog 229=some 4:=by kernel_rfl
@[push_cast] theorem un229:Tryz.prog.underlying 229=some (Go.TypeDesc.array 4 3):=by kernel_rfl
@[push_cast] theorem zc229:zeroCells Tryz.prog 229=some [.c (.int .i64 0),.c (.int .i64 0),.c (.int .i64 0),.c (.int .i64 0)]:=by kernel_rfl
@[push_cast] theorem ia229 (x:AV) (i:Int) (H:List AO):zAl Tryz.prog 229 x i H=(zEj x (i.toNat*1)).map fun v=>(0≤i∧i < 4,v):=by unfold zAl; simp only[un229,show szT Tryz.prog 3=some 1 by kernel_rfl]; rfl
@[push_cast] theorem un261:Tryz.prog.underlying 261=some (Go.TypeDesc.slice 56):=by kernel_rfl
@[push_cast] theorem sz268:szT Tryz.prog 268=some 1:=by kernel_rfl
@[push_cast] theorem ag268:aggT Tryz.prog 268=some false:=by kernel_rfl
@[push_cast] theorem zc268:zeroCells Tryz.prog 268=some [.c .nilFunc]:=by kernel_rfl
@[push_cast] theorem un289:Tryz.prog.underlying 289=some (Go.TypeDesc.slice 28):=by kernel_rfl
@[push_cast] theorem ia289s (id st len cap:Nat) (i:Int) (H:List AO):zAl Tryz.prog 289 (.sl id st len cap) i H=(match H[id]? with | some (.arr sz es)=>if sz=1 then some (0≤i∧i < (len:Int),.eptr id (st+i.toNat) 0) else none | _=>none):=by unfold zAl; simp only[un289,show szT Tryz.prog 28=some 1 by kernel_rfl]; rfl
@[push_cast] theorem ls289 (id st len cap:Nat):aLen Tryz.prog 289 (.sl id st len cap)=some (len:Int):=by unfold aLen; simp only[un289]
end Go.Ab
