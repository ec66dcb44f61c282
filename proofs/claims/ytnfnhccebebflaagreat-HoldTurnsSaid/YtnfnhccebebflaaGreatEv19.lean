/- One of the texts that this claim stands on. -/
import Derived.Test.YtnfnhccebebflaaGreatEv18
import Derived.Test.YtnfnhccebebflaaGreatProg
import Derived.KernelRfl
set_option maxHeartbeats 40000000
set_option maxRecDepth 400000
set_option linter.all false
namespace Go.Ab
open Go.Proofs
open Go.Proofs.Tryz renaming prog->zP
@[push_cast] theorem sz3:szT zP 3=some 1:=by kernel_rfl
@[push_cast] theorem ag3:aggT zP 3=some false:=by kernel_rfl
@[push_cast] theorem by3:zCe zP 3=some 8:=by kernel_rfl
@[push_cast] theorem un3:zP.underlying 3=some (Go.TypeDesc.int (Go.IntKind.i64)):=by kernel_rfl
@[push_cast] theorem zc3:zeroCells zP 3=some [.c (.int .i64 0)]:=by kernel_rfl
@[push_cast] theorem ze3:zBk zP 3=some (.c (.int .i64 0)):=by kernel_rfl
@[push_cast] theorem sz4:szT zP 4=some 1:=by kernel_rfl
@[push_cast] theorem ag4:aggT zP 4=some false:=by kernel_rfl
@[push_cast] theorem un4:zP.underlying 4=some (Go.TypeDesc.bool):=by kernel_rfl
@[push_cast] theorem sz5:szT zP 5=some 1:=by kernel_rfl
@[push_cast] theorem ag5:aggT zP 5=some false:=by kernel_rfl
@[push_cast] theorem ze5:zBk zP 5=some (.c (.int .u8 0)):=by kernel_rfl
@[push_cast] theorem sz22:szT zP 22=some 3:=by kernel_rfl
@[push_cast] theorem ag22:aggT zP 22=some true:=by kernel_rfl
@[push_cast] theorem un22:zP.underlying 22=some (Go.TypeDesc.array 3 3):=by kernel_rfl
@[push_cast] theorem zc22:zeroCells zP 22=some [.c (.int .i64 0),.c (.int .i64 0),.c (.int .i64 0)]:=by kernel_rfl
@[push_cast] theorem ia22 (x:AV) (i:Int) (H:List AO):zAn zP 22 x i H=(zEm x (i.toNat*1)).map fun v=>(0<=i/\i < 3,v):=by unfold zAn; simp only[un22,show szT zP 3=some 1 by kernel_rfl]; rfl
@[push_cast] theorem sz23:szT zP 23=some 3:=by kernel_rfl
@[push_cast] theorem ag23:aggT zP 23=some true:=by kernel_rfl
@[push_cast] theorem un23:zP.underlying 23=some (Go.TypeDesc.array 3 3):=by kernel_rfl
@[push_cast] theorem zc23:zeroCells zP 23=some [.c (.int .i64 0),.c (.int .i64 0),.c (.int .i64 0)]:=by kernel_rfl
@[push_cast] theorem ia23 (x:AV) (i:Int) (H:List AO):zAn zP 23 x i H=(zEm x (i.toNat*1)).map fun v=>(0<=i/\i < 3,v):=by unfold zAn; simp only[un23,show szT zP 3=some 1 by kernel_rfl]; rfl
@[push_cast] theorem sz24:szT zP 24=some 3:=by kernel_rfl
@[push_cast] theorem ag24:aggT zP 24=some true:=by kernel_rfl
@[push_cast] theorem un24:zP.underlying 24=some (Go.TypeDesc.array 3 4):=by kernel_rfl
@[push_cast] theorem zc24:zeroCells zP 24=some [.c (.bool false),.c (.bool false),.c (.bool false)]:=by kernel_rfl
@[push_cast] theorem ia24 (x:AV) (i:Int) (H:List AO):zAn zP 24 x i H=(zEm x (i.toNat*1)).map fun v=>(0<=i/\i < 3,v):=by unfold zAn; simp only[un24,show szT zP 4=some 1 by kernel_rfl]; rfl
@[push_cast] theorem sz26:szT zP 26=some 7:=by kernel_rfl
@[push_cast] theorem ag26:aggT zP 26=some true:=by kernel_rfl
@[push_cast] theorem by26:zCe zP 26=some 32:=by kernel_rfl
@[push_cast] theorem zc26:zeroCells zP 26=some [.c (.int .i64 0),.c (.int .i64 0),.c (.int .i64 0),.c (.bool false),.c (.bool false),.c (.bool false),.c (.bool false)]:=by kernel_rfl
@[push_cast] theorem ze26:zBk zP 26=some (.agg [.c (.int .i64 0),.c (.int .i64 0),.c (.int .i64 0),.c (.bool false),.c (.bool false),.c (.bool false),.c (.bool false)]):=by kernel_rfl
@[push_cast] theorem fo26_0:zAi zP 26 0=some 0:=by kernel_rfl
@[push_cast] theorem fo26_1:zAi zP 26 1=some 3:=by kernel_rfl
@[push_cast] theorem fo26_2:zAi zP 26 2=some 6:=by kernel_rfl
@[push_cast] theorem sz28:szT zP 28=some 1:=by kernel_rfl
@[push_cast] theorem ag28:aggT zP 28=some false:=by kernel_rfl
@[push_cast] theorem un28:zP.underlying 28=some (Go.TypeDesc.slice 132):=by kernel_rfl
@[push_cast] theorem ze28:zBk zP 28=some (.c (.slice none 0 0)):=by kernel_rfl
@[push_cast] theorem ia28i (l:List AV) (i:Int) (H:List AO):zAn zP 28 (.isl l) i H=some ((0<=i/\i < (l.length:Int))/\(l.getD i.toNat .un).cells.length=1,.iptr (l.getD i.toNat .un).cells 0):=by unfold zAn; simp only[un28,show szT zP 132=some 1 by kernel_rfl]
@[push_cast] theorem ia28s (id st len cap:Nat) (i:Int) (H:List AO):zAn zP 28 (.sl id st len cap) i H=(match H[id]? with | some (.arr sz es)=>if sz=1 then some (0<=i/\i < (len:Int),.eptr id (st+i.toNat) 0) else none | _=>none):=by unfold zAn; simp only[un28,show szT zP 132=some 1 by kernel_rfl]; rfl
@[push_cast] theorem li28 (l:List AV):aLen zP 28 (.isl l)=some (l.length:Int):=by unfold aLen; simp only[un28]
@[push_cast] theorem ln28 :aLen zP 28 (.c (.slice none 0 0))=some 0:=by unfold aLen; simp only[un28]
@[push_cast] theorem sz30:szT zP 30=some 6:=by kernel_rfl
@[push_cast] theorem ag30:aggT zP 30=some true:=by kernel_rfl
@[push_cast] theorem un30:zP.underlying 30=some (Go.TypeDesc.struct #[{ name:="Base",type:=22,offset:=0,embedded:=false,tag:="",pkgPath:="",byteOffset:=0 },{ name:="Size",type:=22,offset:=3,embedded:=false,tag:="",pkgPath:="",byteOffset:=24 }]):=by kernel_rfl
@[push_cast] theorem zc30:zeroCells zP 30=some [.c (.int .i64 0),.c (.int .i64 0),.c (.int .i64 0),.c (.int .i64 0),.c (.int .i64 0),.c (.int .i64 0)]:=by kernel_rfl
@[push_cast] theorem fa30:Array.all (#[{ name:="Base",type:=22,offset:=0,embedded:=false,tag:="",pkgPath:="",byteOffset:=0 },{ name:="Size",type:=22,offset:=3,embedded:=false,tag:="",pkgPath:="",byteOffset:=24 }]:Array Field) (fun f=>(szT zP f.type).isSome) 0 2=true:=by kernel_rfl
@[push_cast] theorem fo30_0:zAi zP 30 0=some 0:=by kernel_rfl
@[push_cast] theorem fo30_1:zAi zP 30 1=some 3:=by kernel_rfl
@[push_cast] theorem sz32:szT zP 32=some 9:=by kernel_rfl
@[push_cast] theorem ag32:aggT zP 32=some true:=by kernel_rfl
@[push_cast] theorem un32:zP.underlying 32=some (Go.TypeDesc.struct #[{ name:="Box",type:=30,offset:=0,embedded:=false,tag:="",pkgPath:="",byteOffset:=0 },{ name:="Torus",type:=24,offset:=6,embedded:=false,tag:="",pkgPath:="",byteOffset:=48 }]):=by kernel_rfl
@[push_cast] theorem zc32:zeroCells zP 32=some [.c (.int .i64 0),.c (.int .i64 0),.c (.int .i64 0),.c (.int .i64 0),.c (.int .i64 0),.c (.int .i64 0),.c (.bool false),.c (.bool false),.c (.bool false)]:=by kernel_rfl
@[push_cast] theorem fa32:Array.all (#[{ name:="Box",type:=30,offset:=0,embedded:=false,tag:="",pkgPath:="",byteOffset:=0 },{ name:="Torus",type:=24,offset:=6,embedded:=false,tag:="",pkgPath:="",byteOffset:=48 }]:Array Field) (fun f=>(szT zP f.type).isSome) 0 2=true:=by kernel_rfl
@[push_cast] theorem fp32_0:zBx zP #[{ name:="Box",type:=30,offset:=0,embedded:=false,tag:="",pkgPath:="",byteOffset:=0 },{ name:="Torus",type:=24,offset:=6,embedded:=false,tag:="",pkgPath:="",byteOffset:=48 }] 0=some (0,6):=by kernel_rfl
@[push_cast] theorem fo32_0:zAi zP 32 0=some 0:=by kernel_rfl
@[push_cast] theorem fo32_1:zAi zP 32 1=some 6:=by kernel_rfl
@[push_cast] theorem sz35:szT zP 35=some 1:=by kernel_rfl
@[push_cast] theorem ag35:aggT zP 35=some false:=by kernel_rfl
@[push_cast] theorem zc35:zeroCells zP 35=some [.c (.int .i64 0)]:=by kernel_rfl
@[push_cast] theorem sz50:szT zP 50=some 1:=by kernel_rfl
@[push_cast] theorem ag50:aggT zP 50=some false:=by kernel_rfl
@[push_cast] theorem un50:zP.underlying 50=some (Go.TypeDesc.slice 72):=by kernel_rfl
@[push_cast] theorem sz52:szT zP 52=some 8:=by kernel_rfl
@[push_cast] theorem ag52:aggT zP 52=some true:=by kernel_rfl
@[push_cast] theorem fo52_0:zAi zP 52 0=some 0:=by kernel_rfl
@[push_cast] theorem fo52_1:zAi zP 52 1=some 3:=by kernel_rfl
@[push_cast] theorem fo52_2:zAi zP 52 2=some 4:=by kernel_rfl
@[push_cast] theorem fo52_3:zAi zP 52 3=some 5:=by kernel_rfl
@[push_cast] theorem fo52_4:zAi zP 52 4=some 6:=by kernel_rfl
@[push_cast] theorem fo52_5:zAi zP 52 5=some 7:=by kernel_rfl
@[push_cast] theorem sz53:szT zP 53=some 1:=by kernel_rfl
@[push_cast] theorem ag53:aggT zP 53=some false:=by kernel_rfl
@[push_cast] theorem un53:zP.underlying 53=some (Go.TypeDesc.slice 83):=by kernel_rfl
@[push_cast] theorem ia53s (id st len cap:Nat) (i:Int) (H:List AO):zAn zP 53 (.sl id st len cap) i H=(match H[id]? with | some (.arr sz es)=>if sz=16 then some (0<=i/\i < (len:Int),.eptr id (st+i.toNat) 0) else none | _=>none):=by unfold zAn; simp only[un53,show szT zP 83=some 16 by kernel_rfl]; rfl
@[push_cast] theorem ls53 (id st len cap:Nat):aLen zP 53 (.sl id st len cap)=some (len:Int):=by unfold aLen; simp only[un53]
@[push_cast] theorem ln53 :aLen zP 53 (.c (.slice none 0 0))=some 0:=by unfold aLen; simp only[un53]
@[push_cast] theorem lz53 :aLen zP 53 .zs=some 0:=by unfold aLen; simp only[un53]
@[push_cast] theorem sz54:szT zP 54=some 1:=by kernel_rfl
@[push_cast] theorem ag54:aggT zP 54=some false:=by kernel_rfl
@[push_cast] theorem un54:zP.underlying 54=some (Go.TypeDesc.slice 70):=by kernel_rfl
@[push_cast] theorem sz55:szT zP 55=some 1:=by kernel_rfl
@[push_cast] theorem ag55:aggT zP 55=some false:=by kernel_rfl
@[push_cast] theorem un55:zP.underlying 55=some (Go.TypeDesc.slice 68):=by kernel_rfl
@[push_cast] theorem ia55s (id st len cap:Nat) (i:Int) (H:List AO):zAn zP 55 (.sl id st len cap) i H=(match H[id]? with | some (.arr sz es)=>if sz=9 then some (0<=i/\i < (len:Int),.eptr id (st+i.toNat) 0) else none | _=>none):=by unfold zAn; simp only[un55,show szT zP 68=some 9 by kernel_rfl]; rfl
@[push_cast] theorem ls55 (id st len cap:Nat):aLen zP 55 (.sl id st len cap)=some (len:Int):=by unfold aLen; simp only[un55]
@[push_cast] theorem ln55 :aLen zP 55 (.c (.slice none 0 0))=some 0:=by unfold aLen; simp only[un55]
@[push_cast] theorem lz55 :aLen zP 55 .zs=some 0:=by unfold aLen; simp only[un55]
@[push_cast] theorem sz56:szT zP 56=some 1:=by kernel_rfl
@[push_cast] theorem ag56:aggT zP 56=some false:=by kernel_rfl
@[push_cast] theorem un56:zP.underlying 56=some (Go.TypeDesc.slice 3):=by kernel_rfl
@[push_cast] theorem zc56:zeroCells zP 56=some [.c (.slice none 0 0)]:=by kernel_rfl
@[push_cast] theorem ze56:zBk zP 56=some (.c (.slice none 0 0)):=by kernel_rfl
@[push_cast] theorem ia56i (l:List AV) (i:Int) (H:List AO):zAn zP 56 (.isl l) i H=some ((0<=i/\i < (l.length:Int))/\(l.getD i.toNat .un).cells.length=1,.iptr (l.getD i.toNat .un).cells 0):=by unfold zAn; simp only[un56,show szT zP 3=some 1 by kernel_rfl]
@[push_cast] theorem li56 (l:List AV):aLen zP 56 (.isl l)=some (l.length:Int):=by unfold aLen; simp only[un56]
@[push_cast] theorem ln56 :aLen zP 56 (.c (.slice none 0 0))=some 0:=by unfold aLen; simp only[un56]
@[push_cast] theorem sz58:szT zP 58=some 16:=by kernel_rfl
@[push_cast] theorem ag58:aggT zP 58=some true:=by kernel_rfl
@[push_cast] theorem un58:zP.underlying 58=some (Go.TypeDesc.struct #[{ name:="Config",type:=52,offset:=0,embedded:=false,tag:="",pkgPath:="",byteOffset:=0 },{ name:="Now",type:=3,offset:=8,embedded:=false,tag:="",pkgPath:="",byteOffset:=80 },{ name:="Next",type:=3,offset:=9,embedded:=false,tag:="",pkgPath:="",byteOffset:=88 },{ name:="Jobs",type:=53,offset:=10,embedded:=false,tag:="",pkgPath:="",byteOffset:=96 },{ name:="Parts",type:=54,offset:=11,embedded:=false,tag:="",pkgPath:="",byteOffset:=120 },{ name:="Keeps",type:=55,offset:=12,embedded:=false,tag:="",pkgPath:="",byteOffset:=144 },{ name:="Down",type:=56,offset:=13,embedded:=false,tag:="",pkgPath:="",byteOffset:=168 },{ name:="Shut",type:=56,offset:=14,embedded:=false,tag:="",pkgPath:="",byteOffset:=192 },{ name:="Cut",type:=56,offset:=15,embedded:=false,tag:="",pkgPath:="",byteOffset:=216 }]):=by kernel_rfl
@[push_cast] theorem zc58:zeroCells zP 58=some [.c (.int .i64 0),.c (.int .i64 0),.c (.int .i64 0),.c (.int .i64 0),.c (.int .i64 0),.c (.int .i64 0),.c (.int .i64 0),.c (.slice none 0 0),.c (.int .i64 0),.c (.int .i64 0),.c (.slice none 0 0),.c (.slice none 0 0),.c (.slice none 0 0),.c (.slice none 0 0),.c (.slice none 0 0),.c (.slice none 0 0)]:=by kernel_rfl
@[push_cast] theorem fa58:Array.all (#[{ name:="Config",type:=52,offset:=0,embedded:=false,tag:="",pkgPath:="",byteOffset:=0 },{ name:="Now",type:=3,offset:=8,embedded:=false,tag:="",pkgPath:="",byteOffset:=80 },{ name:="Next",type:=3,offset:=9,embedded:=false,tag:="",pkgPath:="",byteOffset:=88 },{ name:="Jobs",type:=53,offset:=10,embedded:=false,tag:="",pkgPath:="",byteOffset:=96 },{ name:="Parts",type:=54,offset:=11,embedded:=false,tag:="",pkgPath:="",byteOffset:=120 },{ name:="Keeps",type:=55,offset:=12,embedded:=false,tag:="",pkgPath:="",byteOffset:=144 },{ name:="Down",type:=56,offset:=13,embedded:=false,tag:="",pkgPath:="",byteOffset:=168 },{ name:="Shut",type:=56,offset:=14,embedded:=false,tag:="",pkgPath:="",byteOffset:=192 },{ name:="Cut",type:=56,offset:=15,embedded:=false,tag:="",pkgPath:="",byteOffset:=216 }]:Array Field) (fun f=>(szT zP f.type).isSome) 0 9=true:=by kernel_rfl
@[push_cast] theorem fo58_0:zAi zP 58 0=some 0:=by kernel_rfl
@[push_cast] theorem fo58_1:zAi zP 58 1=some 8:=by kernel_rfl
@[push_cast] theorem fo58_2:zAi zP 58 2=some 9:=by kernel_rfl
@[push_cast] theorem fo58_3:zAi zP 58 3=some 10:=by kernel_rfl
@[push_cast] theorem fo58_4:zAi zP 58 4=some 11:=by kernel_rfl
@[push_cast] theorem fo58_5:zAi zP 58 5=some 12:=by kernel_rfl
@[push_cast] theorem fo58_6:zAi zP 58 6=some 13:=by kernel_rfl
@[push_cast] theorem fo58_7:zAi zP 58 7=some 14:=by kernel_rfl
@[push_cast] theorem fo58_8:zAi zP 58 8=some 15:=by kernel_rfl
@[push_cast] theorem sz66:szT zP 66=some 2:=by kernel_rfl
@[push_cast] theorem ag66:aggT zP 66=some true:=by kernel_rfl
@[push_cast] theorem fo66_0:zAi zP 66 0=some 0:=by kernel_rfl
@[push_cast] theorem fo66_1:zAi zP 66 1=some 1:=by kernel_rfl
@[push_cast] theorem sz68:szT zP 68=some 9:=by kernel_rfl
@[push_cast] theorem ag68:aggT zP 68=some true:=by kernel_rfl
@[push_cast] theorem by68:zCe zP 68=some 72:=by kernel_rfl
@[push_cast] theorem un68:zP.underlying 68=some (Go.TypeDesc.struct #[{ name:="Id",type:=3,offset:=0,embedded:=false,tag:="",pkgPath:="",byteOffset:=0 },{ name:="Box",type:=30,offset:=1,embedded:=false,tag:="",pkgPath:="",byteOffset:=8 },{ name:="Span",type:=66,offset:=7,embedded:=false,tag:="",pkgPath:="",byteOffset:=56 }]):=by kernel_rfl
@[push_cast] theorem zc68:zeroCells zP 68=some [.c (.int .i64 0),.c (.int .i64 0),.c (.int .i64 0),.c (.int .i64 0),.c (.int .i64 0),.c (.int .i64 0),.c (.int .i64 0),.c (.int .i64 0),.c (.int .i64 0)]:=by kernel_rfl
@[push_cast] theorem ze68:zBk zP 68=some (.agg [.c (.int .i64 0),.c (.int .i64 0),.c (.int .i64 0),.c (.int .i64 0),.c (.int .i64 0),.c (.int .i64 0),.c (.int .i64 0),.c (.int .i64 0),.c (.int .i64 0)]):=by kernel_rfl
@[push_cast] theorem fa68:Array.all (#[{ name:="Id",type:=3,offset:=0,embedded:=false,tag:="",pkgPath:="",byteOffset:=0 },{ name:="Box",type:=30,offset:=1,embedded:=false,tag:="",pkgPath:="",byteOffset:=8 },{ name:="Span",type:=66,offset:=7,embedded:=false,tag:="",pkgPath:="",byteOffset:=56 }]:Array Field) (fun f=>(szT zP f.type).isSome) 0 3=true:=by kernel_rfl
@[push_cast] theorem fp68_0:zBx zP #[{ name:="Id",type:=3,offset:=0,embedded:=false,tag:="",pkgPath:="",byteOffset:=0 },{ name:="Box",type:=30,offset:=1,embedded:=false,tag:="",pkgPath:="",byteOffset:=8 },{ name:="Span",type:=66,offset:=7,embedded:=false,tag:="",pkgPath:="",byteOffset:=56 }] 0=some (0,1):=by kernel_rfl
@[push_cast] theorem fp68_1:zBx zP #[{ name:="Id",type:=3,offset:=0,embedded:=false,tag:="",pkgPath:="",byteOffset:=0 },{ name:="Box",type:=30,offset:=1,embedded:=false,tag:="",pkgPath:="",byteOffset:=8 },{ name:="Span",type:=66,offset:=7,embedded:=false,tag:="",pkgPath:="",byteOffset:=56 }] 1=some (1,6):=by kernel_rfl
@[push_cast] theorem fp68_2:zBx zP #[{ name:="Id",type:=3,offset:=0,embedded:=false,tag:="",pkgPath:="",byteOffset:=0 },{ name:="Box",type:=30,offset:=1,embedded:=false,tag:="",pkgPath:="",byteOffset:=8 },{ name:="Span",type:=66,offset:=7,embedded:=false,tag:="",pkgPath:="",byteOffset:=56 }] 2=some (7,2):=by kernel_rfl
@[push_cast] theorem fo68_0:zAi zP 68 0=some 0:=by kernel_rfl
@[push_cast] theorem fo68_1:zAi zP 68 1=some 1:=by kernel_rfl
@[push_cast] theorem fo68_2:zAi zP 68 2=some 7:=by kernel_rfl
@[push_cast] theorem sz70:szT zP 70=some 13:=by kernel_rfl
@[push_cast] theorem ag70:aggT zP 70=some true:=by kernel_rfl
@[push_cast] theorem by70:zCe zP 70=some 88:=by kernel_rfl
@[push_cast] theorem zc70:zeroCells zP 70=some [.c (.int .i64 0),.c (.int .i64 0),.c (.int .i64 0),.c (.int .i64 0),.c (.int .i64 0),.c (.int .i64 0),.c (.int .i64 0),.c (.bool false),.c (.bool false),.c (.bool false),.c (.int .u8 0),.c (.int .i64 0),.c (.int .i64 0)]:=by kernel_rfl
@[push_cast] theorem ze70:zBk zP 70=some (.agg [.c (.int .i64 0),.c (.int .i64 0),.c (.int .i64 0),.c (.int .i64 0),.c (.int .i64 0),.c (.int .i64 0),.c (.int .i64 0),.c (.bool false),.c (.bool false),.c (.bool false),.c (.int .u8 0),.c (.int .i64 0),.c (.int .i64 0)]):=by kernel_rfl
@[push_cast] theorem fo70_0:zAi zP 70 0=some 0:=by kernel_rfl
@[push_cast] theorem fo70_1:zAi zP 70 1=some 1:=by kernel_rfl
@[push_cast] theorem fo70_2:zAi zP 70 2=some 10:=by kernel_rfl
@[push_cast] theorem fo70_3:zAi zP 70 3=some 11:=by kernel_rfl
@[push_cast] theorem fo70_4:zAi zP 70 4=some 12:=by kernel_rfl
@[push_cast] theorem sz72:szT zP 72=some 4:=by kernel_rfl
@[push_cast] theorem ag72:aggT zP 72=some true:=by kernel_rfl
@[push_cast] theorem by72:zCe zP 72=some 32:=by kernel_rfl
@[push_cast] theorem zc72:zeroCells zP 72=some [.c (.int .i64 0),.c (.int .i64 0),.c (.int .i64 0),.c (.int .i64 0)]:=by kernel_rfl
@[push_cast] theorem ze72:zBk zP 72=some (.agg [.c (.int .i64 0),.c (.int .i64 0),.c (.int .i64 0),.c (.int .i64 0)]):=by kernel_rfl
@[push_cast] theorem fo72_0:zAi zP 72 0=some 0:=by kernel_rfl
@[push_cast] theorem fo72_1:zAi zP 72 1=some 1:=by kernel_rfl
@[push_cast] theorem fo72_2:zAi zP 72 2=some 2:=by kernel_rfl
@[push_cast] theorem fo72_3:zAi zP 72 3=some 3:=by kernel_rfl
@[push_cast] theorem sz83:szT zP 83=some 16:=by kernel_rfl
@[push_cast] theorem ag83:aggT zP 83=some true:=by kernel_rfl
@[push_cast] theorem by83:zCe zP 83=some 120:=by kernel_rfl
@[push_cast] theorem un83:zP.underlying 83=some (Go.TypeDesc.struct #[{ name:="Id",type:=3,offset:=0,embedded:=false,tag:="",pkgPath:="",byteOffset:=0 },{ name:="User",type:=3,offset:=1,embedded:=false,tag:="",pkgPath:="",byteOffset:=8 },{ name:="Class",type:=3,offset:=2,embedded:=false,tag:="",pkgPath:="",byteOffset:=16 },{ name:="Wants",type:=26,offset:=3,embedded:=false,tag:="",pkgPath:="",byteOffset:=24 },{ name:="Wall",type:=3,offset:=10,embedded:=false,tag:="",pkgPath:="",byteOffset:=56 },{ name:="Prio",type:=3,offset:=11,embedded:=false,tag:="",pkgPath:="",byteOffset:=64 },{ name:="Held",type:=4,offset:=12,embedded:=false,tag:="",pkgPath:="",byteOffset:=72 },{ name:="After",type:=56,offset:=13,embedded:=false,tag:="",pkgPath:="",byteOffset:=80 },{ name:="State",type:=5,offset:=14,embedded:=false,tag:="",pkgPath:="",byteOffset:=104 },{ name:="Came",type:=3,offset:=15,embedded:=false,tag:="",pkgPath:="",byteOffset:=112 }]):=by kernel_rfl
@[push_cast] theorem zc83:zeroCells zP 83=some [.c (.int .i64 0),.c (.int .i64 0),.c (.int .i64 0),.c (.int .i64 0),.c (.int .i64 0),.c (.int .i64 0),.c (.bool false),.c (.bool false),.c (.bool false),.c (.bool false),.c (.int .i64 0),.c (.int .i64 0),.c (.bool false),.c (.slice none 0 0),.c (.int .u8 0),.c (.int .i64 0)]:=by kernel_rfl
@[push_cast] theorem ze83:zBk zP 83=some (.agg [.c (.int .i64 0),.c (.int .i64 0),.c (.int .i64 0),.c (.int .i64 0),.c (.int .i64 0),.c (.int .i64 0),.c (.bool false),.c (.bool false),.c (.bool false),.c (.bool false),.c (.int .i64 0),.c (.int .i64 0),.c (.bool false),.c (.slice none 0 0),.c (.int .u8 0),.c (.int .i64 0)]):=by kernel_rfl
@[push_cast] theorem fa83:Array.all (#[{ name:="Id",type:=3,offset:=0,embedded:=false,tag:="",pkgPath:="",byteOffset:=0 },{ name:="User",type:=3,offset:=1,embedded:=false,tag:="",pkgPath:="",byteOffset:=8 },{ name:="Class",type:=3,offset:=2,embedded:=false,tag:="",pkgPath:="",byteOffset:=16 },{ name:="Wants",type:=26,offset:=3,embedded:=false,tag:="",pkgPath:="",byteOffset:=24 },{ name:="Wall",type:=3,offset:=10,embedded:=false,tag:="",pkgPath:="",byteOffset:=56 },{ name:="Prio",type:=3,offset:=11,embedded:=false,tag:="",pkgPath:="",byteOffset:=64 },{ name:="Held",type:=4,offset:=12,embedded:=false,tag:="",pkgPath:="",byteOffset:=72 },{ name:="After",type:=56,offset:=13,embedded:=false,tag:="",pkgPath:="",byteOffset:=80 },{ name:="State",type:=5,offset:=14,embedded:=false,tag:="",pkgPath:="",byteOffset:=104 },{ name:="Came",type:=3,offset:=15,embedded:=false,tag:="",pkgPath:="",byteOffset:=112 }]:Array Field) (fun f=>(szT zP f.type).isSome) 0 10=true:=by kernel_rfl
@[push_cast] theorem fo83_0:zAi zP 83 0=some 0:=by kernel_rfl
@[push_cast] theorem fo83_1:zAi zP 83 1=some 1:=by kernel_rfl
@[push_cast] theorem fo83_2:zAi zP 83 2=some 2:=by kernel_rfl
@[push_cast] theorem fo83_3:zAi zP 83 3=some 3:=by kernel_rfl
@[push_cast] theorem fo83_4:zAi zP 83 4=some 10:=by kernel_rfl
@[push_cast] theorem fo83_5:zAi zP 83 5=some 11:=by kernel_rfl
@[push_cast] theorem fo83_6:zAi zP 83 6=some 12:=by kernel_rfl
@[push_cast] theorem fo83_7:zAi zP 83 7=some 13:=by kernel_rfl
@[push_cast] theorem fo83_8:zAi zP 83 8=some 14:=by kernel_rfl
@[push_cast] theorem fo83_9:zAi zP 83 9=some 15:=by kernel_rfl
@[push_cast] theorem sz97:szT zP 97=some 1:=by kernel_rfl
@[push_cast] theorem ag97:aggT zP 97=some false:=by kernel_rfl
@[push_cast] theorem un97:zP.underlying 97=some (Go.TypeDesc.slice 26):=by kernel_rfl
@[push_cast] theorem ia97i (l:List AV) (i:Int) (H:List AO):zAn zP 97 (.isl l) i H=some ((0<=i/\i < (l.length:Int))/\(l.getD i.toNat .un).cells.length=7,.iptr (l.getD i.toNat .un).cells 0):=by unfold zAn; simp only[un97,show szT zP 26=some 7 by kernel_rfl]
@[push_cast] theorem ia97s (id st len cap:Nat) (i:Int) (H:List AO):zAn zP 97 (.sl id st len cap) i H=(match H[id]? with | some (.arr sz es)=>if sz=7 then some (0<=i/\i < (len:Int),.eptr id (st+i.toNat) 0) else none | _=>none):=by unfold zAn; simp only[un97,show szT zP 26=some 7 by kernel_rfl]; rfl
@[push_cast] theorem li97 (l:List AV):aLen zP 97 (.isl l)=some (l.length:Int):=by unfold aLen; simp only[un97]
@[push_cast] theorem ls97 (id st len cap:Nat):aLen zP 97 (.sl id st len cap)=some (len:Int):=by unfold aLen; simp only[un97]
@[push_cast] theorem sz114:szT zP 114=some 16:=by kernel_rfl
@[push_cast] theorem ag114:aggT zP 114=some true:=by kernel_rfl
@[push_cast] theorem un114:zP.underlying 114=some (Go.TypeDesc.struct #[{ name:="State",type:=58,offset:=0,embedded:=true,tag:="",pkgPath:="",byteOffset:=0 }]):=by kernel_rfl
@[push_cast] theorem zc114:zeroCells zP 114=some [.c (.int .i64 0),.c (.int .i64 0),.c (.int .i64 0),.c (.int .i64 0),.c (.int .i64 0),.c (.int .i64 0),.c (.int .i64 0),.c (.slice none 0 0),.c (.int .i64 0),.c (.int .i64 0),.c (.slice none 0 0),.c (.slice none 0 0),.c (.slice none 0 0),.c (.slice none 0 0),.c (.slice none 0 0),.c (.slice none 0 0)]:=by kernel_rfl
@[push_cast] theorem fa114:Array.all (#[{ name:="State",type:=58,offset:=0,embedded:=true,tag:="",pkgPath:="",byteOffset:=0 }]:Array Field) (fun f=>(szT zP f.type).isSome) 0 1=true:=by kernel_rfl
@[push_cast] theorem fp114_0:zBx zP #[{ name:="State",type:=58,offset:=0,embedded:=true,tag:="",pkgPath:="",byteOffset:=0 }] 0=some (0,16):=by kernel_rfl
@[push_cast] theorem fo114_0:zAi zP 114 0=some 0:=by kernel_rfl
@[push_cast] theorem sz115:szT zP 115=some 1:=by kernel_rfl
@[push_cast] theorem ag115:aggT zP 115=some false:=by kernel_rfl
@[push_cast] theorem ze115:zBk zP 115=some (.c .nilFunc):=by kernel_rfl
@[push_cast] theorem un116:zP.underlying 116=some (Go.TypeDesc.slice 115):=by kernel_rfl
@[push_cast] theorem ia116s (id st len cap:Nat) (i:Int) (H:List AO):zAn zP 116 (.sl id st len cap) i H=(match H[id]? with | some (.arr sz es)=>if sz=1 then some (0<=i/\i < (len:Int),.eptr id (st+i.toNat) 0) else none | _=>none):=by unfold zAn; simp only[un116,show szT zP 115=some 1 by kernel_rfl]; rfl
@[push_cast] theorem ls116 (id st len cap:Nat):aLen zP 116 (.sl id st len cap)=some (len:Int):=by unfold aLen; simp only[un116]
@[push_cast] theorem sz132:szT zP 132=some 1:=by kernel_rfl
@[push_cast] theorem ag132:aggT zP 132=some false:=by kernel_rfl
@[push_cast] theorem by132:zCe zP 132=some 8:=by kernel_rfl
@[push_cast] theorem un132:zP.underlying 132=some (Go.TypeDesc.int (Go.IntKind.u64)):=by kernel_rfl
@[push_cast] theorem ze132:zBk zP 132=some (.c (.int .u64 0)):=by kernel_rfl
@[push_cast] theorem sz151:szT zP 151=some 1:=by kernel_rfl
@[push_cast] theorem ag151:aggT zP 151=some false:=by kernel_rfl
@[push_cast] theorem un151:zP.underlying 151=some (Go.TypeDesc.map 26 4):=by kernel_rfl
@[push_cast] theorem sz152:szT zP 152=some 18:=by kernel_rfl
@[push_cast] theorem ag152:aggT zP 152=some true:=by kernel_rfl
@[push_cast] theorem un152:zP.underlying 152=some (Go.TypeDesc.array 6 22):=by kernel_rfl
@[push_cast] theorem zc152:zeroCells zP 152=some [.c (.int .i64 0),.c (.int .i64 0),.c (.int .i64 0),.c (.int .i64 0),.c (.int .i64 0),.c (.int .i64 0),.c (.int .i64 0),.c (.int .i64 0),.c (.int .i64 0),.c (.int .i64 0),.c (.int .i64 0),.c (.int .i64 0),.c (.int .i64 0),.c (.int .i64 0),.c (.int .i64 0),.c (.int .i64 0),.c (.int .i64 0),.c (.int .i64 0)]:=by kernel_rfl
@[push_cast] theorem un173:zP.underlying 173=some (Go.TypeDesc.map 174 3):=by kernel_rfl
@[push_cast] theorem sz174:szT zP 174=some 2:=by kernel_rfl
@[push_cast] theorem ag174:aggT zP 174=some true:=by kernel_rfl
@[push_cast] theorem un174:zP.underlying 174=some (Go.TypeDesc.array 2 3):=by kernel_rfl
@[push_cast] theorem zc174:zeroCells zP 174=some [.c (.int .i64 0),.c (.int .i64 0)]:=by kernel_rfl
@[push_cast] theorem sz212:szT zP 212=some 1:=by kernel_rfl
@[push_cast] theorem ag212:aggT zP 212=some false:=by kernel_rfl
@[push_cast] theorem un212:zP.underlying 212=some (Go.TypeDesc.map 3 5):=by kernel_rfl
@[push_cast] theorem zc212:zeroCells zP 212=some [.c (.map none)]:=by kernel_rfl
@[push_cast] theorem sz229:szT zP 229=some 4:=by kernel_rfl
@[push_cast] theorem un229:zP.underlying 229=some (Go.TypeDesc.array 4 3):=by kernel_rfl
@[push_cast] theorem zc229:zeroCells zP 229=some [.c (.int .i64 0),.c (.int .i64 0),.c (.int .i64 0),.c (.int .i64 0)]:=by kernel_rfl
@[push_cast] theorem ia229 (x:AV) (i:Int) (H:List AO):zAn zP 229 x i H=(zEm x (i.toNat*1)).map fun v=>(0<=i/\i < 4,v):=by unfold zAn; simp only[un229,show szT zP 3=some 1 by kernel_rfl]; rfl
@[push_cast] theorem un261:zP.underlying 261=some (Go.TypeDesc.slice 56):=by kernel_rfl
@[push_cast] theorem sz268:szT zP 268=some 1:=by kernel_rfl
@[push_cast] theorem ag268:aggT zP 268=some false:=by kernel_rfl
@[push_cast] theorem zc268:zeroCells zP 268=some [.c .nilFunc]:=by kernel_rfl
@[push_cast] theorem un289:zP.underlying 289=some (Go.TypeDesc.slice 28):=by kernel_rfl
@[push_cast] theorem ia289s (id st len cap:Nat) (i:Int) (H:List AO):zAn zP 289 (.sl id st len cap) i H=(match H[id]? with | some (.arr sz es)=>if sz=1 then some (0<=i/\i < (len:Int),.eptr id (st+i.toNat) 0) else none | _=>none):=by unfold zAn; simp only[un289,show szT zP 28=some 1 by kernel_rfl]; rfl
@[push_cast] theorem ls289 (id st len cap:Nat):aLen zP 289 (.sl id st len cap)=some (len:Int):=by unfold aLen; simp only[un289]
end Go.Ab
