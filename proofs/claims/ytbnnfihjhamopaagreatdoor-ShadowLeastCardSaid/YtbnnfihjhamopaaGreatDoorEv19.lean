/- One of the texts that this claim stands on. -/
import Derived.Test.YtbnnfihjhamopaaGreatDoorEv18
import Derived.Test.YtbnnfihjhamopaaGreatDoorProg
import Derived.KernelRfl
set_option maxHeartbeats 40000000
set_option maxRecDepth 400000
set_option linter.all false
namespace Go.Ab
open Go.Proofs
open Go.Proofs.Tryz renaming prog->zP
@[push_cast] theorem sz3:szT zP 3=some 1:=by kernel_rfl
@[push_cast] theorem ag3:aggT zP 3=some false:=by kernel_rfl
@[push_cast] theorem by3:zCt zP 3=some 8:=by kernel_rfl
@[push_cast] theorem un3:zP.underlying 3=some (Go.TypeDesc.int (Go.IntKind.i64)):=by kernel_rfl
@[push_cast] theorem zc3:zeroCells zP 3=some [.c (.int .i64 0)]:=by kernel_rfl
@[push_cast] theorem ze3:zBl zP 3=some (.c (.int .i64 0)):=by kernel_rfl
@[push_cast] theorem sz4:szT zP 4=some 1:=by kernel_rfl
@[push_cast] theorem ag4:aggT zP 4=some false:=by kernel_rfl
@[push_cast] theorem un4:zP.underlying 4=some (Go.TypeDesc.bool):=by kernel_rfl
@[push_cast] theorem zc4:zeroCells zP 4=some [.c (.bool false)]:=by kernel_rfl
@[push_cast] theorem sz5:szT zP 5=some 1:=by kernel_rfl
@[push_cast] theorem ag5:aggT zP 5=some false:=by kernel_rfl
@[push_cast] theorem un5:zP.underlying 5=some (Go.TypeDesc.int (Go.IntKind.u8)):=by kernel_rfl
@[push_cast] theorem ze5:zBl zP 5=some (.c (.int .u8 0)):=by kernel_rfl
@[push_cast] theorem sz22:szT zP 22=some 3:=by kernel_rfl
@[push_cast] theorem ag22:aggT zP 22=some true:=by kernel_rfl
@[push_cast] theorem un22:zP.underlying 22=some (Go.TypeDesc.array 3 3):=by kernel_rfl
@[push_cast] theorem zc22:zeroCells zP 22=some [.c (.int .i64 0),.c (.int .i64 0),.c (.int .i64 0)]:=by kernel_rfl
@[push_cast] theorem ia22 (x:AV) (i:Int) (H:List AO):zAj zP 22 x i H=(zCy x (i.toNat*1)).map fun v=>(0<=i/\i < 3,v):=by unfold zAj; simp only[un22,show szT zP 3=some 1 by kernel_rfl]; rfl
@[push_cast] theorem sz23:szT zP 23=some 3:=by kernel_rfl
@[push_cast] theorem ag23:aggT zP 23=some true:=by kernel_rfl
@[push_cast] theorem un23:zP.underlying 23=some (Go.TypeDesc.array 3 3):=by kernel_rfl
@[push_cast] theorem zc23:zeroCells zP 23=some [.c (.int .i64 0),.c (.int .i64 0),.c (.int .i64 0)]:=by kernel_rfl
@[push_cast] theorem ia23 (x:AV) (i:Int) (H:List AO):zAj zP 23 x i H=(zCy x (i.toNat*1)).map fun v=>(0<=i/\i < 3,v):=by unfold zAj; simp only[un23,show szT zP 3=some 1 by kernel_rfl]; rfl
@[push_cast] theorem sz24:szT zP 24=some 1:=by kernel_rfl
@[push_cast] theorem ag24:aggT zP 24=some false:=by kernel_rfl
@[push_cast] theorem un24:zP.underlying 24=some (Go.TypeDesc.slice 96):=by kernel_rfl
@[push_cast] theorem ia24s (id st len cap:Nat) (i:Int) (H:List AO):zAj zP 24 (.sl id st len cap) i H=(match H[id]? with | some (.arr sz es)=>if sz=4 then some (0<=i/\i < (len:Int),.eptr id (st+i.toNat) 0) else none | _=>none):=by unfold zAj; simp only[un24,show szT zP 96=some 4 by kernel_rfl]; rfl
@[push_cast] theorem sz26:szT zP 26=some 8:=by kernel_rfl
@[push_cast] theorem ag26:aggT zP 26=some true:=by kernel_rfl
@[push_cast] theorem un26:zP.underlying 26=some (Go.TypeDesc.struct #[{ name:= "Dims",type:=23,offset:=0,embedded:=false,tag:= "",pkgPath:= "",byteOffset:=0 },{ name:= "Boot",type:=3,offset:=3,embedded:=false,tag:= "",pkgPath:= "",byteOffset:=24 },{ name:= "Free",type:=3,offset:=4,embedded:=false,tag:= "",pkgPath:= "",byteOffset:=32 },{ name:= "Tries",type:=3,offset:=5,embedded:=false,tag:= "",pkgPath:= "",byteOffset:=40 },{ name:= "Age",type:=3,offset:=6,embedded:=false,tag:= "",pkgPath:= "",byteOffset:=48 },{ name:= "Classes",type:=24,offset:=7,embedded:=false,tag:= "",pkgPath:= "",byteOffset:=56 }]):=by kernel_rfl
@[push_cast] theorem zc26:zeroCells zP 26=some [.c (.int .i64 0),.c (.int .i64 0),.c (.int .i64 0),.c (.int .i64 0),.c (.int .i64 0),.c (.int .i64 0),.c (.int .i64 0),.c (.slice none 0 0)]:=by kernel_rfl
@[push_cast] theorem fa26:Array.all (#[{ name:= "Dims",type:=23,offset:=0,embedded:=false,tag:= "",pkgPath:= "",byteOffset:=0 },{ name:= "Boot",type:=3,offset:=3,embedded:=false,tag:= "",pkgPath:= "",byteOffset:=24 },{ name:= "Free",type:=3,offset:=4,embedded:=false,tag:= "",pkgPath:= "",byteOffset:=32 },{ name:= "Tries",type:=3,offset:=5,embedded:=false,tag:= "",pkgPath:= "",byteOffset:=40 },{ name:= "Age",type:=3,offset:=6,embedded:=false,tag:= "",pkgPath:= "",byteOffset:=48 },{ name:= "Classes",type:=24,offset:=7,embedded:=false,tag:= "",pkgPath:= "",byteOffset:=56 }]:Array Field) (fun f=>(szT zP f.type).isSome) 0 6=true:=by kernel_rfl
@[push_cast] theorem fp26_0:zAe zP #[{ name:= "Dims",type:=23,offset:=0,embedded:=false,tag:= "",pkgPath:= "",byteOffset:=0 },{ name:= "Boot",type:=3,offset:=3,embedded:=false,tag:= "",pkgPath:= "",byteOffset:=24 },{ name:= "Free",type:=3,offset:=4,embedded:=false,tag:= "",pkgPath:= "",byteOffset:=32 },{ name:= "Tries",type:=3,offset:=5,embedded:=false,tag:= "",pkgPath:= "",byteOffset:=40 },{ name:= "Age",type:=3,offset:=6,embedded:=false,tag:= "",pkgPath:= "",byteOffset:=48 },{ name:= "Classes",type:=24,offset:=7,embedded:=false,tag:= "",pkgPath:= "",byteOffset:=56 }] 0=some (0,3):=by kernel_rfl
@[push_cast] theorem fp26_1:zAe zP #[{ name:= "Dims",type:=23,offset:=0,embedded:=false,tag:= "",pkgPath:= "",byteOffset:=0 },{ name:= "Boot",type:=3,offset:=3,embedded:=false,tag:= "",pkgPath:= "",byteOffset:=24 },{ name:= "Free",type:=3,offset:=4,embedded:=false,tag:= "",pkgPath:= "",byteOffset:=32 },{ name:= "Tries",type:=3,offset:=5,embedded:=false,tag:= "",pkgPath:= "",byteOffset:=40 },{ name:= "Age",type:=3,offset:=6,embedded:=false,tag:= "",pkgPath:= "",byteOffset:=48 },{ name:= "Classes",type:=24,offset:=7,embedded:=false,tag:= "",pkgPath:= "",byteOffset:=56 }] 1=some (3,1):=by kernel_rfl
@[push_cast] theorem fp26_2:zAe zP #[{ name:= "Dims",type:=23,offset:=0,embedded:=false,tag:= "",pkgPath:= "",byteOffset:=0 },{ name:= "Boot",type:=3,offset:=3,embedded:=false,tag:= "",pkgPath:= "",byteOffset:=24 },{ name:= "Free",type:=3,offset:=4,embedded:=false,tag:= "",pkgPath:= "",byteOffset:=32 },{ name:= "Tries",type:=3,offset:=5,embedded:=false,tag:= "",pkgPath:= "",byteOffset:=40 },{ name:= "Age",type:=3,offset:=6,embedded:=false,tag:= "",pkgPath:= "",byteOffset:=48 },{ name:= "Classes",type:=24,offset:=7,embedded:=false,tag:= "",pkgPath:= "",byteOffset:=56 }] 2=some (4,1):=by kernel_rfl
@[push_cast] theorem fp26_3:zAe zP #[{ name:= "Dims",type:=23,offset:=0,embedded:=false,tag:= "",pkgPath:= "",byteOffset:=0 },{ name:= "Boot",type:=3,offset:=3,embedded:=false,tag:= "",pkgPath:= "",byteOffset:=24 },{ name:= "Free",type:=3,offset:=4,embedded:=false,tag:= "",pkgPath:= "",byteOffset:=32 },{ name:= "Tries",type:=3,offset:=5,embedded:=false,tag:= "",pkgPath:= "",byteOffset:=40 },{ name:= "Age",type:=3,offset:=6,embedded:=false,tag:= "",pkgPath:= "",byteOffset:=48 },{ name:= "Classes",type:=24,offset:=7,embedded:=false,tag:= "",pkgPath:= "",byteOffset:=56 }] 3=some (5,1):=by kernel_rfl
@[push_cast] theorem fp26_4:zAe zP #[{ name:= "Dims",type:=23,offset:=0,embedded:=false,tag:= "",pkgPath:= "",byteOffset:=0 },{ name:= "Boot",type:=3,offset:=3,embedded:=false,tag:= "",pkgPath:= "",byteOffset:=24 },{ name:= "Free",type:=3,offset:=4,embedded:=false,tag:= "",pkgPath:= "",byteOffset:=32 },{ name:= "Tries",type:=3,offset:=5,embedded:=false,tag:= "",pkgPath:= "",byteOffset:=40 },{ name:= "Age",type:=3,offset:=6,embedded:=false,tag:= "",pkgPath:= "",byteOffset:=48 },{ name:= "Classes",type:=24,offset:=7,embedded:=false,tag:= "",pkgPath:= "",byteOffset:=56 }] 4=some (6,1):=by kernel_rfl
@[push_cast] theorem fp26_5:zAe zP #[{ name:= "Dims",type:=23,offset:=0,embedded:=false,tag:= "",pkgPath:= "",byteOffset:=0 },{ name:= "Boot",type:=3,offset:=3,embedded:=false,tag:= "",pkgPath:= "",byteOffset:=24 },{ name:= "Free",type:=3,offset:=4,embedded:=false,tag:= "",pkgPath:= "",byteOffset:=32 },{ name:= "Tries",type:=3,offset:=5,embedded:=false,tag:= "",pkgPath:= "",byteOffset:=40 },{ name:= "Age",type:=3,offset:=6,embedded:=false,tag:= "",pkgPath:= "",byteOffset:=48 },{ name:= "Classes",type:=24,offset:=7,embedded:=false,tag:= "",pkgPath:= "",byteOffset:=56 }] 5=some (7,1):=by kernel_rfl
@[push_cast] theorem fo26_0:zAf zP 26 0=some 0:=by kernel_rfl
@[push_cast] theorem fo26_1:zAf zP 26 1=some 3:=by kernel_rfl
@[push_cast] theorem fo26_2:zAf zP 26 2=some 4:=by kernel_rfl
@[push_cast] theorem fo26_3:zAf zP 26 3=some 5:=by kernel_rfl
@[push_cast] theorem fo26_4:zAf zP 26 4=some 6:=by kernel_rfl
@[push_cast] theorem fo26_5:zAf zP 26 5=some 7:=by kernel_rfl
@[push_cast] theorem sz27:szT zP 27=some 1:=by kernel_rfl
@[push_cast] theorem ag27:aggT zP 27=some false:=by kernel_rfl
@[push_cast] theorem un27:zP.underlying 27=some (Go.TypeDesc.slice 50):=by kernel_rfl
@[push_cast] theorem ia27s (id st len cap:Nat) (i:Int) (H:List AO):zAj zP 27 (.sl id st len cap) i H=(match H[id]? with | some (.arr sz es)=>if sz=16 then some (0<=i/\i < (len:Int),.eptr id (st+i.toNat) 0) else none | _=>none):=by unfold zAj; simp only[un27,show szT zP 50=some 16 by kernel_rfl]; rfl
@[push_cast] theorem ls27 (id st len cap:Nat):aLen zP 27 (.sl id st len cap)=some (len:Int):=by unfold aLen; simp only[un27]
@[push_cast] theorem ln27 :aLen zP 27 (.c (.slice none 0 0))=some 0:=by unfold aLen; simp only[un27]
@[push_cast] theorem lz27 :aLen zP 27 .zs=some 0:=by unfold aLen; simp only[un27]
@[push_cast] theorem sz28:szT zP 28=some 1:=by kernel_rfl
@[push_cast] theorem ag28:aggT zP 28=some false:=by kernel_rfl
@[push_cast] theorem un28:zP.underlying 28=some (Go.TypeDesc.slice 70):=by kernel_rfl
@[push_cast] theorem sz29:szT zP 29=some 1:=by kernel_rfl
@[push_cast] theorem ag29:aggT zP 29=some false:=by kernel_rfl
@[push_cast] theorem un29:zP.underlying 29=some (Go.TypeDesc.slice 72):=by kernel_rfl
@[push_cast] theorem sz30:szT zP 30=some 1:=by kernel_rfl
@[push_cast] theorem ag30:aggT zP 30=some false:=by kernel_rfl
@[push_cast] theorem un30:zP.underlying 30=some (Go.TypeDesc.slice 3):=by kernel_rfl
@[push_cast] theorem zc30:zeroCells zP 30=some [.c (.slice none 0 0)]:=by kernel_rfl
@[push_cast] theorem ze30:zBl zP 30=some (.c (.slice none 0 0)):=by kernel_rfl
@[push_cast] theorem ia30i (l:List AV) (i:Int) (H:List AO):zAj zP 30 (.isl l) i H=some ((0<=i/\i < (l.length:Int))/\(l.getD i.toNat .un).cells.length=1,.iptr (l.getD i.toNat .un).cells 0):=by unfold zAj; simp only[un30,show szT zP 3=some 1 by kernel_rfl]
@[push_cast] theorem ia30s (id st len cap:Nat) (i:Int) (H:List AO):zAj zP 30 (.sl id st len cap) i H=(match H[id]? with | some (.arr sz es)=>if sz=1 then some (0<=i/\i < (len:Int),.eptr id (st+i.toNat) 0) else none | _=>none):=by unfold zAj; simp only[un30,show szT zP 3=some 1 by kernel_rfl]; rfl
@[push_cast] theorem li30 (l:List AV):aLen zP 30 (.isl l)=some (l.length:Int):=by unfold aLen; simp only[un30]
@[push_cast] theorem ls30 (id st len cap:Nat):aLen zP 30 (.sl id st len cap)=some (len:Int):=by unfold aLen; simp only[un30]
@[push_cast] theorem ln30 :aLen zP 30 (.c (.slice none 0 0))=some 0:=by unfold aLen; simp only[un30]
@[push_cast] theorem sz32:szT zP 32=some 16:=by kernel_rfl
@[push_cast] theorem ag32:aggT zP 32=some true:=by kernel_rfl
@[push_cast] theorem un32:zP.underlying 32=some (Go.TypeDesc.struct #[{ name:= "Config",type:=26,offset:=0,embedded:=false,tag:= "",pkgPath:= "",byteOffset:=0 },{ name:= "Now",type:=3,offset:=8,embedded:=false,tag:= "",pkgPath:= "",byteOffset:=80 },{ name:= "Next",type:=3,offset:=9,embedded:=false,tag:= "",pkgPath:= "",byteOffset:=88 },{ name:= "Jobs",type:=27,offset:=10,embedded:=false,tag:= "",pkgPath:= "",byteOffset:=96 },{ name:= "Parts",type:=28,offset:=11,embedded:=false,tag:= "",pkgPath:= "",byteOffset:=120 },{ name:= "Keeps",type:=29,offset:=12,embedded:=false,tag:= "",pkgPath:= "",byteOffset:=144 },{ name:= "Down",type:=30,offset:=13,embedded:=false,tag:= "",pkgPath:= "",byteOffset:=168 },{ name:= "Shut",type:=30,offset:=14,embedded:=false,tag:= "",pkgPath:= "",byteOffset:=192 },{ name:= "Cut",type:=30,offset:=15,embedded:=false,tag:= "",pkgPath:= "",byteOffset:=216 }]):=by kernel_rfl
@[push_cast] theorem zc32:zeroCells zP 32=some [.c (.int .i64 0),.c (.int .i64 0),.c (.int .i64 0),.c (.int .i64 0),.c (.int .i64 0),.c (.int .i64 0),.c (.int .i64 0),.c (.slice none 0 0),.c (.int .i64 0),.c (.int .i64 0),.c (.slice none 0 0),.c (.slice none 0 0),.c (.slice none 0 0),.c (.slice none 0 0),.c (.slice none 0 0),.c (.slice none 0 0)]:=by kernel_rfl
@[push_cast] theorem fa32:Array.all (#[{ name:= "Config",type:=26,offset:=0,embedded:=false,tag:= "",pkgPath:= "",byteOffset:=0 },{ name:= "Now",type:=3,offset:=8,embedded:=false,tag:= "",pkgPath:= "",byteOffset:=80 },{ name:= "Next",type:=3,offset:=9,embedded:=false,tag:= "",pkgPath:= "",byteOffset:=88 },{ name:= "Jobs",type:=27,offset:=10,embedded:=false,tag:= "",pkgPath:= "",byteOffset:=96 },{ name:= "Parts",type:=28,offset:=11,embedded:=false,tag:= "",pkgPath:= "",byteOffset:=120 },{ name:= "Keeps",type:=29,offset:=12,embedded:=false,tag:= "",pkgPath:= "",byteOffset:=144 },{ name:= "Down",type:=30,offset:=13,embedded:=false,tag:= "",pkgPath:= "",byteOffset:=168 },{ name:= "Shut",type:=30,offset:=14,embedded:=false,tag:= "",pkgPath:= "",byteOffset:=192 },{ name:= "Cut",type:=30,offset:=15,embedded:=false,tag:= "",pkgPath:= "",byteOffset:=216 }]:Array Field) (fun f=>(szT zP f.type).isSome) 0 9=true:=by kernel_rfl
@[push_cast] theorem fp32_0:zAe zP #[{ name:= "Config",type:=26,offset:=0,embedded:=false,tag:= "",pkgPath:= "",byteOffset:=0 },{ name:= "Now",type:=3,offset:=8,embedded:=false,tag:= "",pkgPath:= "",byteOffset:=80 },{ name:= "Next",type:=3,offset:=9,embedded:=false,tag:= "",pkgPath:= "",byteOffset:=88 },{ name:= "Jobs",type:=27,offset:=10,embedded:=false,tag:= "",pkgPath:= "",byteOffset:=96 },{ name:= "Parts",type:=28,offset:=11,embedded:=false,tag:= "",pkgPath:= "",byteOffset:=120 },{ name:= "Keeps",type:=29,offset:=12,embedded:=false,tag:= "",pkgPath:= "",byteOffset:=144 },{ name:= "Down",type:=30,offset:=13,embedded:=false,tag:= "",pkgPath:= "",byteOffset:=168 },{ name:= "Shut",type:=30,offset:=14,embedded:=false,tag:= "",pkgPath:= "",byteOffset:=192 },{ name:= "Cut",type:=30,offset:=15,embedded:=false,tag:= "",pkgPath:= "",byteOffset:=216 }] 0=some (0,8):=by kernel_rfl
@[push_cast] theorem fp32_1:zAe zP #[{ name:= "Config",type:=26,offset:=0,embedded:=false,tag:= "",pkgPath:= "",byteOffset:=0 },{ name:= "Now",type:=3,offset:=8,embedded:=false,tag:= "",pkgPath:= "",byteOffset:=80 },{ name:= "Next",type:=3,offset:=9,embedded:=false,tag:= "",pkgPath:= "",byteOffset:=88 },{ name:= "Jobs",type:=27,offset:=10,embedded:=false,tag:= "",pkgPath:= "",byteOffset:=96 },{ name:= "Parts",type:=28,offset:=11,embedded:=false,tag:= "",pkgPath:= "",byteOffset:=120 },{ name:= "Keeps",type:=29,offset:=12,embedded:=false,tag:= "",pkgPath:= "",byteOffset:=144 },{ name:= "Down",type:=30,offset:=13,embedded:=false,tag:= "",pkgPath:= "",byteOffset:=168 },{ name:= "Shut",type:=30,offset:=14,embedded:=false,tag:= "",pkgPath:= "",byteOffset:=192 },{ name:= "Cut",type:=30,offset:=15,embedded:=false,tag:= "",pkgPath:= "",byteOffset:=216 }] 1=some (8,1):=by kernel_rfl
@[push_cast] theorem fp32_2:zAe zP #[{ name:= "Config",type:=26,offset:=0,embedded:=false,tag:= "",pkgPath:= "",byteOffset:=0 },{ name:= "Now",type:=3,offset:=8,embedded:=false,tag:= "",pkgPath:= "",byteOffset:=80 },{ name:= "Next",type:=3,offset:=9,embedded:=false,tag:= "",pkgPath:= "",byteOffset:=88 },{ name:= "Jobs",type:=27,offset:=10,embedded:=false,tag:= "",pkgPath:= "",byteOffset:=96 },{ name:= "Parts",type:=28,offset:=11,embedded:=false,tag:= "",pkgPath:= "",byteOffset:=120 },{ name:= "Keeps",type:=29,offset:=12,embedded:=false,tag:= "",pkgPath:= "",byteOffset:=144 },{ name:= "Down",type:=30,offset:=13,embedded:=false,tag:= "",pkgPath:= "",byteOffset:=168 },{ name:= "Shut",type:=30,offset:=14,embedded:=false,tag:= "",pkgPath:= "",byteOffset:=192 },{ name:= "Cut",type:=30,offset:=15,embedded:=false,tag:= "",pkgPath:= "",byteOffset:=216 }] 2=some (9,1):=by kernel_rfl
@[push_cast] theorem fp32_3:zAe zP #[{ name:= "Config",type:=26,offset:=0,embedded:=false,tag:= "",pkgPath:= "",byteOffset:=0 },{ name:= "Now",type:=3,offset:=8,embedded:=false,tag:= "",pkgPath:= "",byteOffset:=80 },{ name:= "Next",type:=3,offset:=9,embedded:=false,tag:= "",pkgPath:= "",byteOffset:=88 },{ name:= "Jobs",type:=27,offset:=10,embedded:=false,tag:= "",pkgPath:= "",byteOffset:=96 },{ name:= "Parts",type:=28,offset:=11,embedded:=false,tag:= "",pkgPath:= "",byteOffset:=120 },{ name:= "Keeps",type:=29,offset:=12,embedded:=false,tag:= "",pkgPath:= "",byteOffset:=144 },{ name:= "Down",type:=30,offset:=13,embedded:=false,tag:= "",pkgPath:= "",byteOffset:=168 },{ name:= "Shut",type:=30,offset:=14,embedded:=false,tag:= "",pkgPath:= "",byteOffset:=192 },{ name:= "Cut",type:=30,offset:=15,embedded:=false,tag:= "",pkgPath:= "",byteOffset:=216 }] 3=some (10,1):=by kernel_rfl
@[push_cast] theorem fp32_4:zAe zP #[{ name:= "Config",type:=26,offset:=0,embedded:=false,tag:= "",pkgPath:= "",byteOffset:=0 },{ name:= "Now",type:=3,offset:=8,embedded:=false,tag:= "",pkgPath:= "",byteOffset:=80 },{ name:= "Next",type:=3,offset:=9,embedded:=false,tag:= "",pkgPath:= "",byteOffset:=88 },{ name:= "Jobs",type:=27,offset:=10,embedded:=false,tag:= "",pkgPath:= "",byteOffset:=96 },{ name:= "Parts",type:=28,offset:=11,embedded:=false,tag:= "",pkgPath:= "",byteOffset:=120 },{ name:= "Keeps",type:=29,offset:=12,embedded:=false,tag:= "",pkgPath:= "",byteOffset:=144 },{ name:= "Down",type:=30,offset:=13,embedded:=false,tag:= "",pkgPath:= "",byteOffset:=168 },{ name:= "Shut",type:=30,offset:=14,embedded:=false,tag:= "",pkgPath:= "",byteOffset:=192 },{ name:= "Cut",type:=30,offset:=15,embedded:=false,tag:= "",pkgPath:= "",byteOffset:=216 }] 4=some (11,1):=by kernel_rfl
@[push_cast] theorem fp32_7:zAe zP #[{ name:= "Config",type:=26,offset:=0,embedded:=false,tag:= "",pkgPath:= "",byteOffset:=0 },{ name:= "Now",type:=3,offset:=8,embedded:=false,tag:= "",pkgPath:= "",byteOffset:=80 },{ name:= "Next",type:=3,offset:=9,embedded:=false,tag:= "",pkgPath:= "",byteOffset:=88 },{ name:= "Jobs",type:=27,offset:=10,embedded:=false,tag:= "",pkgPath:= "",byteOffset:=96 },{ name:= "Parts",type:=28,offset:=11,embedded:=false,tag:= "",pkgPath:= "",byteOffset:=120 },{ name:= "Keeps",type:=29,offset:=12,embedded:=false,tag:= "",pkgPath:= "",byteOffset:=144 },{ name:= "Down",type:=30,offset:=13,embedded:=false,tag:= "",pkgPath:= "",byteOffset:=168 },{ name:= "Shut",type:=30,offset:=14,embedded:=false,tag:= "",pkgPath:= "",byteOffset:=192 },{ name:= "Cut",type:=30,offset:=15,embedded:=false,tag:= "",pkgPath:= "",byteOffset:=216 }] 7=some (14,1):=by kernel_rfl
@[push_cast] theorem fo32_0:zAf zP 32 0=some 0:=by kernel_rfl
@[push_cast] theorem fo32_1:zAf zP 32 1=some 8:=by kernel_rfl
@[push_cast] theorem fo32_2:zAf zP 32 2=some 9:=by kernel_rfl
@[push_cast] theorem fo32_3:zAf zP 32 3=some 10:=by kernel_rfl
@[push_cast] theorem fo32_4:zAf zP 32 4=some 11:=by kernel_rfl
@[push_cast] theorem fo32_5:zAf zP 32 5=some 12:=by kernel_rfl
@[push_cast] theorem fo32_6:zAf zP 32 6=some 13:=by kernel_rfl
@[push_cast] theorem fo32_7:zAf zP 32 7=some 14:=by kernel_rfl
@[push_cast] theorem fo32_8:zAf zP 32 8=some 15:=by kernel_rfl
@[push_cast] theorem sz33:szT zP 33=some 1:=by kernel_rfl
@[push_cast] theorem ag33:aggT zP 33=some false:=by kernel_rfl
@[push_cast] theorem ze33:zBl zP 33=some (.c .nilFunc):=by kernel_rfl
@[push_cast] theorem sz36:szT zP 36=some 6:=by kernel_rfl
@[push_cast] theorem ag36:aggT zP 36=some true:=by kernel_rfl
@[push_cast] theorem un36:zP.underlying 36=some (Go.TypeDesc.struct #[{ name:= "Base",type:=22,offset:=0,embedded:=false,tag:= "",pkgPath:= "",byteOffset:=0 },{ name:= "Size",type:=22,offset:=3,embedded:=false,tag:= "",pkgPath:= "",byteOffset:=24 }]):=by kernel_rfl
@[push_cast] theorem zc36:zeroCells zP 36=some [.c (.int .i64 0),.c (.int .i64 0),.c (.int .i64 0),.c (.int .i64 0),.c (.int .i64 0),.c (.int .i64 0)]:=by kernel_rfl
@[push_cast] theorem fa36:Array.all (#[{ name:= "Base",type:=22,offset:=0,embedded:=false,tag:= "",pkgPath:= "",byteOffset:=0 },{ name:= "Size",type:=22,offset:=3,embedded:=false,tag:= "",pkgPath:= "",byteOffset:=24 }]:Array Field) (fun f=>(szT zP f.type).isSome) 0 2=true:=by kernel_rfl
@[push_cast] theorem fp36_0:zAe zP #[{ name:= "Base",type:=22,offset:=0,embedded:=false,tag:= "",pkgPath:= "",byteOffset:=0 },{ name:= "Size",type:=22,offset:=3,embedded:=false,tag:= "",pkgPath:= "",byteOffset:=24 }] 0=some (0,3):=by kernel_rfl
@[push_cast] theorem fp36_1:zAe zP #[{ name:= "Base",type:=22,offset:=0,embedded:=false,tag:= "",pkgPath:= "",byteOffset:=0 },{ name:= "Size",type:=22,offset:=3,embedded:=false,tag:= "",pkgPath:= "",byteOffset:=24 }] 1=some (3,3):=by kernel_rfl
@[push_cast] theorem fo36_0:zAf zP 36 0=some 0:=by kernel_rfl
@[push_cast] theorem fo36_1:zAf zP 36 1=some 3:=by kernel_rfl
@[push_cast] theorem sz37:szT zP 37=some 3:=by kernel_rfl
@[push_cast] theorem ag37:aggT zP 37=some true:=by kernel_rfl
@[push_cast] theorem un37:zP.underlying 37=some (Go.TypeDesc.array 3 4):=by kernel_rfl
@[push_cast] theorem zc37:zeroCells zP 37=some [.c (.bool false),.c (.bool false),.c (.bool false)]:=by kernel_rfl
@[push_cast] theorem ia37 (x:AV) (i:Int) (H:List AO):zAj zP 37 x i H=(zCy x (i.toNat*1)).map fun v=>(0<=i/\i < 3,v):=by unfold zAj; simp only[un37,show szT zP 4=some 1 by kernel_rfl]; rfl
@[push_cast] theorem sz39:szT zP 39=some 9:=by kernel_rfl
@[push_cast] theorem ag39:aggT zP 39=some true:=by kernel_rfl
@[push_cast] theorem by39:zCt zP 39=some 56:=by kernel_rfl
@[push_cast] theorem un39:zP.underlying 39=some (Go.TypeDesc.struct #[{ name:= "Box",type:=36,offset:=0,embedded:=false,tag:= "",pkgPath:= "",byteOffset:=0 },{ name:= "Torus",type:=37,offset:=6,embedded:=false,tag:= "",pkgPath:= "",byteOffset:=48 }]):=by kernel_rfl
@[push_cast] theorem zc39:zeroCells zP 39=some [.c (.int .i64 0),.c (.int .i64 0),.c (.int .i64 0),.c (.int .i64 0),.c (.int .i64 0),.c (.int .i64 0),.c (.bool false),.c (.bool false),.c (.bool false)]:=by kernel_rfl
@[push_cast] theorem ze39:zBl zP 39=some (.agg [.c (.int .i64 0),.c (.int .i64 0),.c (.int .i64 0),.c (.int .i64 0),.c (.int .i64 0),.c (.int .i64 0),.c (.bool false),.c (.bool false),.c (.bool false)]):=by kernel_rfl
@[push_cast] theorem fa39:Array.all (#[{ name:= "Box",type:=36,offset:=0,embedded:=false,tag:= "",pkgPath:= "",byteOffset:=0 },{ name:= "Torus",type:=37,offset:=6,embedded:=false,tag:= "",pkgPath:= "",byteOffset:=48 }]:Array Field) (fun f=>(szT zP f.type).isSome) 0 2=true:=by kernel_rfl
@[push_cast] theorem fp39_0:zAe zP #[{ name:= "Box",type:=36,offset:=0,embedded:=false,tag:= "",pkgPath:= "",byteOffset:=0 },{ name:= "Torus",type:=37,offset:=6,embedded:=false,tag:= "",pkgPath:= "",byteOffset:=48 }] 0=some (0,6):=by kernel_rfl
@[push_cast] theorem fp39_1:zAe zP #[{ name:= "Box",type:=36,offset:=0,embedded:=false,tag:= "",pkgPath:= "",byteOffset:=0 },{ name:= "Torus",type:=37,offset:=6,embedded:=false,tag:= "",pkgPath:= "",byteOffset:=48 }] 1=some (6,3):=by kernel_rfl
@[push_cast] theorem fo39_0:zAf zP 39 0=some 0:=by kernel_rfl
@[push_cast] theorem fo39_1:zAf zP 39 1=some 6:=by kernel_rfl
@[push_cast] theorem sz41:szT zP 41=some 11:=by kernel_rfl
@[push_cast] theorem ag41:aggT zP 41=some true:=by kernel_rfl
@[push_cast] theorem un41:zP.underlying 41=some (Go.TypeDesc.struct #[{ name:= "Job",type:=3,offset:=0,embedded:=false,tag:= "",pkgPath:= "",byteOffset:=0 },{ name:= "At",type:=3,offset:=1,embedded:=false,tag:= "",pkgPath:= "",byteOffset:=8 },{ name:= "Place",type:=39,offset:=2,embedded:=false,tag:= "",pkgPath:= "",byteOffset:=16 }]):=by kernel_rfl
@[push_cast] theorem zc41:zeroCells zP 41=some [.c (.int .i64 0),.c (.int .i64 0),.c (.int .i64 0),.c (.int .i64 0),.c (.int .i64 0),.c (.int .i64 0),.c (.int .i64 0),.c (.int .i64 0),.c (.bool false),.c (.bool false),.c (.bool false)]:=by kernel_rfl
@[push_cast] theorem fa41:Array.all (#[{ name:= "Job",type:=3,offset:=0,embedded:=false,tag:= "",pkgPath:= "",byteOffset:=0 },{ name:= "At",type:=3,offset:=1,embedded:=false,tag:= "",pkgPath:= "",byteOffset:=8 },{ name:= "Place",type:=39,offset:=2,embedded:=false,tag:= "",pkgPath:= "",byteOffset:=16 }]:Array Field) (fun f=>(szT zP f.type).isSome) 0 3=true:=by kernel_rfl
@[push_cast] theorem fp41_0:zAe zP #[{ name:= "Job",type:=3,offset:=0,embedded:=false,tag:= "",pkgPath:= "",byteOffset:=0 },{ name:= "At",type:=3,offset:=1,embedded:=false,tag:= "",pkgPath:= "",byteOffset:=8 },{ name:= "Place",type:=39,offset:=2,embedded:=false,tag:= "",pkgPath:= "",byteOffset:=16 }] 0=some (0,1):=by kernel_rfl
@[push_cast] theorem fp41_1:zAe zP #[{ name:= "Job",type:=3,offset:=0,embedded:=false,tag:= "",pkgPath:= "",byteOffset:=0 },{ name:= "At",type:=3,offset:=1,embedded:=false,tag:= "",pkgPath:= "",byteOffset:=8 },{ name:= "Place",type:=39,offset:=2,embedded:=false,tag:= "",pkgPath:= "",byteOffset:=16 }] 1=some (1,1):=by kernel_rfl
@[push_cast] theorem fp41_2:zAe zP #[{ name:= "Job",type:=3,offset:=0,embedded:=false,tag:= "",pkgPath:= "",byteOffset:=0 },{ name:= "At",type:=3,offset:=1,embedded:=false,tag:= "",pkgPath:= "",byteOffset:=8 },{ name:= "Place",type:=39,offset:=2,embedded:=false,tag:= "",pkgPath:= "",byteOffset:=16 }] 2=some (2,9):=by kernel_rfl
@[push_cast] theorem fo41_0:zAf zP 41 0=some 0:=by kernel_rfl
@[push_cast] theorem fo41_1:zAf zP 41 1=some 1:=by kernel_rfl
@[push_cast] theorem fo41_2:zAf zP 41 2=some 2:=by kernel_rfl
@[push_cast] theorem sz42:szT zP 42=some 1:=by kernel_rfl
@[push_cast] theorem ag42:aggT zP 42=some false:=by kernel_rfl
@[push_cast] theorem zc42:zeroCells zP 42=some [.c (.int .i64 0)]:=by kernel_rfl
@[push_cast] theorem sz48:szT zP 48=some 7:=by kernel_rfl
@[push_cast] theorem ag48:aggT zP 48=some true:=by kernel_rfl
@[push_cast] theorem by48:zCt zP 48=some 32:=by kernel_rfl
@[push_cast] theorem un48:zP.underlying 48=some (Go.TypeDesc.struct #[{ name:= "Shape",type:=22,offset:=0,embedded:=false,tag:= "",pkgPath:= "",byteOffset:=0 },{ name:= "Torus",type:=37,offset:=3,embedded:=false,tag:= "",pkgPath:= "",byteOffset:=24 },{ name:= "Turn",type:=4,offset:=6,embedded:=false,tag:= "",pkgPath:= "",byteOffset:=27 }]):=by kernel_rfl
@[push_cast] theorem zc48:zeroCells zP 48=some [.c (.int .i64 0),.c (.int .i64 0),.c (.int .i64 0),.c (.bool false),.c (.bool false),.c (.bool false),.c (.bool false)]:=by kernel_rfl
@[push_cast] theorem ze48:zBl zP 48=some (.agg [.c (.int .i64 0),.c (.int .i64 0),.c (.int .i64 0),.c (.bool false),.c (.bool false),.c (.bool false),.c (.bool false)]):=by kernel_rfl
@[push_cast] theorem fa48:Array.all (#[{ name:= "Shape",type:=22,offset:=0,embedded:=false,tag:= "",pkgPath:= "",byteOffset:=0 },{ name:= "Torus",type:=37,offset:=3,embedded:=false,tag:= "",pkgPath:= "",byteOffset:=24 },{ name:= "Turn",type:=4,offset:=6,embedded:=false,tag:= "",pkgPath:= "",byteOffset:=27 }]:Array Field) (fun f=>(szT zP f.type).isSome) 0 3=true:=by kernel_rfl
@[push_cast] theorem fp48_0:zAe zP #[{ name:= "Shape",type:=22,offset:=0,embedded:=false,tag:= "",pkgPath:= "",byteOffset:=0 },{ name:= "Torus",type:=37,offset:=3,embedded:=false,tag:= "",pkgPath:= "",byteOffset:=24 },{ name:= "Turn",type:=4,offset:=6,embedded:=false,tag:= "",pkgPath:= "",byteOffset:=27 }] 0=some (0,3):=by kernel_rfl
@[push_cast] theorem fo48_0:zAf zP 48 0=some 0:=by kernel_rfl
@[push_cast] theorem fo48_1:zAf zP 48 1=some 3:=by kernel_rfl
@[push_cast] theorem fo48_2:zAf zP 48 2=some 6:=by kernel_rfl
@[push_cast] theorem sz50:szT zP 50=some 16:=by kernel_rfl
@[push_cast] theorem ag50:aggT zP 50=some true:=by kernel_rfl
@[push_cast] theorem by50:zCt zP 50=some 120:=by kernel_rfl
@[push_cast] theorem un50:zP.underlying 50=some (Go.TypeDesc.struct #[{ name:= "Id",type:=3,offset:=0,embedded:=false,tag:= "",pkgPath:= "",byteOffset:=0 },{ name:= "User",type:=3,offset:=1,embedded:=false,tag:= "",pkgPath:= "",byteOffset:=8 },{ name:= "Class",type:=3,offset:=2,embedded:=false,tag:= "",pkgPath:= "",byteOffset:=16 },{ name:= "Wants",type:=48,offset:=3,embedded:=false,tag:= "",pkgPath:= "",byteOffset:=24 },{ name:= "Wall",type:=3,offset:=10,embedded:=false,tag:= "",pkgPath:= "",byteOffset:=56 },{ name:= "Prio",type:=3,offset:=11,embedded:=false,tag:= "",pkgPath:= "",byteOffset:=64 },{ name:= "Held",type:=4,offset:=12,embedded:=false,tag:= "",pkgPath:= "",byteOffset:=72 },{ name:= "After",type:=30,offset:=13,embedded:=false,tag:= "",pkgPath:= "",byteOffset:=80 },{ name:= "State",type:=5,offset:=14,embedded:=false,tag:= "",pkgPath:= "",byteOffset:=104 },{ name:= "Came",type:=3,offset:=15,embedded:=false,tag:= "",pkgPath:= "",byteOffset:=112 }]):=by kernel_rfl
@[push_cast] theorem zc50:zeroCells zP 50=some [.c (.int .i64 0),.c (.int .i64 0),.c (.int .i64 0),.c (.int .i64 0),.c (.int .i64 0),.c (.int .i64 0),.c (.bool false),.c (.bool false),.c (.bool false),.c (.bool false),.c (.int .i64 0),.c (.int .i64 0),.c (.bool false),.c (.slice none 0 0),.c (.int .u8 0),.c (.int .i64 0)]:=by kernel_rfl
@[push_cast] theorem ze50:zBl zP 50=some (.agg [.c (.int .i64 0),.c (.int .i64 0),.c (.int .i64 0),.c (.int .i64 0),.c (.int .i64 0),.c (.int .i64 0),.c (.bool false),.c (.bool false),.c (.bool false),.c (.bool false),.c (.int .i64 0),.c (.int .i64 0),.c (.bool false),.c (.slice none 0 0),.c (.int .u8 0),.c (.int .i64 0)]):=by kernel_rfl
@[push_cast] theorem fa50:Array.all (#[{ name:= "Id",type:=3,offset:=0,embedded:=false,tag:= "",pkgPath:= "",byteOffset:=0 },{ name:= "User",type:=3,offset:=1,embedded:=false,tag:= "",pkgPath:= "",byteOffset:=8 },{ name:= "Class",type:=3,offset:=2,embedded:=false,tag:= "",pkgPath:= "",byteOffset:=16 },{ name:= "Wants",type:=48,offset:=3,embedded:=false,tag:= "",pkgPath:= "",byteOffset:=24 },{ name:= "Wall",type:=3,offset:=10,embedded:=false,tag:= "",pkgPath:= "",byteOffset:=56 },{ name:= "Prio",type:=3,offset:=11,embedded:=false,tag:= "",pkgPath:= "",byteOffset:=64 },{ name:= "Held",type:=4,offset:=12,embedded:=false,tag:= "",pkgPath:= "",byteOffset:=72 },{ name:= "After",type:=30,offset:=13,embedded:=false,tag:= "",pkgPath:= "",byteOffset:=80 },{ name:= "State",type:=5,offset:=14,embedded:=false,tag:= "",pkgPath:= "",byteOffset:=104 },{ name:= "Came",type:=3,offset:=15,embedded:=false,tag:= "",pkgPath:= "",byteOffset:=112 }]:Array Field) (fun f=>(szT zP f.type).isSome) 0 10=true:=by kernel_rfl
@[push_cast] theorem fp50_0:zAe zP #[{ name:= "Id",type:=3,offset:=0,embedded:=false,tag:= "",pkgPath:= "",byteOffset:=0 },{ name:= "User",type:=3,offset:=1,embedded:=false,tag:= "",pkgPath:= "",byteOffset:=8 },{ name:= "Class",type:=3,offset:=2,embedded:=false,tag:= "",pkgPath:= "",byteOffset:=16 },{ name:= "Wants",type:=48,offset:=3,embedded:=false,tag:= "",pkgPath:= "",byteOffset:=24 },{ name:= "Wall",type:=3,offset:=10,embedded:=false,tag:= "",pkgPath:= "",byteOffset:=56 },{ name:= "Prio",type:=3,offset:=11,embedded:=false,tag:= "",pkgPath:= "",byteOffset:=64 },{ name:= "Held",type:=4,offset:=12,embedded:=false,tag:= "",pkgPath:= "",byteOffset:=72 },{ name:= "After",type:=30,offset:=13,embedded:=false,tag:= "",pkgPath:= "",byteOffset:=80 },{ name:= "State",type:=5,offset:=14,embedded:=false,tag:= "",pkgPath:= "",byteOffset:=104 },{ name:= "Came",type:=3,offset:=15,embedded:=false,tag:= "",pkgPath:= "",byteOffset:=112 }] 0=some (0,1):=by kernel_rfl
@[push_cast] theorem fp50_1:zAe zP #[{ name:= "Id",type:=3,offset:=0,embedded:=false,tag:= "",pkgPath:= "",byteOffset:=0 },{ name:= "User",type:=3,offset:=1,embedded:=false,tag:= "",pkgPath:= "",byteOffset:=8 },{ name:= "Class",type:=3,offset:=2,embedded:=false,tag:= "",pkgPath:= "",byteOffset:=16 },{ name:= "Wants",type:=48,offset:=3,embedded:=false,tag:= "",pkgPath:= "",byteOffset:=24 },{ name:= "Wall",type:=3,offset:=10,embedded:=false,tag:= "",pkgPath:= "",byteOffset:=56 },{ name:= "Prio",type:=3,offset:=11,embedded:=false,tag:= "",pkgPath:= "",byteOffset:=64 },{ name:= "Held",type:=4,offset:=12,embedded:=false,tag:= "",pkgPath:= "",byteOffset:=72 },{ name:= "After",type:=30,offset:=13,embedded:=false,tag:= "",pkgPath:= "",byteOffset:=80 },{ name:= "State",type:=5,offset:=14,embedded:=false,tag:= "",pkgPath:= "",byteOffset:=104 },{ name:= "Came",type:=3,offset:=15,embedded:=false,tag:= "",pkgPath:= "",byteOffset:=112 }] 1=some (1,1):=by kernel_rfl
@[push_cast] theorem fp50_3:zAe zP #[{ name:= "Id",type:=3,offset:=0,embedded:=false,tag:= "",pkgPath:= "",byteOffset:=0 },{ name:= "User",type:=3,offset:=1,embedded:=false,tag:= "",pkgPath:= "",byteOffset:=8 },{ name:= "Class",type:=3,offset:=2,embedded:=false,tag:= "",pkgPath:= "",byteOffset:=16 },{ name:= "Wants",type:=48,offset:=3,embedded:=false,tag:= "",pkgPath:= "",byteOffset:=24 },{ name:= "Wall",type:=3,offset:=10,embedded:=false,tag:= "",pkgPath:= "",byteOffset:=56 },{ name:= "Prio",type:=3,offset:=11,embedded:=false,tag:= "",pkgPath:= "",byteOffset:=64 },{ name:= "Held",type:=4,offset:=12,embedded:=false,tag:= "",pkgPath:= "",byteOffset:=72 },{ name:= "After",type:=30,offset:=13,embedded:=false,tag:= "",pkgPath:= "",byteOffset:=80 },{ name:= "State",type:=5,offset:=14,embedded:=false,tag:= "",pkgPath:= "",byteOffset:=104 },{ name:= "Came",type:=3,offset:=15,embedded:=false,tag:= "",pkgPath:= "",byteOffset:=112 }] 3=some (3,7):=by kernel_rfl
@[push_cast] theorem fp50_4:zAe zP #[{ name:= "Id",type:=3,offset:=0,embedded:=false,tag:= "",pkgPath:= "",byteOffset:=0 },{ name:= "User",type:=3,offset:=1,embedded:=false,tag:= "",pkgPath:= "",byteOffset:=8 },{ name:= "Class",type:=3,offset:=2,embedded:=false,tag:= "",pkgPath:= "",byteOffset:=16 },{ name:= "Wants",type:=48,offset:=3,embedded:=false,tag:= "",pkgPath:= "",byteOffset:=24 },{ name:= "Wall",type:=3,offset:=10,embedded:=false,tag:= "",pkgPath:= "",byteOffset:=56 },{ name:= "Prio",type:=3,offset:=11,embedded:=false,tag:= "",pkgPath:= "",byteOffset:=64 },{ name:= "Held",type:=4,offset:=12,embedded:=false,tag:= "",pkgPath:= "",byteOffset:=72 },{ name:= "After",type:=30,offset:=13,embedded:=false,tag:= "",pkgPath:= "",byteOffset:=80 },{ name:= "State",type:=5,offset:=14,embedded:=false,tag:= "",pkgPath:= "",byteOffset:=104 },{ name:= "Came",type:=3,offset:=15,embedded:=false,tag:= "",pkgPath:= "",byteOffset:=112 }] 4=some (10,1):=by kernel_rfl
@[push_cast] theorem fp50_8:zAe zP #[{ name:= "Id",type:=3,offset:=0,embedded:=false,tag:= "",pkgPath:= "",byteOffset:=0 },{ name:= "User",type:=3,offset:=1,embedded:=false,tag:= "",pkgPath:= "",byteOffset:=8 },{ name:= "Class",type:=3,offset:=2,embedded:=false,tag:= "",pkgPath:= "",byteOffset:=16 },{ name:= "Wants",type:=48,offset:=3,embedded:=false,tag:= "",pkgPath:= "",byteOffset:=24 },{ name:= "Wall",type:=3,offset:=10,embedded:=false,tag:= "",pkgPath:= "",byteOffset:=56 },{ name:= "Prio",type:=3,offset:=11,embedded:=false,tag:= "",pkgPath:= "",byteOffset:=64 },{ name:= "Held",type:=4,offset:=12,embedded:=false,tag:= "",pkgPath:= "",byteOffset:=72 },{ name:= "After",type:=30,offset:=13,embedded:=false,tag:= "",pkgPath:= "",byteOffset:=80 },{ name:= "State",type:=5,offset:=14,embedded:=false,tag:= "",pkgPath:= "",byteOffset:=104 },{ name:= "Came",type:=3,offset:=15,embedded:=false,tag:= "",pkgPath:= "",byteOffset:=112 }] 8=some (14,1):=by kernel_rfl
@[push_cast] theorem fo50_0:zAf zP 50 0=some 0:=by kernel_rfl
@[push_cast] theorem fo50_1:zAf zP 50 1=some 1:=by kernel_rfl
@[push_cast] theorem fo50_2:zAf zP 50 2=some 2:=by kernel_rfl
@[push_cast] theorem fo50_3:zAf zP 50 3=some 3:=by kernel_rfl
@[push_cast] theorem fo50_4:zAf zP 50 4=some 10:=by kernel_rfl
@[push_cast] theorem fo50_5:zAf zP 50 5=some 11:=by kernel_rfl
@[push_cast] theorem fo50_6:zAf zP 50 6=some 12:=by kernel_rfl
@[push_cast] theorem fo50_7:zAf zP 50 7=some 13:=by kernel_rfl
@[push_cast] theorem fo50_8:zAf zP 50 8=some 14:=by kernel_rfl
@[push_cast] theorem fo50_9:zAf zP 50 9=some 15:=by kernel_rfl
@[push_cast] theorem sz59:szT zP 59=some 2:=by kernel_rfl
@[push_cast] theorem ag59:aggT zP 59=some true:=by kernel_rfl
@[push_cast] theorem un59:zP.underlying 59=some (Go.TypeDesc.struct #[{ name:= "From",type:=3,offset:=0,embedded:=false,tag:= "",pkgPath:= "",byteOffset:=0 },{ name:= "To",type:=3,offset:=1,embedded:=false,tag:= "",pkgPath:= "",byteOffset:=8 }]):=by kernel_rfl
@[push_cast] theorem zc59:zeroCells zP 59=some [.c (.int .i64 0),.c (.int .i64 0)]:=by kernel_rfl
@[push_cast] theorem fa59:Array.all (#[{ name:= "From",type:=3,offset:=0,embedded:=false,tag:= "",pkgPath:= "",byteOffset:=0 },{ name:= "To",type:=3,offset:=1,embedded:=false,tag:= "",pkgPath:= "",byteOffset:=8 }]:Array Field) (fun f=>(szT zP f.type).isSome) 0 2=true:=by kernel_rfl
@[push_cast] theorem fp59_0:zAe zP #[{ name:= "From",type:=3,offset:=0,embedded:=false,tag:= "",pkgPath:= "",byteOffset:=0 },{ name:= "To",type:=3,offset:=1,embedded:=false,tag:= "",pkgPath:= "",byteOffset:=8 }] 0=some (0,1):=by kernel_rfl
@[push_cast] theorem fp59_1:zAe zP #[{ name:= "From",type:=3,offset:=0,embedded:=false,tag:= "",pkgPath:= "",byteOffset:=0 },{ name:= "To",type:=3,offset:=1,embedded:=false,tag:= "",pkgPath:= "",byteOffset:=8 }] 1=some (1,1):=by kernel_rfl
@[push_cast] theorem fo59_0:zAf zP 59 0=some 0:=by kernel_rfl
@[push_cast] theorem fo59_1:zAf zP 59 1=some 1:=by kernel_rfl
@[push_cast] theorem sz64:szT zP 64=some 1:=by kernel_rfl
@[push_cast] theorem ag64:aggT zP 64=some false:=by kernel_rfl
@[push_cast] theorem un64:zP.underlying 64=some (Go.TypeDesc.slice 116):=by kernel_rfl
@[push_cast] theorem ze64:zBl zP 64=some (.c (.slice none 0 0)):=by kernel_rfl
@[push_cast] theorem ia64i (l:List AV) (i:Int) (H:List AO):zAj zP 64 (.isl l) i H=some ((0<=i/\i < (l.length:Int))/\(l.getD i.toNat .un).cells.length=1,.iptr (l.getD i.toNat .un).cells 0):=by unfold zAj; simp only[un64,show szT zP 116=some 1 by kernel_rfl]
@[push_cast] theorem ia64s (id st len cap:Nat) (i:Int) (H:List AO):zAj zP 64 (.sl id st len cap) i H=(match H[id]? with | some (.arr sz es)=>if sz=1 then some (0<=i/\i < (len:Int),.eptr id (st+i.toNat) 0) else none | _=>none):=by unfold zAj; simp only[un64,show szT zP 116=some 1 by kernel_rfl]; rfl
@[push_cast] theorem li64 (l:List AV):aLen zP 64 (.isl l)=some (l.length:Int):=by unfold aLen; simp only[un64]
@[push_cast] theorem ln64 :aLen zP 64 (.c (.slice none 0 0))=some 0:=by unfold aLen; simp only[un64]
@[push_cast] theorem sz70:szT zP 70=some 13:=by kernel_rfl
@[push_cast] theorem ag70:aggT zP 70=some true:=by kernel_rfl
@[push_cast] theorem un70:zP.underlying 70=some (Go.TypeDesc.struct #[{ name:= "Job",type:=3,offset:=0,embedded:=false,tag:= "",pkgPath:= "",byteOffset:=0 },{ name:= "Place",type:=39,offset:=1,embedded:=false,tag:= "",pkgPath:= "",byteOffset:=8 },{ name:= "Phase",type:=5,offset:=10,embedded:=false,tag:= "",pkgPath:= "",byteOffset:=64 },{ name:= "Tries",type:=3,offset:=11,embedded:=false,tag:= "",pkgPath:= "",byteOffset:=72 },{ name:= "Since",type:=3,offset:=12,embedded:=false,tag:= "",pkgPath:= "",byteOffset:=80 }]):=by kernel_rfl
@[push_cast] theorem zc70:zeroCells zP 70=some [.c (.int .i64 0),.c (.int .i64 0),.c (.int .i64 0),.c (.int .i64 0),.c (.int .i64 0),.c (.int .i64 0),.c (.int .i64 0),.c (.bool false),.c (.bool false),.c (.bool false),.c (.int .u8 0),.c (.int .i64 0),.c (.int .i64 0)]:=by kernel_rfl
@[push_cast] theorem ze70:zBl zP 70=some (.agg [.c (.int .i64 0),.c (.int .i64 0),.c (.int .i64 0),.c (.int .i64 0),.c (.int .i64 0),.c (.int .i64 0),.c (.int .i64 0),.c (.bool false),.c (.bool false),.c (.bool false),.c (.int .u8 0),.c (.int .i64 0),.c (.int .i64 0)]):=by kernel_rfl
@[push_cast] theorem fa70:Array.all (#[{ name:= "Job",type:=3,offset:=0,embedded:=false,tag:= "",pkgPath:= "",byteOffset:=0 },{ name:= "Place",type:=39,offset:=1,embedded:=false,tag:= "",pkgPath:= "",byteOffset:=8 },{ name:= "Phase",type:=5,offset:=10,embedded:=false,tag:= "",pkgPath:= "",byteOffset:=64 },{ name:= "Tries",type:=3,offset:=11,embedded:=false,tag:= "",pkgPath:= "",byteOffset:=72 },{ name:= "Since",type:=3,offset:=12,embedded:=false,tag:= "",pkgPath:= "",byteOffset:=80 }]:Array Field) (fun f=>(szT zP f.type).isSome) 0 5=true:=by kernel_rfl
@[push_cast] theorem fp70_0:zAe zP #[{ name:= "Job",type:=3,offset:=0,embedded:=false,tag:= "",pkgPath:= "",byteOffset:=0 },{ name:= "Place",type:=39,offset:=1,embedded:=false,tag:= "",pkgPath:= "",byteOffset:=8 },{ name:= "Phase",type:=5,offset:=10,embedded:=false,tag:= "",pkgPath:= "",byteOffset:=64 },{ name:= "Tries",type:=3,offset:=11,embedded:=false,tag:= "",pkgPath:= "",byteOffset:=72 },{ name:= "Since",type:=3,offset:=12,embedded:=false,tag:= "",pkgPath:= "",byteOffset:=80 }] 0=some (0,1):=by kernel_rfl
@[push_cast] theorem fp70_1:zAe zP #[{ name:= "Job",type:=3,offset:=0,embedded:=false,tag:= "",pkgPath:= "",byteOffset:=0 },{ name:= "Place",type:=39,offset:=1,embedded:=false,tag:= "",pkgPath:= "",byteOffset:=8 },{ name:= "Phase",type:=5,offset:=10,embedded:=false,tag:= "",pkgPath:= "",byteOffset:=64 },{ name:= "Tries",type:=3,offset:=11,embedded:=false,tag:= "",pkgPath:= "",byteOffset:=72 },{ name:= "Since",type:=3,offset:=12,embedded:=false,tag:= "",pkgPath:= "",byteOffset:=80 }] 1=some (1,9):=by kernel_rfl
@[push_cast] theorem fp70_2:zAe zP #[{ name:= "Job",type:=3,offset:=0,embedded:=false,tag:= "",pkgPath:= "",byteOffset:=0 },{ name:= "Place",type:=39,offset:=1,embedded:=false,tag:= "",pkgPath:= "",byteOffset:=8 },{ name:= "Phase",type:=5,offset:=10,embedded:=false,tag:= "",pkgPath:= "",byteOffset:=64 },{ name:= "Tries",type:=3,offset:=11,embedded:=false,tag:= "",pkgPath:= "",byteOffset:=72 },{ name:= "Since",type:=3,offset:=12,embedded:=false,tag:= "",pkgPath:= "",byteOffset:=80 }] 2=some (10,1):=by kernel_rfl
@[push_cast] theorem fp70_3:zAe zP #[{ name:= "Job",type:=3,offset:=0,embedded:=false,tag:= "",pkgPath:= "",byteOffset:=0 },{ name:= "Place",type:=39,offset:=1,embedded:=false,tag:= "",pkgPath:= "",byteOffset:=8 },{ name:= "Phase",type:=5,offset:=10,embedded:=false,tag:= "",pkgPath:= "",byteOffset:=64 },{ name:= "Tries",type:=3,offset:=11,embedded:=false,tag:= "",pkgPath:= "",byteOffset:=72 },{ name:= "Since",type:=3,offset:=12,embedded:=false,tag:= "",pkgPath:= "",byteOffset:=80 }] 3=some (11,1):=by kernel_rfl
@[push_cast] theorem fp70_4:zAe zP #[{ name:= "Job",type:=3,offset:=0,embedded:=false,tag:= "",pkgPath:= "",byteOffset:=0 },{ name:= "Place",type:=39,offset:=1,embedded:=false,tag:= "",pkgPath:= "",byteOffset:=8 },{ name:= "Phase",type:=5,offset:=10,embedded:=false,tag:= "",pkgPath:= "",byteOffset:=64 },{ name:= "Tries",type:=3,offset:=11,embedded:=false,tag:= "",pkgPath:= "",byteOffset:=72 },{ name:= "Since",type:=3,offset:=12,embedded:=false,tag:= "",pkgPath:= "",byteOffset:=80 }] 4=some (12,1):=by kernel_rfl
@[push_cast] theorem fo70_0:zAf zP 70 0=some 0:=by kernel_rfl
@[push_cast] theorem fo70_1:zAf zP 70 1=some 1:=by kernel_rfl
@[push_cast] theorem fo70_2:zAf zP 70 2=some 10:=by kernel_rfl
@[push_cast] theorem fo70_3:zAf zP 70 3=some 11:=by kernel_rfl
@[push_cast] theorem fo70_4:zAf zP 70 4=some 12:=by kernel_rfl
@[push_cast] theorem sz72:szT zP 72=some 9:=by kernel_rfl
@[push_cast] theorem ag72:aggT zP 72=some true:=by kernel_rfl
@[push_cast] theorem zc72:zeroCells zP 72=some [.c (.int .i64 0),.c (.int .i64 0),.c (.int .i64 0),.c (.int .i64 0),.c (.int .i64 0),.c (.int .i64 0),.c (.int .i64 0),.c (.int .i64 0),.c (.int .i64 0)]:=by kernel_rfl
@[push_cast] theorem fo72_0:zAf zP 72 0=some 0:=by kernel_rfl
@[push_cast] theorem fo72_1:zAf zP 72 1=some 1:=by kernel_rfl
@[push_cast] theorem fo72_2:zAf zP 72 2=some 7:=by kernel_rfl
@[push_cast] theorem sz73:szT zP 73=some 1:=by kernel_rfl
@[push_cast] theorem ag73:aggT zP 73=some false:=by kernel_rfl
@[push_cast] theorem un73:zP.underlying 73=some (Go.TypeDesc.slice 131):=by kernel_rfl
@[push_cast] theorem ia73s (id st len cap:Nat) (i:Int) (H:List AO):zAj zP 73 (.sl id st len cap) i H=(match H[id]? with | some (.arr sz es)=>if sz=1 then some (0<=i/\i < (len:Int),.eptr id (st+i.toNat) 0) else none | _=>none):=by unfold zAj; simp only[un73,show szT zP 131=some 1 by kernel_rfl]; rfl
@[push_cast] theorem ls73 (id st len cap:Nat):aLen zP 73 (.sl id st len cap)=some (len:Int):=by unfold aLen; simp only[un73]
@[push_cast] theorem sz75:szT zP 75=some 5:=by kernel_rfl
@[push_cast] theorem ag75:aggT zP 75=some true:=by kernel_rfl
@[push_cast] theorem un75:zP.underlying 75=some (Go.TypeDesc.struct #[{ name:= "Dims",type:=23,offset:=0,embedded:=false,tag:= "",pkgPath:= "",byteOffset:=0 },{ name:= "Nodes",type:=73,offset:=3,embedded:=false,tag:= "",pkgPath:= "",byteOffset:=24 },{ name:= "Links",type:=73,offset:=4,embedded:=false,tag:= "",pkgPath:= "",byteOffset:=48 }]):=by kernel_rfl
@[push_cast] theorem zc75:zeroCells zP 75=some [.c (.int .i64 0),.c (.int .i64 0),.c (.int .i64 0),.c (.slice none 0 0),.c (.slice none 0 0)]:=by kernel_rfl
@[push_cast] theorem fa75:Array.all (#[{ name:= "Dims",type:=23,offset:=0,embedded:=false,tag:= "",pkgPath:= "",byteOffset:=0 },{ name:= "Nodes",type:=73,offset:=3,embedded:=false,tag:= "",pkgPath:= "",byteOffset:=24 },{ name:= "Links",type:=73,offset:=4,embedded:=false,tag:= "",pkgPath:= "",byteOffset:=48 }]:Array Field) (fun f=>(szT zP f.type).isSome) 0 3=true:=by kernel_rfl
@[push_cast] theorem fp75_0:zAe zP #[{ name:= "Dims",type:=23,offset:=0,embedded:=false,tag:= "",pkgPath:= "",byteOffset:=0 },{ name:= "Nodes",type:=73,offset:=3,embedded:=false,tag:= "",pkgPath:= "",byteOffset:=24 },{ name:= "Links",type:=73,offset:=4,embedded:=false,tag:= "",pkgPath:= "",byteOffset:=48 }] 0=some (0,3):=by kernel_rfl
@[push_cast] theorem fp75_1:zAe zP #[{ name:= "Dims",type:=23,offset:=0,embedded:=false,tag:= "",pkgPath:= "",byteOffset:=0 },{ name:= "Nodes",type:=73,offset:=3,embedded:=false,tag:= "",pkgPath:= "",byteOffset:=24 },{ name:= "Links",type:=73,offset:=4,embedded:=false,tag:= "",pkgPath:= "",byteOffset:=48 }] 1=some (3,1):=by kernel_rfl
@[push_cast] theorem fp75_2:zAe zP #[{ name:= "Dims",type:=23,offset:=0,embedded:=false,tag:= "",pkgPath:= "",byteOffset:=0 },{ name:= "Nodes",type:=73,offset:=3,embedded:=false,tag:= "",pkgPath:= "",byteOffset:=24 },{ name:= "Links",type:=73,offset:=4,embedded:=false,tag:= "",pkgPath:= "",byteOffset:=48 }] 2=some (4,1):=by kernel_rfl
@[push_cast] theorem fo75_0:zAf zP 75 0=some 0:=by kernel_rfl
@[push_cast] theorem fo75_1:zAf zP 75 1=some 3:=by kernel_rfl
@[push_cast] theorem fo75_2:zAf zP 75 2=some 4:=by kernel_rfl
@[push_cast] theorem sz80:szT zP 80=some 2:=by kernel_rfl
@[push_cast] theorem ag80:aggT zP 80=some true:=by kernel_rfl
@[push_cast] theorem un80:zP.underlying 80=some (Go.TypeDesc.array 2 3):=by kernel_rfl
@[push_cast] theorem zc80:zeroCells zP 80=some [.c (.int .i64 0),.c (.int .i64 0)]:=by kernel_rfl
@[push_cast] theorem sz96:szT zP 96=some 4:=by kernel_rfl
@[push_cast] theorem ag96:aggT zP 96=some true:=by kernel_rfl
@[push_cast] theorem un96:zP.underlying 96=some (Go.TypeDesc.struct #[{ name:= "Prio",type:=3,offset:=0,embedded:=false,tag:= "",pkgPath:= "",byteOffset:=0 },{ name:= "Wall",type:=3,offset:=1,embedded:=false,tag:= "",pkgPath:= "",byteOffset:=8 },{ name:= "Nodes",type:=3,offset:=2,embedded:=false,tag:= "",pkgPath:= "",byteOffset:=16 },{ name:= "Each",type:=3,offset:=3,embedded:=false,tag:= "",pkgPath:= "",byteOffset:=24 }]):=by kernel_rfl
@[push_cast] theorem zc96:zeroCells zP 96=some [.c (.int .i64 0),.c (.int .i64 0),.c (.int .i64 0),.c (.int .i64 0)]:=by kernel_rfl
@[push_cast] theorem ze96:zBl zP 96=some (.agg [.c (.int .i64 0),.c (.int .i64 0),.c (.int .i64 0),.c (.int .i64 0)]):=by kernel_rfl
@[push_cast] theorem fa96:Array.all (#[{ name:= "Prio",type:=3,offset:=0,embedded:=false,tag:= "",pkgPath:= "",byteOffset:=0 },{ name:= "Wall",type:=3,offset:=1,embedded:=false,tag:= "",pkgPath:= "",byteOffset:=8 },{ name:= "Nodes",type:=3,offset:=2,embedded:=false,tag:= "",pkgPath:= "",byteOffset:=16 },{ name:= "Each",type:=3,offset:=3,embedded:=false,tag:= "",pkgPath:= "",byteOffset:=24 }]:Array Field) (fun f=>(szT zP f.type).isSome) 0 4=true:=by kernel_rfl
@[push_cast] theorem fp96_1:zAe zP #[{ name:= "Prio",type:=3,offset:=0,embedded:=false,tag:= "",pkgPath:= "",byteOffset:=0 },{ name:= "Wall",type:=3,offset:=1,embedded:=false,tag:= "",pkgPath:= "",byteOffset:=8 },{ name:= "Nodes",type:=3,offset:=2,embedded:=false,tag:= "",pkgPath:= "",byteOffset:=16 },{ name:= "Each",type:=3,offset:=3,embedded:=false,tag:= "",pkgPath:= "",byteOffset:=24 }] 1=some (1,1):=by kernel_rfl
@[push_cast] theorem fp96_2:zAe zP #[{ name:= "Prio",type:=3,offset:=0,embedded:=false,tag:= "",pkgPath:= "",byteOffset:=0 },{ name:= "Wall",type:=3,offset:=1,embedded:=false,tag:= "",pkgPath:= "",byteOffset:=8 },{ name:= "Nodes",type:=3,offset:=2,embedded:=false,tag:= "",pkgPath:= "",byteOffset:=16 },{ name:= "Each",type:=3,offset:=3,embedded:=false,tag:= "",pkgPath:= "",byteOffset:=24 }] 2=some (2,1):=by kernel_rfl
@[push_cast] theorem fp96_3:zAe zP #[{ name:= "Prio",type:=3,offset:=0,embedded:=false,tag:= "",pkgPath:= "",byteOffset:=0 },{ name:= "Wall",type:=3,offset:=1,embedded:=false,tag:= "",pkgPath:= "",byteOffset:=8 },{ name:= "Nodes",type:=3,offset:=2,embedded:=false,tag:= "",pkgPath:= "",byteOffset:=16 },{ name:= "Each",type:=3,offset:=3,embedded:=false,tag:= "",pkgPath:= "",byteOffset:=24 }] 3=some (3,1):=by kernel_rfl
@[push_cast] theorem fo96_0:zAf zP 96 0=some 0:=by kernel_rfl
@[push_cast] theorem fo96_1:zAf zP 96 1=some 1:=by kernel_rfl
@[push_cast] theorem fo96_2:zAf zP 96 2=some 2:=by kernel_rfl
@[push_cast] theorem fo96_3:zAf zP 96 3=some 3:=by kernel_rfl
@[push_cast] theorem sz103:szT zP 103=some 1:=by kernel_rfl
@[push_cast] theorem ag103:aggT zP 103=some false:=by kernel_rfl
@[push_cast] theorem un103:zP.underlying 103=some (Go.TypeDesc.slice 48):=by kernel_rfl
@[push_cast] theorem ia103i (l:List AV) (i:Int) (H:List AO):zAj zP 103 (.isl l) i H=some ((0<=i/\i < (l.length:Int))/\(l.getD i.toNat .un).cells.length=7,.iptr (l.getD i.toNat .un).cells 0):=by unfold zAj; simp only[un103,show szT zP 48=some 7 by kernel_rfl]
@[push_cast] theorem li103 (l:List AV):aLen zP 103 (.isl l)=some (l.length:Int):=by unfold aLen; simp only[un103]
@[push_cast] theorem sz110:szT zP 110=some 16:=by kernel_rfl
@[push_cast] theorem ag110:aggT zP 110=some true:=by kernel_rfl
@[push_cast] theorem un110:zP.underlying 110=some (Go.TypeDesc.struct #[{ name:= "State",type:=32,offset:=0,embedded:=true,tag:= "",pkgPath:= "",byteOffset:=0 }]):=by kernel_rfl
@[push_cast] theorem zc110:zeroCells zP 110=some [.c (.int .i64 0),.c (.int .i64 0),.c (.int .i64 0),.c (.int .i64 0),.c (.int .i64 0),.c (.int .i64 0),.c (.int .i64 0),.c (.slice none 0 0),.c (.int .i64 0),.c (.int .i64 0),.c (.slice none 0 0),.c (.slice none 0 0),.c (.slice none 0 0),.c (.slice none 0 0),.c (.slice none 0 0),.c (.slice none 0 0)]:=by kernel_rfl
@[push_cast] theorem fa110:Array.all (#[{ name:= "State",type:=32,offset:=0,embedded:=true,tag:= "",pkgPath:= "",byteOffset:=0 }]:Array Field) (fun f=>(szT zP f.type).isSome) 0 1=true:=by kernel_rfl
@[push_cast] theorem fp110_0:zAe zP #[{ name:= "State",type:=32,offset:=0,embedded:=true,tag:= "",pkgPath:= "",byteOffset:=0 }] 0=some (0,16):=by kernel_rfl
@[push_cast] theorem fo110_0:zAf zP 110 0=some 0:=by kernel_rfl
@[push_cast] theorem un111:zP.underlying 111=some (Go.TypeDesc.slice 33):=by kernel_rfl
@[push_cast] theorem ia111s (id st len cap:Nat) (i:Int) (H:List AO):zAj zP 111 (.sl id st len cap) i H=(match H[id]? with | some (.arr sz es)=>if sz=1 then some (0<=i/\i < (len:Int),.eptr id (st+i.toNat) 0) else none | _=>none):=by unfold zAj; simp only[un111,show szT zP 33=some 1 by kernel_rfl]; rfl
@[push_cast] theorem ls111 (id st len cap:Nat):aLen zP 111 (.sl id st len cap)=some (len:Int):=by unfold aLen; simp only[un111]
@[push_cast] theorem sz116:szT zP 116=some 1:=by kernel_rfl
@[push_cast] theorem ag116:aggT zP 116=some false:=by kernel_rfl
@[push_cast] theorem by116:zCt zP 116=some 8:=by kernel_rfl
@[push_cast] theorem un116:zP.underlying 116=some (Go.TypeDesc.int (Go.IntKind.u64)):=by kernel_rfl
@[push_cast] theorem ze116:zBl zP 116=some (.c (.int .u64 0)):=by kernel_rfl
@[push_cast] theorem un119:zP.underlying 119=some (Go.TypeDesc.slice 122):=by kernel_rfl
@[push_cast] theorem sz122:szT zP 122=some 12:=by kernel_rfl
@[push_cast] theorem ag122:aggT zP 122=some true:=by kernel_rfl
@[push_cast] theorem by122:zCt zP 122=some 80:=by kernel_rfl
@[push_cast] theorem un122:zP.underlying 122=some (Go.TypeDesc.struct #[{ name:= "owner",type:=3,offset:=0,embedded:=false,tag:= "",pkgPath:= "tidehall/shadow",byteOffset:=0 },{ name:= "place",type:=39,offset:=1,embedded:=false,tag:= "",pkgPath:= "tidehall/shadow",byteOffset:=8 },{ name:= "span",type:=59,offset:=10,embedded:=false,tag:= "",pkgPath:= "tidehall/shadow",byteOffset:=64 }]):=by kernel_rfl
@[push_cast] theorem zc122:zeroCells zP 122=some [.c (.int .i64 0),.c (.int .i64 0),.c (.int .i64 0),.c (.int .i64 0),.c (.int .i64 0),.c (.int .i64 0),.c (.int .i64 0),.c (.bool false),.c (.bool false),.c (.bool false),.c (.int .i64 0),.c (.int .i64 0)]:=by kernel_rfl
@[push_cast] theorem ze122:zBl zP 122=some (.agg [.c (.int .i64 0),.c (.int .i64 0),.c (.int .i64 0),.c (.int .i64 0),.c (.int .i64 0),.c (.int .i64 0),.c (.int .i64 0),.c (.bool false),.c (.bool false),.c (.bool false),.c (.int .i64 0),.c (.int .i64 0)]):=by kernel_rfl
@[push_cast] theorem fa122:Array.all (#[{ name:= "owner",type:=3,offset:=0,embedded:=false,tag:= "",pkgPath:= "tidehall/shadow",byteOffset:=0 },{ name:= "place",type:=39,offset:=1,embedded:=false,tag:= "",pkgPath:= "tidehall/shadow",byteOffset:=8 },{ name:= "span",type:=59,offset:=10,embedded:=false,tag:= "",pkgPath:= "tidehall/shadow",byteOffset:=64 }]:Array Field) (fun f=>(szT zP f.type).isSome) 0 3=true:=by kernel_rfl
@[push_cast] theorem fp122_0:zAe zP #[{ name:= "owner",type:=3,offset:=0,embedded:=false,tag:= "",pkgPath:= "tidehall/shadow",byteOffset:=0 },{ name:= "place",type:=39,offset:=1,embedded:=false,tag:= "",pkgPath:= "tidehall/shadow",byteOffset:=8 },{ name:= "span",type:=59,offset:=10,embedded:=false,tag:= "",pkgPath:= "tidehall/shadow",byteOffset:=64 }] 0=some (0,1):=by kernel_rfl
@[push_cast] theorem fp122_1:zAe zP #[{ name:= "owner",type:=3,offset:=0,embedded:=false,tag:= "",pkgPath:= "tidehall/shadow",byteOffset:=0 },{ name:= "place",type:=39,offset:=1,embedded:=false,tag:= "",pkgPath:= "tidehall/shadow",byteOffset:=8 },{ name:= "span",type:=59,offset:=10,embedded:=false,tag:= "",pkgPath:= "tidehall/shadow",byteOffset:=64 }] 1=some (1,9):=by kernel_rfl
@[push_cast] theorem fp122_2:zAe zP #[{ name:= "owner",type:=3,offset:=0,embedded:=false,tag:= "",pkgPath:= "tidehall/shadow",byteOffset:=0 },{ name:= "place",type:=39,offset:=1,embedded:=false,tag:= "",pkgPath:= "tidehall/shadow",byteOffset:=8 },{ name:= "span",type:=59,offset:=10,embedded:=false,tag:= "",pkgPath:= "tidehall/shadow",byteOffset:=64 }] 2=some (10,2):=by kernel_rfl
@[push_cast] theorem fo122_0:zAf zP 122 0=some 0:=by kernel_rfl
@[push_cast] theorem fo122_1:zAf zP 122 1=some 1:=by kernel_rfl
@[push_cast] theorem fo122_2:zAf zP 122 2=some 10:=by kernel_rfl
@[push_cast] theorem sz131:szT zP 131=some 1:=by kernel_rfl
@[push_cast] theorem ag131:aggT zP 131=some false:=by kernel_rfl
@[push_cast] theorem by131:zCt zP 131=some 24:=by kernel_rfl
@[push_cast] theorem zFh:zP.underlying 131=some (Go.TypeDesc.slice 172):=by kernel_rfl
@[push_cast] theorem ze131:zBl zP 131=some (.c (.slice none 0 0)):=by kernel_rfl
@[push_cast] theorem ls131 (id st len cap:Nat):aLen zP 131 (.sl id st len cap)=some (len:Int):=by unfold aLen; simp only[zFh]
@[push_cast] theorem ln131 :aLen zP 131 (.c (.slice none 0 0))=some 0:=by unfold aLen; simp only[zFh]
@[push_cast] theorem sz133:szT zP 133=some 1:=by kernel_rfl
@[push_cast] theorem ag133:aggT zP 133=some false:=by kernel_rfl
@[push_cast] theorem sz140:szT zP 140=some 1:=by kernel_rfl
@[push_cast] theorem ag140:aggT zP 140=some false:=by kernel_rfl
@[push_cast] theorem un140:zP.underlying 140=some (Go.TypeDesc.slice 39):=by kernel_rfl
@[push_cast] theorem ia140i (l:List AV) (i:Int) (H:List AO):zAj zP 140 (.isl l) i H=some ((0<=i/\i < (l.length:Int))/\(l.getD i.toNat .un).cells.length=9,.iptr (l.getD i.toNat .un).cells 0):=by unfold zAj; simp only[un140,show szT zP 39=some 9 by kernel_rfl]
@[push_cast] theorem ia140s (id st len cap:Nat) (i:Int) (H:List AO):zAj zP 140 (.sl id st len cap) i H=(match H[id]? with | some (.arr sz es)=>if sz=9 then some (0<=i/\i < (len:Int),.eptr id (st+i.toNat) 0) else none | _=>none):=by unfold zAj; simp only[un140,show szT zP 39=some 9 by kernel_rfl]; rfl
@[push_cast] theorem li140 (l:List AV):aLen zP 140 (.isl l)=some (l.length:Int):=by unfold aLen; simp only[un140]
@[push_cast] theorem ls140 (id st len cap:Nat):aLen zP 140 (.sl id st len cap)=some (len:Int):=by unfold aLen; simp only[un140]
@[push_cast] theorem ln140 :aLen zP 140 (.c (.slice none 0 0))=some 0:=by unfold aLen; simp only[un140]
@[push_cast] theorem sz149:szT zP 149=some 1:=by kernel_rfl
@[push_cast] theorem ag149:aggT zP 149=some false:=by kernel_rfl
@[push_cast] theorem un149:zP.underlying 149=some (Go.TypeDesc.map 48 4):=by kernel_rfl
@[push_cast] theorem sz150:szT zP 150=some 18:=by kernel_rfl
@[push_cast] theorem ag150:aggT zP 150=some true:=by kernel_rfl
@[push_cast] theorem un150:zP.underlying 150=some (Go.TypeDesc.array 6 22):=by kernel_rfl
@[push_cast] theorem zc150:zeroCells zP 150=some [.c (.int .i64 0),.c (.int .i64 0),.c (.int .i64 0),.c (.int .i64 0),.c (.int .i64 0),.c (.int .i64 0),.c (.int .i64 0),.c (.int .i64 0),.c (.int .i64 0),.c (.int .i64 0),.c (.int .i64 0),.c (.int .i64 0),.c (.int .i64 0),.c (.int .i64 0),.c (.int .i64 0),.c (.int .i64 0),.c (.int .i64 0),.c (.int .i64 0)]:=by kernel_rfl
@[push_cast] theorem un166:zP.underlying 166=some (Go.TypeDesc.map 80 3):=by kernel_rfl
@[push_cast] theorem sz172:szT zP 172=some 3:=by kernel_rfl
@[push_cast] theorem ag172:aggT zP 172=some true:=by kernel_rfl
@[push_cast] theorem by172:zCt zP 172=some 24:=by kernel_rfl
@[push_cast] theorem un172:zP.underlying 172=some (Go.TypeDesc.struct #[{ name:= "Span",type:=59,offset:=0,embedded:=false,tag:= "",pkgPath:= "",byteOffset:=0 },{ name:= "Owner",type:=3,offset:=2,embedded:=false,tag:= "",pkgPath:= "",byteOffset:=16 }]):=by kernel_rfl
@[push_cast] theorem zc172:zeroCells zP 172=some [.c (.int .i64 0),.c (.int .i64 0),.c (.int .i64 0)]:=by kernel_rfl
@[push_cast] theorem ze172:zBl zP 172=some (.agg [.c (.int .i64 0),.c (.int .i64 0),.c (.int .i64 0)]):=by kernel_rfl
@[push_cast] theorem fa172:Array.all (#[{ name:= "Span",type:=59,offset:=0,embedded:=false,tag:= "",pkgPath:= "",byteOffset:=0 },{ name:= "Owner",type:=3,offset:=2,embedded:=false,tag:= "",pkgPath:= "",byteOffset:=16 }]:Array Field) (fun f=>(szT zP f.type).isSome) 0 2=true:=by kernel_rfl
@[push_cast] theorem fp172_0:zAe zP #[{ name:= "Span",type:=59,offset:=0,embedded:=false,tag:= "",pkgPath:= "",byteOffset:=0 },{ name:= "Owner",type:=3,offset:=2,embedded:=false,tag:= "",pkgPath:= "",byteOffset:=16 }] 0=some (0,2):=by kernel_rfl
@[push_cast] theorem fp172_1:zAe zP #[{ name:= "Span",type:=59,offset:=0,embedded:=false,tag:= "",pkgPath:= "",byteOffset:=0 },{ name:= "Owner",type:=3,offset:=2,embedded:=false,tag:= "",pkgPath:= "",byteOffset:=16 }] 1=some (2,1):=by kernel_rfl
@[push_cast] theorem fo172_0:zAf zP 172 0=some 0:=by kernel_rfl
@[push_cast] theorem fo172_1:zAf zP 172 1=some 2:=by kernel_rfl
@[push_cast] theorem un189:zP.underlying 189=some (Go.TypeDesc.array 2 30):=by kernel_rfl
@[push_cast] theorem zc189:zeroCells zP 189=some [.c (.slice none 0 0),.c (.slice none 0 0)]:=by kernel_rfl
@[push_cast] theorem ia189 (x:AV) (i:Int) (H:List AO):zAj zP 189 x i H=(zCy x (i.toNat*1)).map fun v=>(0<=i/\i < 2,v):=by unfold zAj; simp only[un189,show szT zP 30=some 1 by kernel_rfl]; rfl
@[push_cast] theorem un191:zP.underlying 191=some (Go.TypeDesc.int (Go.IntKind.u64)):=by kernel_rfl
@[push_cast] theorem sz201:szT zP 201=some 1:=by kernel_rfl
@[push_cast] theorem ag201:aggT zP 201=some false:=by kernel_rfl
@[push_cast] theorem un201:zP.underlying 201=some (Go.TypeDesc.map 39 3):=by kernel_rfl
@[push_cast] theorem zc201:zeroCells zP 201=some [.c (.map none)]:=by kernel_rfl
@[push_cast] theorem sz204:szT zP 204=some 1:=by kernel_rfl
@[push_cast] theorem ag204:aggT zP 204=some false:=by kernel_rfl
@[push_cast] theorem zc204:zeroCells zP 204=some [.c .nilFunc]:=by kernel_rfl
@[push_cast] theorem sz217:szT zP 217=some 1:=by kernel_rfl
@[push_cast] theorem ag217:aggT zP 217=some false:=by kernel_rfl
@[push_cast] theorem un217:zP.underlying 217=some (Go.TypeDesc.map 3 5):=by kernel_rfl
@[push_cast] theorem zc217:zeroCells zP 217=some [.c (.map none)]:=by kernel_rfl
@[push_cast] theorem sz238:szT zP 238=some 1:=by kernel_rfl
@[push_cast] theorem ag238:aggT zP 238=some false:=by kernel_rfl
@[push_cast] theorem ze238:zBl zP 238=some (.c (.pointer none)):=by kernel_rfl
@[push_cast] theorem un239:zP.underlying 239=some (Go.TypeDesc.slice 238):=by kernel_rfl
@[push_cast] theorem ia239s (id st len cap:Nat) (i:Int) (H:List AO):zAj zP 239 (.sl id st len cap) i H=(match H[id]? with | some (.arr sz es)=>if sz=1 then some (0<=i/\i < (len:Int),.eptr id (st+i.toNat) 0) else none | _=>none):=by unfold zAj; simp only[un239,show szT zP 238=some 1 by kernel_rfl]; rfl
@[push_cast] theorem ls239 (id st len cap:Nat):aLen zP 239 (.sl id st len cap)=some (len:Int):=by unfold aLen; simp only[un239]
@[push_cast] theorem sz252:szT zP 252=some 1:=by kernel_rfl
@[push_cast] theorem ag252:aggT zP 252=some false:=by kernel_rfl
@[push_cast] theorem zc252:zeroCells zP 252=some [.c .nilFunc]:=by kernel_rfl
@[push_cast] theorem un257:zP.underlying 257=some (Go.TypeDesc.slice 30):=by kernel_rfl
@[push_cast] theorem sz285:szT zP 285=some 4:=by kernel_rfl
@[push_cast] theorem un285:zP.underlying 285=some (Go.TypeDesc.array 4 3):=by kernel_rfl
@[push_cast] theorem zc285:zeroCells zP 285=some [.c (.int .i64 0),.c (.int .i64 0),.c (.int .i64 0),.c (.int .i64 0)]:=by kernel_rfl
@[push_cast] theorem ia285 (x:AV) (i:Int) (H:List AO):zAj zP 285 x i H=(zCy x (i.toNat*1)).map fun v=>(0<=i/\i < 4,v):=by unfold zAj; simp only[un285,show szT zP 3=some 1 by kernel_rfl]; rfl
@[push_cast] theorem un288:zP.underlying 288=some (Go.TypeDesc.slice 64):=by kernel_rfl
@[push_cast] theorem ia288s (id st len cap:Nat) (i:Int) (H:List AO):zAj zP 288 (.sl id st len cap) i H=(match H[id]? with | some (.arr sz es)=>if sz=1 then some (0<=i/\i < (len:Int),.eptr id (st+i.toNat) 0) else none | _=>none):=by unfold zAj; simp only[un288,show szT zP 64=some 1 by kernel_rfl]; rfl
@[push_cast] theorem ls288 (id st len cap:Nat):aLen zP 288 (.sl id st len cap)=some (len:Int):=by unfold aLen; simp only[un288]
@[push_cast] theorem un327:zP.underlying 327=some (Go.TypeDesc.array 64 5):=by kernel_rfl
@[push_cast] theorem ia327 (x:AV) (i:Int) (H:List AO):zAj zP 327 x i H=(zCy x (i.toNat*1)).map fun v=>(0<=i/\i < 64,v):=by unfold zAj; simp only[un327,show szT zP 5=some 1 by kernel_rfl]; rfl
end Go.Ab
