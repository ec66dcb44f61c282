/- One of the texts that this claim stands on. -/
import Derived.Test.YtdfgdheehdabmaaGreatDoorEv20
import Derived.Test.YtdfgdheehdabmaaGreatDoorProg
import Derived.KernelRfl
set_option maxHeartbeats 40000000
set_option maxRecDepth 400000
set_option linter.all false
namespace Go.Ab
open Go.Proofs
@[push_cast] theorem sz3:szT Tryz.prog 3=some 1:=by kernel_rfl
@[push_cast] theorem ag3:aggT Tryz.prog 3=some false:=by kernel_rfl
@[push_cast] theorem by3:zCz Tryz.prog 3=some 8:=by kernel_rfl
@[push_cast] theorem un3:Tryz.prog.underlying 3=some (Go.TypeDesc.int (Go.IntKind.i64)):=by kernel_rfl
@[push_cast] theorem zc3:zeroCells Tryz.prog 3=some [.c (.int .i64 0)]:=by kernel_rfl
@[push_cast] theorem ze3:zCd Tryz.prog 3=some (.c (.int .i64 0)):=by kernel_rfl
@[push_cast] theorem sz4:szT Tryz.prog 4=some 1:=by kernel_rfl
@[push_cast] theorem ag4:aggT Tryz.prog 4=some false:=by kernel_rfl
@[push_cast] theorem by4:zCz Tryz.prog 4=some 1:=by kernel_rfl
@[push_cast] theorem un4:Tryz.prog.underlying 4=some (Go.TypeDesc.bool):=by kernel_rfl
@[push_cast] theorem ze4:zCd Tryz.prog 4=some (.c (.bool false)):=by kernel_rfl
@[push_cast] theorem sz5:szT Tryz.prog 5=some 1:=by kernel_rfl
@[push_cast] theorem ag5:aggT Tryz.prog 5=some false:=by kernel_rfl
@[push_cast] theorem un5:Tryz.prog.underlying 5=some (Go.TypeDesc.int (Go.IntKind.u8)):=by kernel_rfl
@[push_cast] theorem sz22:szT Tryz.prog 22=some 3:=by kernel_rfl
@[push_cast] theorem ag22:aggT Tryz.prog 22=some true:=by kernel_rfl
@[push_cast] theorem un22:Tryz.prog.underlying 22=some (Go.TypeDesc.array 3 3):=by kernel_rfl
@[push_cast] theorem zc22:zeroCells Tryz.prog 22=some [.c (.int .i64 0),.c (.int .i64 0),.c (.int .i64 0)]:=by kernel_rfl
@[push_cast] theorem ia22 (x:AV) (i:Int) (H:List AO):zAq Tryz.prog 22 x i H=(zCk x (i.toNat*1)).map fun v=>(0≤i∧i < 3,v):=by unfold zAq; simp only[un22,show szT Tryz.prog 3=some 1 by kernel_rfl]; rfl
@[push_cast] theorem sz23:szT Tryz.prog 23=some 3:=by kernel_rfl
@[push_cast] theorem ag23:aggT Tryz.prog 23=some true:=by kernel_rfl
@[push_cast] theorem un23:Tryz.prog.underlying 23=some (Go.TypeDesc.array 3 3):=by kernel_rfl
@[push_cast] theorem ia23 (x:AV) (i:Int) (H:List AO):zAq Tryz.prog 23 x i H=(zCk x (i.toNat*1)).map fun v=>(0≤i∧i < 3,v):=by unfold zAq; simp only[un23,show szT Tryz.prog 3=some 1 by kernel_rfl]; rfl
@[push_cast] theorem sz24:szT Tryz.prog 24=some 3:=by kernel_rfl
@[push_cast] theorem ag24:aggT Tryz.prog 24=some true:=by kernel_rfl
@[push_cast] theorem un24:Tryz.prog.underlying 24=some (Go.TypeDesc.array 3 4):=by kernel_rfl
@[push_cast] theorem zc24:zeroCells Tryz.prog 24=some [.c (.bool false),.c (.bool false),.c (.bool false)]:=by kernel_rfl
@[push_cast] theorem ia24 (x:AV) (i:Int) (H:List AO):zAq Tryz.prog 24 x i H=(zCk x (i.toNat*1)).map fun v=>(0≤i∧i < 3,v):=by unfold zAq; simp only[un24,show szT Tryz.prog 4=some 1 by kernel_rfl]; rfl
@[push_cast] theorem sz26:szT Tryz.prog 26=some 7:=by kernel_rfl
@[push_cast] theorem ag26:aggT Tryz.prog 26=some true:=by kernel_rfl
@[push_cast] theorem by26:zCz Tryz.prog 26=some 32:=by kernel_rfl
@[push_cast] theorem zc26:zeroCells Tryz.prog 26=some [.c (.int .i64 0),.c (.int .i64 0),.c (.int .i64 0),.c (.bool false),.c (.bool false),.c (.bool false),.c (.bool false)]:=by kernel_rfl
@[push_cast] theorem ze26:zCd Tryz.prog 26=some (.agg [.c (.int .i64 0),.c (.int .i64 0),.c (.int .i64 0),.c (.bool false),.c (.bool false),.c (.bool false),.c (.bool false)]):=by kernel_rfl
@[push_cast] theorem fo26_0:zDl Tryz.prog 26 0=some 0:=by kernel_rfl
@[push_cast] theorem fo26_1:zDl Tryz.prog 26 1=some 3:=by kernel_rfl
@[push_cast] theorem fo26_2:zDl Tryz.prog 26 2=some 6:=by kernel_rfl
@[push_cast] theorem sz28:szT Tryz.prog 28=some 1:=by kernel_rfl
@[push_cast] theorem ag28:aggT Tryz.prog 28=some false:=by kernel_rfl
@[push_cast] theorem un28:Tryz.prog.underlying 28=some (Go.TypeDesc.slice 71):=by kernel_rfl
@[push_cast] theorem ze28:zCd Tryz.prog 28=some (.c (.slice none 0 0)):=by kernel_rfl
@[push_cast] theorem ia28i (l:List AV) (i:Int) (H:List AO):zAq Tryz.prog 28 (.isl l) i H=some ((0≤i∧i < (l.length:Int))∧(l.getD i.toNat .un).cells.length=1,.iptr (l.getD i.toNat .un).cells 0):=by unfold zAq; simp only[un28,show szT Tryz.prog 71=some 1 by kernel_rfl]
@[push_cast] theorem ia28s (id st len cap:Nat) (i:Int) (H:List AO):zAq Tryz.prog 28 (.sl id st len cap) i H=(match H[id]? with | some (.arr sz es)=>if sz=1 then some (0≤i∧i < (len:Int),.eptr id (st+i.toNat) 0) else none | _=>none):=by unfold zAq; simp only[un28,show szT Tryz.prog 71=some 1 by kernel_rfl]; rfl
@[push_cast] theorem li28 (l:List AV):aLen Tryz.prog 28 (.isl l)=some (l.length:Int):=by unfold aLen; simp only[un28]
@[push_cast] theorem ln28 :aLen Tryz.prog 28 (.c (.slice none 0 0))=some 0:=by unfold aLen; simp only[un28]
@[push_cast] theorem sz30:szT Tryz.prog 30=some 6:=by kernel_rfl
@[push_cast] theorem ag30:aggT Tryz.prog 30=some true:=by kernel_rfl
@[push_cast] theorem un30:Tryz.prog.underlying 30=some (Go.TypeDesc.struct #[{ name:= "Base",type:=22,offset:=0,embedded:=false,tag:= "",pkgPath:= "",byteOffset:=0 },{ name:= "Size",type:=22,offset:=3,embedded:=false,tag:= "",pkgPath:= "",byteOffset:=24 }]):=by kernel_rfl
@[push_cast] theorem zc30:zeroCells Tryz.prog 30=some [.c (.int .i64 0),.c (.int .i64 0),.c (.int .i64 0),.c (.int .i64 0),.c (.int .i64 0),.c (.int .i64 0)]:=by kernel_rfl
@[push_cast] theorem fa30:Array.all (#[{ name:= "Base",type:=22,offset:=0,embedded:=false,tag:= "",pkgPath:= "",byteOffset:=0 },{ name:= "Size",type:=22,offset:=3,embedded:=false,tag:= "",pkgPath:= "",byteOffset:=24 }]:Array Field) (fun f=>(szT Tryz.prog f.type).isSome) 0 2=true:=by kernel_rfl
@[push_cast] theorem fp30_0:zCt Tryz.prog #[{ name:= "Base",type:=22,offset:=0,embedded:=false,tag:= "",pkgPath:= "",byteOffset:=0 },{ name:= "Size",type:=22,offset:=3,embedded:=false,tag:= "",pkgPath:= "",byteOffset:=24 }] 0=some (0,3):=by kernel_rfl
@[push_cast] theorem fp30_1:zCt Tryz.prog #[{ name:= "Base",type:=22,offset:=0,embedded:=false,tag:= "",pkgPath:= "",byteOffset:=0 },{ name:= "Size",type:=22,offset:=3,embedded:=false,tag:= "",pkgPath:= "",byteOffset:=24 }] 1=some (3,3):=by kernel_rfl
@[push_cast] theorem fo30_0:zDl Tryz.prog 30 0=some 0:=by kernel_rfl
@[push_cast] theorem fo30_1:zDl Tryz.prog 30 1=some 3:=by kernel_rfl
@[push_cast] theorem sz32:szT Tryz.prog 32=some 9:=by kernel_rfl
@[push_cast] theorem ag32:aggT Tryz.prog 32=some true:=by kernel_rfl
@[push_cast] theorem by32:zCz Tryz.prog 32=some 56:=by kernel_rfl
@[push_cast] theorem un32:Tryz.prog.underlying 32=some (Go.TypeDesc.struct #[{ name:= "Box",type:=30,offset:=0,embedded:=false,tag:= "",pkgPath:= "",byteOffset:=0 },{ name:= "Torus",type:=24,offset:=6,embedded:=false,tag:= "",pkgPath:= "",byteOffset:=48 }]):=by kernel_rfl
@[push_cast] theorem zc32:zeroCells Tryz.prog 32=some [.c (.int .i64 0),.c (.int .i64 0),.c (.int .i64 0),.c (.int .i64 0),.c (.int .i64 0),.c (.int .i64 0),.c (.bool false),.c (.bool false),.c (.bool false)]:=by kernel_rfl
@[push_cast] theorem ze32:zCd Tryz.prog 32=some (.agg [.c (.int .i64 0),.c (.int .i64 0),.c (.int .i64 0),.c (.int .i64 0),.c (.int .i64 0),.c (.int .i64 0),.c (.bool false),.c (.bool false),.c (.bool false)]):=by kernel_rfl
@[push_cast] theorem fa32:Array.all (#[{ name:= "Box",type:=30,offset:=0,embedded:=false,tag:= "",pkgPath:= "",byteOffset:=0 },{ name:= "Torus",type:=24,offset:=6,embedded:=false,tag:= "",pkgPath:= "",byteOffset:=48 }]:Array Field) (fun f=>(szT Tryz.prog f.type).isSome) 0 2=true:=by kernel_rfl
@[push_cast] theorem fp32_0:zCt Tryz.prog #[{ name:= "Box",type:=30,offset:=0,embedded:=false,tag:= "",pkgPath:= "",byteOffset:=0 },{ name:= "Torus",type:=24,offset:=6,embedded:=false,tag:= "",pkgPath:= "",byteOffset:=48 }] 0=some (0,6):=by kernel_rfl
@[push_cast] theorem fp32_1:zCt Tryz.prog #[{ name:= "Box",type:=30,offset:=0,embedded:=false,tag:= "",pkgPath:= "",byteOffset:=0 },{ name:= "Torus",type:=24,offset:=6,embedded:=false,tag:= "",pkgPath:= "",byteOffset:=48 }] 1=some (6,3):=by kernel_rfl
@[push_cast] theorem fo32_0:zDl Tryz.prog 32 0=some 0:=by kernel_rfl
@[push_cast] theorem fo32_1:zDl Tryz.prog 32 1=some 6:=by kernel_rfl
@[push_cast] theorem sz34:szT Tryz.prog 34=some 1:=by kernel_rfl
@[push_cast] theorem ag34:aggT Tryz.prog 34=some false:=by kernel_rfl
@[push_cast] theorem zc34:zeroCells Tryz.prog 34=some [.c (.int .i64 0)]:=by kernel_rfl
@[push_cast] theorem sz39:szT Tryz.prog 39=some 1:=by kernel_rfl
@[push_cast] theorem ag39:aggT Tryz.prog 39=some false:=by kernel_rfl
@[push_cast] theorem un39:Tryz.prog.underlying 39=some (Go.TypeDesc.slice 32):=by kernel_rfl
@[push_cast] theorem ia39i (l:List AV) (i:Int) (H:List AO):zAq Tryz.prog 39 (.isl l) i H=some ((0≤i∧i < (l.length:Int))∧(l.getD i.toNat .un).cells.length=9,.iptr (l.getD i.toNat .un).cells 0):=by unfold zAq; simp only[un39,show szT Tryz.prog 32=some 9 by kernel_rfl]
@[push_cast] theorem ia39s (id st len cap:Nat) (i:Int) (H:List AO):zAq Tryz.prog 39 (.sl id st len cap) i H=(match H[id]? with | some (.arr sz es)=>if sz=9 then some (0≤i∧i < (len:Int),.eptr id (st+i.toNat) 0) else none | _=>none):=by unfold zAq; simp only[un39,show szT Tryz.prog 32=some 9 by kernel_rfl]; rfl
@[push_cast] theorem li39 (l:List AV):aLen Tryz.prog 39 (.isl l)=some (l.length:Int):=by unfold aLen; simp only[un39]
@[push_cast] theorem ls39 (id st len cap:Nat):aLen Tryz.prog 39 (.sl id st len cap)=some (len:Int):=by unfold aLen; simp only[un39]
@[push_cast] theorem ln39 :aLen Tryz.prog 39 (.c (.slice none 0 0))=some 0:=by unfold aLen; simp only[un39]
@[push_cast] theorem un58:Tryz.prog.underlying 58=some (Go.TypeDesc.slice 60):=by kernel_rfl
@[push_cast] theorem sz60:szT Tryz.prog 60=some 1:=by kernel_rfl
@[push_cast] theorem ag60:aggT Tryz.prog 60=some false:=by kernel_rfl
@[push_cast] theorem by60:zCz Tryz.prog 60=some 24:=by kernel_rfl
@[push_cast] theorem un60:Tryz.prog.underlying 60=some (Go.TypeDesc.slice 3):=by kernel_rfl
@[push_cast] theorem zc60:zeroCells Tryz.prog 60=some [.c (.slice none 0 0)]:=by kernel_rfl
@[push_cast] theorem ze60:zCd Tryz.prog 60=some (.c (.slice none 0 0)):=by kernel_rfl
@[push_cast] theorem ia60i (l:List AV) (i:Int) (H:List AO):zAq Tryz.prog 60 (.isl l) i H=some ((0≤i∧i < (l.length:Int))∧(l.getD i.toNat .un).cells.length=1,.iptr (l.getD i.toNat .un).cells 0):=by unfold zAq; simp only[un60,show szT Tryz.prog 3=some 1 by kernel_rfl]
@[push_cast] theorem ia60s (id st len cap:Nat) (i:Int) (H:List AO):zAq Tryz.prog 60 (.sl id st len cap) i H=(match H[id]? with | some (.arr sz es)=>if sz=1 then some (0≤i∧i < (len:Int),.eptr id (st+i.toNat) 0) else none | _=>none):=by unfold zAq; simp only[un60,show szT Tryz.prog 3=some 1 by kernel_rfl]; rfl
@[push_cast] theorem li60 (l:List AV):aLen Tryz.prog 60 (.isl l)=some (l.length:Int):=by unfold aLen; simp only[un60]
@[push_cast] theorem ls60 (id st len cap:Nat):aLen Tryz.prog 60 (.sl id st len cap)=some (len:Int):=by unfold aLen; simp only[un60]
@[push_cast] theorem sz71:szT Tryz.prog 71=some 1:=by kernel_rfl
@[push_cast] theorem ag71:aggT Tryz.prog 71=some false:=by kernel_rfl
@[push_cast] theorem by71:zCz Tryz.prog 71=some 8:=by kernel_rfl
@[push_cast] theorem un71:Tryz.prog.underlying 71=some (Go.TypeDesc.int (Go.IntKind.u64)):=by kernel_rfl
@[push_cast] theorem ze71:zCd Tryz.prog 71=some (.c (.int .u64 0)):=by kernel_rfl
@[push_cast] theorem sz77:szT Tryz.prog 77=some 1:=by kernel_rfl
@[push_cast] theorem ag77:aggT Tryz.prog 77=some false:=by kernel_rfl
@[push_cast] theorem un77:Tryz.prog.underlying 77=some (Go.TypeDesc.map 32 3):=by kernel_rfl
@[push_cast] theorem zc77:zeroCells Tryz.prog 77=some [.c (.map none)]:=by kernel_rfl
@[push_cast] theorem sz80:szT Tryz.prog 80=some 1:=by kernel_rfl
@[push_cast] theorem ag80:aggT Tryz.prog 80=some false:=by kernel_rfl
@[push_cast] theorem zc80:zeroCells Tryz.prog 80=some [.c .nilFunc]:=by kernel_rfl
@[push_cast] theorem un89:Tryz.prog.underlying 89=some (Go.TypeDesc.int (Go.IntKind.u64)):=by kernel_rfl
@[push_cast] theorem sz103:szT Tryz.prog 103=some 1:=by kernel_rfl
@[push_cast] theorem ag103:aggT Tryz.prog 103=some false:=by kernel_rfl
@[push_cast] theorem un103:Tryz.prog.underlying 103=some (Go.TypeDesc.slice 26):=by kernel_rfl
@[push_cast] theorem ia103i (l:List AV) (i:Int) (H:List AO):zAq Tryz.prog 103 (.isl l) i H=some ((0≤i∧i < (l.length:Int))∧(l.getD i.toNat .un).cells.length=7,.iptr (l.getD i.toNat .un).cells 0):=by unfold zAq; simp only[un103,show szT Tryz.prog 26=some 7 by kernel_rfl]
@[push_cast] theorem ia103s (id st len cap:Nat) (i:Int) (H:List AO):zAq Tryz.prog 103 (.sl id st len cap) i H=(match H[id]? with | some (.arr sz es)=>if sz=7 then some (0≤i∧i < (len:Int),.eptr id (st+i.toNat) 0) else none | _=>none):=by unfold zAq; simp only[un103,show szT Tryz.prog 26=some 7 by kernel_rfl]; rfl
@[push_cast] theorem li103 (l:List AV):aLen Tryz.prog 103 (.isl l)=some (l.length:Int):=by unfold aLen; simp only[un103]
@[push_cast] theorem ls103 (id st len cap:Nat):aLen Tryz.prog 103 (.sl id st len cap)=some (len:Int):=by unfold aLen; simp only[un103]
@[push_cast] theorem un142:Tryz.prog.underlying 142=some (Go.TypeDesc.slice 4):=by kernel_rfl
@[push_cast] theorem sz150:szT Tryz.prog 150=some 1:=by kernel_rfl
@[push_cast] theorem ag150:aggT Tryz.prog 150=some false:=by kernel_rfl
@[push_cast] theorem un150:Tryz.prog.underlying 150=some (Go.TypeDesc.map 26 4):=by kernel_rfl
@[push_cast] theorem sz151:szT Tryz.prog 151=some 18:=by kernel_rfl
@[push_cast] theorem ag151:aggT Tryz.prog 151=some true:=by kernel_rfl
@[push_cast] theorem un151:Tryz.prog.underlying 151=some (Go.TypeDesc.array 6 22):=by kernel_rfl
@[push_cast] theorem zc151:zeroCells Tryz.prog 151=some [.c (.int .i64 0),.c (.int .i64 0),.c (.int .i64 0),.c (.int .i64 0),.c (.int .i64 0),.c (.int .i64 0),.c (.int .i64 0),.c (.int .i64 0),.c (.int .i64 0),.c (.int .i64 0),.c (.int .i64 0),.c (.int .i64 0),.c (.int .i64 0),.c (.int .i64 0),.c (.int .i64 0),.c (.int .i64 0),.c (.int .i64 0),.c (.int .i64 0)]:=by kernel_rfl
@[push_cast] theorem un167:Tryz.prog.underlying 167=some (Go.TypeDesc.slice 28):=by kernel_rfl
@[push_cast] theorem ia167s (id st len cap:Nat) (i:Int) (H:List AO):zAq Tryz.prog 167 (.sl id st len cap) i H=(match H[id]? with | some (.arr sz es)=>if sz=1 then some (0≤i∧i < (len:Int),.eptr id (st+i.toNat) 0) else none | _=>none):=by unfold zAq; simp only[un167,show szT Tryz.prog 28=some 1 by kernel_rfl]; rfl
@[push_cast] theorem ls167 (id st len cap:Nat):aLen Tryz.prog 167 (.sl id st len cap)=some (len:Int):=by unfold aLen; simp only[un167]
@[push_cast] theorem sz175:szT Tryz.prog 175=some 1:=by kernel_rfl
@[push_cast] theorem ag175:aggT Tryz.prog 175=some false:=by kernel_rfl
@[push_cast] theorem un175:Tryz.prog.underlying 175=some (Go.TypeDesc.int (Go.IntKind.u64)):=by kernel_rfl
@[push_cast] theorem zc175:zeroCells Tryz.prog 175=some [.c (.int .u64 0)]:=by kernel_rfl
@[push_cast] theorem un195:Tryz.prog.underlying 195=some (Go.TypeDesc.array 2 3):=by kernel_rfl
@[push_cast] theorem zc195:zeroCells Tryz.prog 195=some [.c (.int .i64 0),.c (.int .i64 0)]:=by kernel_rfl
@[push_cast] theorem un209:Tryz.prog.underlying 209=some (Go.TypeDesc.array 64 5):=by kernel_rfl
@[push_cast] theorem ia209 (x:AV) (i:Int) (H:List AO):zAq Tryz.prog 209 x i H=(zCk x (i.toNat*1)).map fun v=>(0≤i∧i < 64,v):=by unfold zAq; simp only[un209,show szT Tryz.prog 5=some 1 by kernel_rfl]; rfl
end Go.Ab
