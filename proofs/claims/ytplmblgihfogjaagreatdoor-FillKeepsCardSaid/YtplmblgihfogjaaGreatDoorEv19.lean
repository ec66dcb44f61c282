/- A text of this claim. -/
import Derived.Test.YtplmblgihfogjaaGreatDoorEv18
import Derived.Test.YtplmblgihfogjaaGreatDoorProg
import Derived.KernelRfl
set_option maxHeartbeats 40000000
set_option maxRecDepth 400000
set_option linter.all false
namespace Go.Ab
open Go.Proofs
theorem sz3:szT Tryz.prog 3=some 1:=by kernel_rfl
theorem ag3:aggT Tryz.prog 3=some false:=by kernel_rfl
theorem by3:zCr Tryz.prog 3=some 8:=by kernel_rfl
theorem un3:Tryz.prog.underlying 3=some (Go.TypeDesc.int (Go.IntKind.i64)):=by kernel_rfl
theorem zc3:zeroCells Tryz.prog 3=some [.c (.int .i64 0)]:=by kernel_rfl
theorem ze3:zBo Tryz.prog 3=some (.c (.int .i64 0)):=by kernel_rfl
theorem sz4:szT Tryz.prog 4=some 1:=by kernel_rfl
theorem ag4:aggT Tryz.prog 4=some false:=by kernel_rfl
theorem un4:Tryz.prog.underlying 4=some (Go.TypeDesc.bool):=by kernel_rfl
theorem zc4:zeroCells Tryz.prog 4=some [.c (.bool false)]:=by kernel_rfl
theorem sz5:szT Tryz.prog 5=some 1:=by kernel_rfl
theorem ag5:aggT Tryz.prog 5=some false:=by kernel_rfl
theorem un5:Tryz.prog.underlying 5=some (Go.TypeDesc.int (Go.IntKind.u8)):=by kernel_rfl
theorem ze5:zBo Tryz.prog 5=some (.c (.int .u8 0)):=by kernel_rfl
theorem sz22:szT Tryz.prog 22=some 3:=by kernel_rfl
theorem ag22:aggT Tryz.prog 22=some true:=by kernel_rfl
theorem un22:Tryz.prog.underlying 22=some (Go.TypeDesc.array 3 3):=by kernel_rfl
theorem zc22:zeroCells Tryz.prog 22=some [.c (.int .i64 0),.c (.int .i64 0),.c (.int .i64 0)]:=by kernel_rfl
theorem ia22 (x:AV) (i:Int) (H:List AO):zAk Tryz.prog 22 x i H=(zCy x (i.toNat*1)).map fun v=>(0<=i/\i < 3,v):=by unfold zAk; simp only[un22,show szT Tryz.prog 3=some 1 by kernel_rfl]; rfl
theorem sz23:szT Tryz.prog 23=some 3:=by kernel_rfl
theorem ag23:aggT Tryz.prog 23=some true:=by kernel_rfl
theorem un23:Tryz.prog.underlying 23=some (Go.TypeDesc.array 3 3):=by kernel_rfl
theorem zc23:zeroCells Tryz.prog 23=some [.c (.int .i64 0),.c (.int .i64 0),.c (.int .i64 0)]:=by kernel_rfl
theorem ia23 (x:AV) (i:Int) (H:List AO):zAk Tryz.prog 23 x i H=(zCy x (i.toNat*1)).map fun v=>(0<=i/\i < 3,v):=by unfold zAk; simp only[un23,show szT Tryz.prog 3=some 1 by kernel_rfl]; rfl
theorem sz24:szT Tryz.prog 24=some 1:=by kernel_rfl
theorem ag24:aggT Tryz.prog 24=some false:=by kernel_rfl
theorem un24:Tryz.prog.underlying 24=some (Go.TypeDesc.slice 93):=by kernel_rfl
theorem ia24s (id st len cap:Nat) (i:Int) (H:List AO):zAk Tryz.prog 24 (.sl id st len cap) i H=(match H[id]? with | some (.arr sz es)=>if sz=4 then some (0<=i/\i < (len:Int),.eptr id (st+i.toNat) 0) else none | _=>none):=by unfold zAk; simp only[un24,show szT Tryz.prog 93=some 4 by kernel_rfl]; rfl
theorem sz26:szT Tryz.prog 26=some 8:=by kernel_rfl
theorem ag26:aggT Tryz.prog 26=some true:=by kernel_rfl
theorem un26:Tryz.prog.underlying 26=some (Go.TypeDesc.struct #[⟨ "Dims",23,0,false,"","",0⟩,⟨ "Boot",3,3,false,"","",24⟩,⟨ "Free",3,4,false,"","",32⟩,⟨ "Tries",3,5,false,"","",40⟩,⟨ "Age",3,6,false,"","",48⟩,⟨ "Classes",24,7,false,"","",56⟩]):=by kernel_rfl
theorem zc26:zeroCells Tryz.prog 26=some [.c (.int .i64 0),.c (.int .i64 0),.c (.int .i64 0),.c (.int .i64 0),.c (.int .i64 0),.c (.int .i64 0),.c (.int .i64 0),.c (.slice none 0 0)]:=by kernel_rfl
theorem fa26:Array.all (#[⟨ "Dims",23,0,false,"","",0⟩,⟨ "Boot",3,3,false,"","",24⟩,⟨ "Free",3,4,false,"","",32⟩,⟨ "Tries",3,5,false,"","",40⟩,⟨ "Age",3,6,false,"","",48⟩,⟨ "Classes",24,7,false,"","",56⟩]:Array Field) (fun f=>(szT Tryz.prog f.type).isSome) 0 6=true:=by kernel_rfl
theorem fp26_0:zAg Tryz.prog #[⟨ "Dims",23,0,false,"","",0⟩,⟨ "Boot",3,3,false,"","",24⟩,⟨ "Free",3,4,false,"","",32⟩,⟨ "Tries",3,5,false,"","",40⟩,⟨ "Age",3,6,false,"","",48⟩,⟨ "Classes",24,7,false,"","",56⟩] 0=some (0,3):=by kernel_rfl
theorem fp26_1:zAg Tryz.prog #[⟨ "Dims",23,0,false,"","",0⟩,⟨ "Boot",3,3,false,"","",24⟩,⟨ "Free",3,4,false,"","",32⟩,⟨ "Tries",3,5,false,"","",40⟩,⟨ "Age",3,6,false,"","",48⟩,⟨ "Classes",24,7,false,"","",56⟩] 1=some (3,1):=by kernel_rfl
theorem fp26_2:zAg Tryz.prog #[⟨ "Dims",23,0,false,"","",0⟩,⟨ "Boot",3,3,false,"","",24⟩,⟨ "Free",3,4,false,"","",32⟩,⟨ "Tries",3,5,false,"","",40⟩,⟨ "Age",3,6,false,"","",48⟩,⟨ "Classes",24,7,false,"","",56⟩] 2=some (4,1):=by kernel_rfl
theorem fp26_3:zAg Tryz.prog #[⟨ "Dims",23,0,false,"","",0⟩,⟨ "Boot",3,3,false,"","",24⟩,⟨ "Free",3,4,false,"","",32⟩,⟨ "Tries",3,5,false,"","",40⟩,⟨ "Age",3,6,false,"","",48⟩,⟨ "Classes",24,7,false,"","",56⟩] 3=some (5,1):=by kernel_rfl
theorem fp26_4:zAg Tryz.prog #[⟨ "Dims",23,0,false,"","",0⟩,⟨ "Boot",3,3,false,"","",24⟩,⟨ "Free",3,4,false,"","",32⟩,⟨ "Tries",3,5,false,"","",40⟩,⟨ "Age",3,6,false,"","",48⟩,⟨ "Classes",24,7,false,"","",56⟩] 4=some (6,1):=by kernel_rfl
theorem fp26_5:zAg Tryz.prog #[⟨ "Dims",23,0,false,"","",0⟩,⟨ "Boot",3,3,false,"","",24⟩,⟨ "Free",3,4,false,"","",32⟩,⟨ "Tries",3,5,false,"","",40⟩,⟨ "Age",3,6,false,"","",48⟩,⟨ "Classes",24,7,false,"","",56⟩] 5=some (7,1):=by kernel_rfl
theorem fo26_0:zAh Tryz.prog 26 0=some 0:=by kernel_rfl
theorem fo26_1:zAh Tryz.prog 26 1=some 3:=by kernel_rfl
theorem fo26_2:zAh Tryz.prog 26 2=some 4:=by kernel_rfl
theorem fo26_3:zAh Tryz.prog 26 3=some 5:=by kernel_rfl
theorem fo26_4:zAh Tryz.prog 26 4=some 6:=by kernel_rfl
theorem fo26_5:zAh Tryz.prog 26 5=some 7:=by kernel_rfl
theorem sz27:szT Tryz.prog 27=some 1:=by kernel_rfl
theorem ag27:aggT Tryz.prog 27=some false:=by kernel_rfl
theorem un27:Tryz.prog.underlying 27=some (Go.TypeDesc.slice 50):=by kernel_rfl
theorem ia27s (id st len cap:Nat) (i:Int) (H:List AO):zAk Tryz.prog 27 (.sl id st len cap) i H=(match H[id]? with | some (.arr sz es)=>if sz=16 then some (0<=i/\i < (len:Int),.eptr id (st+i.toNat) 0) else none | _=>none):=by unfold zAk; simp only[un27,show szT Tryz.prog 50=some 16 by kernel_rfl]; rfl
theorem ls27 (id st len cap:Nat):aLen Tryz.prog 27 (.sl id st len cap)=some (len:Int):=by unfold aLen; simp only[un27]
theorem ln27 :aLen Tryz.prog 27 (.c (.slice none 0 0))=some 0:=by unfold aLen; simp only[un27]
theorem lz27 :aLen Tryz.prog 27 .zs=some 0:=by unfold aLen; simp only[un27]
theorem sz28:szT Tryz.prog 28=some 1:=by kernel_rfl
theorem ag28:aggT Tryz.prog 28=some false:=by kernel_rfl
theorem un28:Tryz.prog.underlying 28=some (Go.TypeDesc.slice 65):=by kernel_rfl
theorem ia28s (id st len cap:Nat) (i:Int) (H:List AO):zAk Tryz.prog 28 (.sl id st len cap) i H=(match H[id]? with | some (.arr sz es)=>if sz=13 then some (0<=i/\i < (len:Int),.eptr id (st+i.toNat) 0) else none | _=>none):=by unfold zAk; simp only[un28,show szT Tryz.prog 65=some 13 by kernel_rfl]; rfl
theorem ls28 (id st len cap:Nat):aLen Tryz.prog 28 (.sl id st len cap)=some (len:Int):=by unfold aLen; simp only[un28]
theorem sz29:szT Tryz.prog 29=some 1:=by kernel_rfl
theorem ag29:aggT Tryz.prog 29=some false:=by kernel_rfl
theorem un29:Tryz.prog.underlying 29=some (Go.TypeDesc.slice 98):=by kernel_rfl
theorem sz30:szT Tryz.prog 30=some 1:=by kernel_rfl
theorem ag30:aggT Tryz.prog 30=some false:=by kernel_rfl
theorem un30:Tryz.prog.underlying 30=some (Go.TypeDesc.slice 3):=by kernel_rfl
theorem zc30:zeroCells Tryz.prog 30=some [.c (.slice none 0 0)]:=by kernel_rfl
theorem ze30:zBo Tryz.prog 30=some (.c (.slice none 0 0)):=by kernel_rfl
theorem ia30i (l:List AV) (i:Int) (H:List AO):zAk Tryz.prog 30 (.isl l) i H=some ((0<=i/\i < (l.length:Int))/\(l.getD i.toNat .un).cells.length=1,.iptr (l.getD i.toNat .un).cells 0):=by unfold zAk; simp only[un30,show szT Tryz.prog 3=some 1 by kernel_rfl]
theorem ia30s (id st len cap:Nat) (i:Int) (H:List AO):zAk Tryz.prog 30 (.sl id st len cap) i H=(match H[id]? with | some (.arr sz es)=>if sz=1 then some (0<=i/\i < (len:Int),.eptr id (st+i.toNat) 0) else none | _=>none):=by unfold zAk; simp only[un30,show szT Tryz.prog 3=some 1 by kernel_rfl]; rfl
theorem li30 (l:List AV):aLen Tryz.prog 30 (.isl l)=some (l.length:Int):=by unfold aLen; simp only[un30]
theorem ls30 (id st len cap:Nat):aLen Tryz.prog 30 (.sl id st len cap)=some (len:Int):=by unfold aLen; simp only[un30]
theorem ln30 :aLen Tryz.prog 30 (.c (.slice none 0 0))=some 0:=by unfold aLen; simp only[un30]
theorem sz32:szT Tryz.prog 32=some 16:=by kernel_rfl
theorem ag32:aggT Tryz.prog 32=some true:=by kernel_rfl
theorem un32:Tryz.prog.underlying 32=some (Go.TypeDesc.struct #[⟨ "Config",26,0,false,"","",0⟩,⟨ "Now",3,8,false,"","",80⟩,⟨ "Next",3,9,false,"","",88⟩,⟨ "Jobs",27,10,false,"","",96⟩,⟨ "Parts",28,11,false,"","",120⟩,⟨ "Keeps",29,12,false,"","",144⟩,⟨ "Down",30,13,false,"","",168⟩,⟨ "Shut",30,14,false,"","",192⟩,⟨ "Cut",30,15,false,"","",216⟩]):=by kernel_rfl
theorem zc32:zeroCells Tryz.prog 32=some [.c (.int .i64 0),.c (.int .i64 0),.c (.int .i64 0),.c (.int .i64 0),.c (.int .i64 0),.c (.int .i64 0),.c (.int .i64 0),.c (.slice none 0 0),.c (.int .i64 0),.c (.int .i64 0),.c (.slice none 0 0),.c (.slice none 0 0),.c (.slice none 0 0),.c (.slice none 0 0),.c (.slice none 0 0),.c (.slice none 0 0)]:=by kernel_rfl
theorem fa32:Array.all (#[⟨ "Config",26,0,false,"","",0⟩,⟨ "Now",3,8,false,"","",80⟩,⟨ "Next",3,9,false,"","",88⟩,⟨ "Jobs",27,10,false,"","",96⟩,⟨ "Parts",28,11,false,"","",120⟩,⟨ "Keeps",29,12,false,"","",144⟩,⟨ "Down",30,13,false,"","",168⟩,⟨ "Shut",30,14,false,"","",192⟩,⟨ "Cut",30,15,false,"","",216⟩]:Array Field) (fun f=>(szT Tryz.prog f.type).isSome) 0 9=true:=by kernel_rfl
theorem fp32_0:zAg Tryz.prog #[⟨ "Config",26,0,false,"","",0⟩,⟨ "Now",3,8,false,"","",80⟩,⟨ "Next",3,9,false,"","",88⟩,⟨ "Jobs",27,10,false,"","",96⟩,⟨ "Parts",28,11,false,"","",120⟩,⟨ "Keeps",29,12,false,"","",144⟩,⟨ "Down",30,13,false,"","",168⟩,⟨ "Shut",30,14,false,"","",192⟩,⟨ "Cut",30,15,false,"","",216⟩] 0=some (0,8):=by kernel_rfl
theorem fp32_1:zAg Tryz.prog #[⟨ "Config",26,0,false,"","",0⟩,⟨ "Now",3,8,false,"","",80⟩,⟨ "Next",3,9,false,"","",88⟩,⟨ "Jobs",27,10,false,"","",96⟩,⟨ "Parts",28,11,false,"","",120⟩,⟨ "Keeps",29,12,false,"","",144⟩,⟨ "Down",30,13,false,"","",168⟩,⟨ "Shut",30,14,false,"","",192⟩,⟨ "Cut",30,15,false,"","",216⟩] 1=some (8,1):=by kernel_rfl
theorem fp32_2:zAg Tryz.prog #[⟨ "Config",26,0,false,"","",0⟩,⟨ "Now",3,8,false,"","",80⟩,⟨ "Next",3,9,false,"","",88⟩,⟨ "Jobs",27,10,false,"","",96⟩,⟨ "Parts",28,11,false,"","",120⟩,⟨ "Keeps",29,12,false,"","",144⟩,⟨ "Down",30,13,false,"","",168⟩,⟨ "Shut",30,14,false,"","",192⟩,⟨ "Cut",30,15,false,"","",216⟩] 2=some (9,1):=by kernel_rfl
theorem fp32_3:zAg Tryz.prog #[⟨ "Config",26,0,false,"","",0⟩,⟨ "Now",3,8,false,"","",80⟩,⟨ "Next",3,9,false,"","",88⟩,⟨ "Jobs",27,10,false,"","",96⟩,⟨ "Parts",28,11,false,"","",120⟩,⟨ "Keeps",29,12,false,"","",144⟩,⟨ "Down",30,13,false,"","",168⟩,⟨ "Shut",30,14,false,"","",192⟩,⟨ "Cut",30,15,false,"","",216⟩] 3=some (10,1):=by kernel_rfl
theorem fp32_4:zAg Tryz.prog #[⟨ "Config",26,0,false,"","",0⟩,⟨ "Now",3,8,false,"","",80⟩,⟨ "Next",3,9,false,"","",88⟩,⟨ "Jobs",27,10,false,"","",96⟩,⟨ "Parts",28,11,false,"","",120⟩,⟨ "Keeps",29,12,false,"","",144⟩,⟨ "Down",30,13,false,"","",168⟩,⟨ "Shut",30,14,false,"","",192⟩,⟨ "Cut",30,15,false,"","",216⟩] 4=some (11,1):=by kernel_rfl
theorem fo32_0:zAh Tryz.prog 32 0=some 0:=by kernel_rfl
theorem fo32_1:zAh Tryz.prog 32 1=some 8:=by kernel_rfl
theorem fo32_2:zAh Tryz.prog 32 2=some 9:=by kernel_rfl
theorem fo32_3:zAh Tryz.prog 32 3=some 10:=by kernel_rfl
theorem fo32_4:zAh Tryz.prog 32 4=some 11:=by kernel_rfl
theorem fo32_5:zAh Tryz.prog 32 5=some 12:=by kernel_rfl
theorem fo32_6:zAh Tryz.prog 32 6=some 13:=by kernel_rfl
theorem fo32_7:zAh Tryz.prog 32 7=some 14:=by kernel_rfl
theorem fo32_8:zAh Tryz.prog 32 8=some 15:=by kernel_rfl
theorem sz34:szT Tryz.prog 34=some 6:=by kernel_rfl
theorem ag34:aggT Tryz.prog 34=some true:=by kernel_rfl
theorem un34:Tryz.prog.underlying 34=some (Go.TypeDesc.struct #[⟨ "Base",22,0,false,"","",0⟩,⟨ "Size",22,3,false,"","",24⟩]):=by kernel_rfl
theorem zc34:zeroCells Tryz.prog 34=some [.c (.int .i64 0),.c (.int .i64 0),.c (.int .i64 0),.c (.int .i64 0),.c (.int .i64 0),.c (.int .i64 0)]:=by kernel_rfl
theorem fa34:Array.all (#[⟨ "Base",22,0,false,"","",0⟩,⟨ "Size",22,3,false,"","",24⟩]:Array Field) (fun f=>(szT Tryz.prog f.type).isSome) 0 2=true:=by kernel_rfl
theorem fp34_0:zAg Tryz.prog #[⟨ "Base",22,0,false,"","",0⟩,⟨ "Size",22,3,false,"","",24⟩] 0=some (0,3):=by kernel_rfl
theorem fp34_1:zAg Tryz.prog #[⟨ "Base",22,0,false,"","",0⟩,⟨ "Size",22,3,false,"","",24⟩] 1=some (3,3):=by kernel_rfl
theorem fo34_0:zAh Tryz.prog 34 0=some 0:=by kernel_rfl
theorem fo34_1:zAh Tryz.prog 34 1=some 3:=by kernel_rfl
theorem sz35:szT Tryz.prog 35=some 3:=by kernel_rfl
theorem ag35:aggT Tryz.prog 35=some true:=by kernel_rfl
theorem un35:Tryz.prog.underlying 35=some (Go.TypeDesc.array 3 4):=by kernel_rfl
theorem zc35:zeroCells Tryz.prog 35=some [.c (.bool false),.c (.bool false),.c (.bool false)]:=by kernel_rfl
theorem ia35 (x:AV) (i:Int) (H:List AO):zAk Tryz.prog 35 x i H=(zCy x (i.toNat*1)).map fun v=>(0<=i/\i < 3,v):=by unfold zAk; simp only[un35,show szT Tryz.prog 4=some 1 by kernel_rfl]; rfl
theorem sz37:szT Tryz.prog 37=some 9:=by kernel_rfl
theorem ag37:aggT Tryz.prog 37=some true:=by kernel_rfl
theorem by37:zCr Tryz.prog 37=some 56:=by kernel_rfl
theorem un37:Tryz.prog.underlying 37=some (Go.TypeDesc.struct #[⟨ "Box",34,0,false,"","",0⟩,⟨ "Torus",35,6,false,"","",48⟩]):=by kernel_rfl
theorem zc37:zeroCells Tryz.prog 37=some [.c (.int .i64 0),.c (.int .i64 0),.c (.int .i64 0),.c (.int .i64 0),.c (.int .i64 0),.c (.int .i64 0),.c (.bool false),.c (.bool false),.c (.bool false)]:=by kernel_rfl
theorem ze37:zBo Tryz.prog 37=some (.agg [.c (.int .i64 0),.c (.int .i64 0),.c (.int .i64 0),.c (.int .i64 0),.c (.int .i64 0),.c (.int .i64 0),.c (.bool false),.c (.bool false),.c (.bool false)]):=by kernel_rfl
theorem fa37:Array.all (#[⟨ "Box",34,0,false,"","",0⟩,⟨ "Torus",35,6,false,"","",48⟩]:Array Field) (fun f=>(szT Tryz.prog f.type).isSome) 0 2=true:=by kernel_rfl
theorem fp37_0:zAg Tryz.prog #[⟨ "Box",34,0,false,"","",0⟩,⟨ "Torus",35,6,false,"","",48⟩] 0=some (0,6):=by kernel_rfl
theorem fp37_1:zAg Tryz.prog #[⟨ "Box",34,0,false,"","",0⟩,⟨ "Torus",35,6,false,"","",48⟩] 1=some (6,3):=by kernel_rfl
theorem fo37_0:zAh Tryz.prog 37 0=some 0:=by kernel_rfl
theorem fo37_1:zAh Tryz.prog 37 1=some 6:=by kernel_rfl
theorem sz39:szT Tryz.prog 39=some 11:=by kernel_rfl
theorem ag39:aggT Tryz.prog 39=some true:=by kernel_rfl
theorem un39:Tryz.prog.underlying 39=some (Go.TypeDesc.struct #[⟨ "Job",3,0,false,"","",0⟩,⟨ "At",3,1,false,"","",8⟩,⟨ "Place",37,2,false,"","",16⟩]):=by kernel_rfl
theorem zc39:zeroCells Tryz.prog 39=some [.c (.int .i64 0),.c (.int .i64 0),.c (.int .i64 0),.c (.int .i64 0),.c (.int .i64 0),.c (.int .i64 0),.c (.int .i64 0),.c (.int .i64 0),.c (.bool false),.c (.bool false),.c (.bool false)]:=by kernel_rfl
theorem fa39:Array.all (#[⟨ "Job",3,0,false,"","",0⟩,⟨ "At",3,1,false,"","",8⟩,⟨ "Place",37,2,false,"","",16⟩]:Array Field) (fun f=>(szT Tryz.prog f.type).isSome) 0 3=true:=by kernel_rfl
theorem fp39_0:zAg Tryz.prog #[⟨ "Job",3,0,false,"","",0⟩,⟨ "At",3,1,false,"","",8⟩,⟨ "Place",37,2,false,"","",16⟩] 0=some (0,1):=by kernel_rfl
theorem fp39_1:zAg Tryz.prog #[⟨ "Job",3,0,false,"","",0⟩,⟨ "At",3,1,false,"","",8⟩,⟨ "Place",37,2,false,"","",16⟩] 1=some (1,1):=by kernel_rfl
theorem fp39_2:zAg Tryz.prog #[⟨ "Job",3,0,false,"","",0⟩,⟨ "At",3,1,false,"","",8⟩,⟨ "Place",37,2,false,"","",16⟩] 2=some (2,9):=by kernel_rfl
theorem fo39_0:zAh Tryz.prog 39 0=some 0:=by kernel_rfl
theorem fo39_1:zAh Tryz.prog 39 1=some 1:=by kernel_rfl
theorem fo39_2:zAh Tryz.prog 39 2=some 2:=by kernel_rfl
theorem sz40:szT Tryz.prog 40=some 1:=by kernel_rfl
theorem ag40:aggT Tryz.prog 40=some false:=by kernel_rfl
theorem ze40:zBo Tryz.prog 40=some (.c .nilFunc):=by kernel_rfl
theorem sz42:szT Tryz.prog 42=some 1:=by kernel_rfl
theorem ag42:aggT Tryz.prog 42=some false:=by kernel_rfl
theorem zc42:zeroCells Tryz.prog 42=some [.c (.int .i64 0)]:=by kernel_rfl
theorem sz48:szT Tryz.prog 48=some 7:=by kernel_rfl
theorem ag48:aggT Tryz.prog 48=some true:=by kernel_rfl
theorem by48:zCr Tryz.prog 48=some 32:=by kernel_rfl
theorem un48:Tryz.prog.underlying 48=some (Go.TypeDesc.struct #[⟨ "Shape",22,0,false,"","",0⟩,⟨ "Torus",35,3,false,"","",24⟩,⟨ "Turn",4,6,false,"","",27⟩]):=by kernel_rfl
theorem zc48:zeroCells Tryz.prog 48=some [.c (.int .i64 0),.c (.int .i64 0),.c (.int .i64 0),.c (.bool false),.c (.bool false),.c (.bool false),.c (.bool false)]:=by kernel_rfl
theorem ze48:zBo Tryz.prog 48=some (.agg [.c (.int .i64 0),.c (.int .i64 0),.c (.int .i64 0),.c (.bool false),.c (.bool false),.c (.bool false),.c (.bool false)]):=by kernel_rfl
theorem fa48:Array.all (#[⟨ "Shape",22,0,false,"","",0⟩,⟨ "Torus",35,3,false,"","",24⟩,⟨ "Turn",4,6,false,"","",27⟩]:Array Field) (fun f=>(szT Tryz.prog f.type).isSome) 0 3=true:=by kernel_rfl
theorem fp48_0:zAg Tryz.prog #[⟨ "Shape",22,0,false,"","",0⟩,⟨ "Torus",35,3,false,"","",24⟩,⟨ "Turn",4,6,false,"","",27⟩] 0=some (0,3):=by kernel_rfl
theorem fo48_0:zAh Tryz.prog 48 0=some 0:=by kernel_rfl
theorem fo48_1:zAh Tryz.prog 48 1=some 3:=by kernel_rfl
theorem fo48_2:zAh Tryz.prog 48 2=some 6:=by kernel_rfl
theorem sz50:szT Tryz.prog 50=some 16:=by kernel_rfl
theorem ag50:aggT Tryz.prog 50=some true:=by kernel_rfl
theorem by50:zCr Tryz.prog 50=some 120:=by kernel_rfl
theorem un50:Tryz.prog.underlying 50=some (Go.TypeDesc.struct #[⟨ "Id",3,0,false,"","",0⟩,⟨ "User",3,1,false,"","",8⟩,⟨ "Class",3,2,false,"","",16⟩,⟨ "Wants",48,3,false,"","",24⟩,⟨ "Wall",3,10,false,"","",56⟩,⟨ "Prio",3,11,false,"","",64⟩,⟨ "Held",4,12,false,"","",72⟩,⟨ "After",30,13,false,"","",80⟩,⟨ "State",5,14,false,"","",104⟩,⟨ "Came",3,15,false,"","",112⟩]):=by kernel_rfl
theorem zc50:zeroCells Tryz.prog 50=some [.c (.int .i64 0),.c (.int .i64 0),.c (.int .i64 0),.c (.int .i64 0),.c (.int .i64 0),.c (.int .i64 0),.c (.bool false),.c (.bool false),.c (.bool false),.c (.bool false),.c (.int .i64 0),.c (.int .i64 0),.c (.bool false),.c (.slice none 0 0),.c (.int .u8 0),.c (.int .i64 0)]:=by kernel_rfl
theorem ze50:zBo Tryz.prog 50=some (.agg [.c (.int .i64 0),.c (.int .i64 0),.c (.int .i64 0),.c (.int .i64 0),.c (.int .i64 0),.c (.int .i64 0),.c (.bool false),.c (.bool false),.c (.bool false),.c (.bool false),.c (.int .i64 0),.c (.int .i64 0),.c (.bool false),.c (.slice none 0 0),.c (.int .u8 0),.c (.int .i64 0)]):=by kernel_rfl
theorem fa50:Array.all (#[⟨ "Id",3,0,false,"","",0⟩,⟨ "User",3,1,false,"","",8⟩,⟨ "Class",3,2,false,"","",16⟩,⟨ "Wants",48,3,false,"","",24⟩,⟨ "Wall",3,10,false,"","",56⟩,⟨ "Prio",3,11,false,"","",64⟩,⟨ "Held",4,12,false,"","",72⟩,⟨ "After",30,13,false,"","",80⟩,⟨ "State",5,14,false,"","",104⟩,⟨ "Came",3,15,false,"","",112⟩]:Array Field) (fun f=>(szT Tryz.prog f.type).isSome) 0 10=true:=by kernel_rfl
theorem fp50_0:zAg Tryz.prog #[⟨ "Id",3,0,false,"","",0⟩,⟨ "User",3,1,false,"","",8⟩,⟨ "Class",3,2,false,"","",16⟩,⟨ "Wants",48,3,false,"","",24⟩,⟨ "Wall",3,10,false,"","",56⟩,⟨ "Prio",3,11,false,"","",64⟩,⟨ "Held",4,12,false,"","",72⟩,⟨ "After",30,13,false,"","",80⟩,⟨ "State",5,14,false,"","",104⟩,⟨ "Came",3,15,false,"","",112⟩] 0=some (0,1):=by kernel_rfl
theorem fp50_1:zAg Tryz.prog #[⟨ "Id",3,0,false,"","",0⟩,⟨ "User",3,1,false,"","",8⟩,⟨ "Class",3,2,false,"","",16⟩,⟨ "Wants",48,3,false,"","",24⟩,⟨ "Wall",3,10,false,"","",56⟩,⟨ "Prio",3,11,false,"","",64⟩,⟨ "Held",4,12,false,"","",72⟩,⟨ "After",30,13,false,"","",80⟩,⟨ "State",5,14,false,"","",104⟩,⟨ "Came",3,15,false,"","",112⟩] 1=some (1,1):=by kernel_rfl
theorem fp50_3:zAg Tryz.prog #[⟨ "Id",3,0,false,"","",0⟩,⟨ "User",3,1,false,"","",8⟩,⟨ "Class",3,2,false,"","",16⟩,⟨ "Wants",48,3,false,"","",24⟩,⟨ "Wall",3,10,false,"","",56⟩,⟨ "Prio",3,11,false,"","",64⟩,⟨ "Held",4,12,false,"","",72⟩,⟨ "After",30,13,false,"","",80⟩,⟨ "State",5,14,false,"","",104⟩,⟨ "Came",3,15,false,"","",112⟩] 3=some (3,7):=by kernel_rfl
theorem fp50_4:zAg Tryz.prog #[⟨ "Id",3,0,false,"","",0⟩,⟨ "User",3,1,false,"","",8⟩,⟨ "Class",3,2,false,"","",16⟩,⟨ "Wants",48,3,false,"","",24⟩,⟨ "Wall",3,10,false,"","",56⟩,⟨ "Prio",3,11,false,"","",64⟩,⟨ "Held",4,12,false,"","",72⟩,⟨ "After",30,13,false,"","",80⟩,⟨ "State",5,14,false,"","",104⟩,⟨ "Came",3,15,false,"","",112⟩] 4=some (10,1):=by kernel_rfl
theorem fp50_8:zAg Tryz.prog #[⟨ "Id",3,0,false,"","",0⟩,⟨ "User",3,1,false,"","",8⟩,⟨ "Class",3,2,false,"","",16⟩,⟨ "Wants",48,3,false,"","",24⟩,⟨ "Wall",3,10,false,"","",56⟩,⟨ "Prio",3,11,false,"","",64⟩,⟨ "Held",4,12,false,"","",72⟩,⟨ "After",30,13,false,"","",80⟩,⟨ "State",5,14,false,"","",104⟩,⟨ "Came",3,15,false,"","",112⟩] 8=some (14,1):=by kernel_rfl
theorem fo50_0:zAh Tryz.prog 50 0=some 0:=by kernel_rfl
theorem fo50_1:zAh Tryz.prog 50 1=some 1:=by kernel_rfl
theorem fo50_2:zAh Tryz.prog 50 2=some 2:=by kernel_rfl
theorem fo50_3:zAh Tryz.prog 50 3=some 3:=by kernel_rfl
theorem fo50_4:zAh Tryz.prog 50 4=some 10:=by kernel_rfl
theorem fo50_5:zAh Tryz.prog 50 5=some 11:=by kernel_rfl
theorem fo50_6:zAh Tryz.prog 50 6=some 12:=by kernel_rfl
theorem fo50_7:zAh Tryz.prog 50 7=some 13:=by kernel_rfl
theorem fo50_8:zAh Tryz.prog 50 8=some 14:=by kernel_rfl
theorem fo50_9:zAh Tryz.prog 50 9=some 15:=by kernel_rfl
theorem sz65:szT Tryz.prog 65=some 13:=by kernel_rfl
theorem ag65:aggT Tryz.prog 65=some true:=by kernel_rfl
theorem by65:zCr Tryz.prog 65=some 88:=by kernel_rfl
theorem un65:Tryz.prog.underlying 65=some (Go.TypeDesc.struct #[⟨ "Job",3,0,false,"","",0⟩,⟨ "Place",37,1,false,"","",8⟩,⟨ "Phase",5,10,false,"","",64⟩,⟨ "Tries",3,11,false,"","",72⟩,⟨ "Since",3,12,false,"","",80⟩]):=by kernel_rfl
theorem zc65:zeroCells Tryz.prog 65=some [.c (.int .i64 0),.c (.int .i64 0),.c (.int .i64 0),.c (.int .i64 0),.c (.int .i64 0),.c (.int .i64 0),.c (.int .i64 0),.c (.bool false),.c (.bool false),.c (.bool false),.c (.int .u8 0),.c (.int .i64 0),.c (.int .i64 0)]:=by kernel_rfl
theorem ze65:zBo Tryz.prog 65=some (.agg [.c (.int .i64 0),.c (.int .i64 0),.c (.int .i64 0),.c (.int .i64 0),.c (.int .i64 0),.c (.int .i64 0),.c (.int .i64 0),.c (.bool false),.c (.bool false),.c (.bool false),.c (.int .u8 0),.c (.int .i64 0),.c (.int .i64 0)]):=by kernel_rfl
theorem fa65:Array.all (#[⟨ "Job",3,0,false,"","",0⟩,⟨ "Place",37,1,false,"","",8⟩,⟨ "Phase",5,10,false,"","",64⟩,⟨ "Tries",3,11,false,"","",72⟩,⟨ "Since",3,12,false,"","",80⟩]:Array Field) (fun f=>(szT Tryz.prog f.type).isSome) 0 5=true:=by kernel_rfl
theorem fp65_0:zAg Tryz.prog #[⟨ "Job",3,0,false,"","",0⟩,⟨ "Place",37,1,false,"","",8⟩,⟨ "Phase",5,10,false,"","",64⟩,⟨ "Tries",3,11,false,"","",72⟩,⟨ "Since",3,12,false,"","",80⟩] 0=some (0,1):=by kernel_rfl
theorem fp65_1:zAg Tryz.prog #[⟨ "Job",3,0,false,"","",0⟩,⟨ "Place",37,1,false,"","",8⟩,⟨ "Phase",5,10,false,"","",64⟩,⟨ "Tries",3,11,false,"","",72⟩,⟨ "Since",3,12,false,"","",80⟩] 1=some (1,9):=by kernel_rfl
theorem fp65_2:zAg Tryz.prog #[⟨ "Job",3,0,false,"","",0⟩,⟨ "Place",37,1,false,"","",8⟩,⟨ "Phase",5,10,false,"","",64⟩,⟨ "Tries",3,11,false,"","",72⟩,⟨ "Since",3,12,false,"","",80⟩] 2=some (10,1):=by kernel_rfl
theorem fp65_3:zAg Tryz.prog #[⟨ "Job",3,0,false,"","",0⟩,⟨ "Place",37,1,false,"","",8⟩,⟨ "Phase",5,10,false,"","",64⟩,⟨ "Tries",3,11,false,"","",72⟩,⟨ "Since",3,12,false,"","",80⟩] 3=some (11,1):=by kernel_rfl
theorem fp65_4:zAg Tryz.prog #[⟨ "Job",3,0,false,"","",0⟩,⟨ "Place",37,1,false,"","",8⟩,⟨ "Phase",5,10,false,"","",64⟩,⟨ "Tries",3,11,false,"","",72⟩,⟨ "Since",3,12,false,"","",80⟩] 4=some (12,1):=by kernel_rfl
theorem fo65_0:zAh Tryz.prog 65 0=some 0:=by kernel_rfl
theorem fo65_1:zAh Tryz.prog 65 1=some 1:=by kernel_rfl
theorem fo65_2:zAh Tryz.prog 65 2=some 10:=by kernel_rfl
theorem fo65_3:zAh Tryz.prog 65 3=some 11:=by kernel_rfl
theorem fo65_4:zAh Tryz.prog 65 4=some 12:=by kernel_rfl
theorem sz74:szT Tryz.prog 74=some 1:=by kernel_rfl
theorem ag74:aggT Tryz.prog 74=some false:=by kernel_rfl
theorem un74:Tryz.prog.underlying 74=some (Go.TypeDesc.slice 129):=by kernel_rfl
theorem ze74:zBo Tryz.prog 74=some (.c (.slice none 0 0)):=by kernel_rfl
theorem ia74i (l:List AV) (i:Int) (H:List AO):zAk Tryz.prog 74 (.isl l) i H=some ((0<=i/\i < (l.length:Int))/\(l.getD i.toNat .un).cells.length=1,.iptr (l.getD i.toNat .un).cells 0):=by unfold zAk; simp only[un74,show szT Tryz.prog 129=some 1 by kernel_rfl]
theorem ia74s (id st len cap:Nat) (i:Int) (H:List AO):zAk Tryz.prog 74 (.sl id st len cap) i H=(match H[id]? with | some (.arr sz es)=>if sz=1 then some (0<=i/\i < (len:Int),.eptr id (st+i.toNat) 0) else none | _=>none):=by unfold zAk; simp only[un74,show szT Tryz.prog 129=some 1 by kernel_rfl]; rfl
theorem li74 (l:List AV):aLen Tryz.prog 74 (.isl l)=some (l.length:Int):=by unfold aLen; simp only[un74]
theorem sz78:szT Tryz.prog 78=some 2:=by kernel_rfl
theorem ag78:aggT Tryz.prog 78=some true:=by kernel_rfl
theorem un78:Tryz.prog.underlying 78=some (Go.TypeDesc.struct #[⟨ "From",3,0,false,"","",0⟩,⟨ "To",3,1,false,"","",8⟩]):=by kernel_rfl
theorem zc78:zeroCells Tryz.prog 78=some [.c (.int .i64 0),.c (.int .i64 0)]:=by kernel_rfl
theorem fa78:Array.all (#[⟨ "From",3,0,false,"","",0⟩,⟨ "To",3,1,false,"","",8⟩]:Array Field) (fun f=>(szT Tryz.prog f.type).isSome) 0 2=true:=by kernel_rfl
theorem fp78_0:zAg Tryz.prog #[⟨ "From",3,0,false,"","",0⟩,⟨ "To",3,1,false,"","",8⟩] 0=some (0,1):=by kernel_rfl
theorem fp78_1:zAg Tryz.prog #[⟨ "From",3,0,false,"","",0⟩,⟨ "To",3,1,false,"","",8⟩] 1=some (1,1):=by kernel_rfl
theorem fo78_0:zAh Tryz.prog 78 0=some 0:=by kernel_rfl
theorem fo78_1:zAh Tryz.prog 78 1=some 1:=by kernel_rfl
theorem sz88:szT Tryz.prog 88=some 16:=by kernel_rfl
theorem ag88:aggT Tryz.prog 88=some true:=by kernel_rfl
theorem un88:Tryz.prog.underlying 88=some (Go.TypeDesc.struct #[⟨ "State",32,0,true,"","",0⟩]):=by kernel_rfl
theorem zc88:zeroCells Tryz.prog 88=some [.c (.int .i64 0),.c (.int .i64 0),.c (.int .i64 0),.c (.int .i64 0),.c (.int .i64 0),.c (.int .i64 0),.c (.int .i64 0),.c (.slice none 0 0),.c (.int .i64 0),.c (.int .i64 0),.c (.slice none 0 0),.c (.slice none 0 0),.c (.slice none 0 0),.c (.slice none 0 0),.c (.slice none 0 0),.c (.slice none 0 0)]:=by kernel_rfl
theorem fa88:Array.all (#[⟨ "State",32,0,true,"","",0⟩]:Array Field) (fun f=>(szT Tryz.prog f.type).isSome) 0 1=true:=by kernel_rfl
theorem fp88_0:zAg Tryz.prog #[⟨ "State",32,0,true,"","",0⟩] 0=some (0,16):=by kernel_rfl
theorem fo88_0:zAh Tryz.prog 88 0=some 0:=by kernel_rfl
theorem un89:Tryz.prog.underlying 89=some (Go.TypeDesc.slice 40):=by kernel_rfl
theorem ia89s (id st len cap:Nat) (i:Int) (H:List AO):zAk Tryz.prog 89 (.sl id st len cap) i H=(match H[id]? with | some (.arr sz es)=>if sz=1 then some (0<=i/\i < (len:Int),.eptr id (st+i.toNat) 0) else none | _=>none):=by unfold zAk; simp only[un89,show szT Tryz.prog 40=some 1 by kernel_rfl]; rfl
theorem ls89 (id st len cap:Nat):aLen Tryz.prog 89 (.sl id st len cap)=some (len:Int):=by unfold aLen; simp only[un89]
theorem sz93:szT Tryz.prog 93=some 4:=by kernel_rfl
theorem ag93:aggT Tryz.prog 93=some true:=by kernel_rfl
theorem by93:zCr Tryz.prog 93=some 32:=by kernel_rfl
theorem un93:Tryz.prog.underlying 93=some (Go.TypeDesc.struct #[⟨ "Prio",3,0,false,"","",0⟩,⟨ "Wall",3,1,false,"","",8⟩,⟨ "Nodes",3,2,false,"","",16⟩,⟨ "Each",3,3,false,"","",24⟩]):=by kernel_rfl
theorem zc93:zeroCells Tryz.prog 93=some [.c (.int .i64 0),.c (.int .i64 0),.c (.int .i64 0),.c (.int .i64 0)]:=by kernel_rfl
theorem ze93:zBo Tryz.prog 93=some (.agg [.c (.int .i64 0),.c (.int .i64 0),.c (.int .i64 0),.c (.int .i64 0)]):=by kernel_rfl
theorem fa93:Array.all (#[⟨ "Prio",3,0,false,"","",0⟩,⟨ "Wall",3,1,false,"","",8⟩,⟨ "Nodes",3,2,false,"","",16⟩,⟨ "Each",3,3,false,"","",24⟩]:Array Field) (fun f=>(szT Tryz.prog f.type).isSome) 0 4=true:=by kernel_rfl
theorem fp93_1:zAg Tryz.prog #[⟨ "Prio",3,0,false,"","",0⟩,⟨ "Wall",3,1,false,"","",8⟩,⟨ "Nodes",3,2,false,"","",16⟩,⟨ "Each",3,3,false,"","",24⟩] 1=some (1,1):=by kernel_rfl
theorem fp93_2:zAg Tryz.prog #[⟨ "Prio",3,0,false,"","",0⟩,⟨ "Wall",3,1,false,"","",8⟩,⟨ "Nodes",3,2,false,"","",16⟩,⟨ "Each",3,3,false,"","",24⟩] 2=some (2,1):=by kernel_rfl
theorem fp93_3:zAg Tryz.prog #[⟨ "Prio",3,0,false,"","",0⟩,⟨ "Wall",3,1,false,"","",8⟩,⟨ "Nodes",3,2,false,"","",16⟩,⟨ "Each",3,3,false,"","",24⟩] 3=some (3,1):=by kernel_rfl
theorem fo93_0:zAh Tryz.prog 93 0=some 0:=by kernel_rfl
theorem fo93_1:zAh Tryz.prog 93 1=some 1:=by kernel_rfl
theorem fo93_2:zAh Tryz.prog 93 2=some 2:=by kernel_rfl
theorem fo93_3:zAh Tryz.prog 93 3=some 3:=by kernel_rfl
theorem sz98:szT Tryz.prog 98=some 9:=by kernel_rfl
theorem ag98:aggT Tryz.prog 98=some true:=by kernel_rfl
theorem by98:zCr Tryz.prog 98=some 72:=by kernel_rfl
theorem zc98:zeroCells Tryz.prog 98=some [.c (.int .i64 0),.c (.int .i64 0),.c (.int .i64 0),.c (.int .i64 0),.c (.int .i64 0),.c (.int .i64 0),.c (.int .i64 0),.c (.int .i64 0),.c (.int .i64 0)]:=by kernel_rfl
theorem ze98:zBo Tryz.prog 98=some (.agg [.c (.int .i64 0),.c (.int .i64 0),.c (.int .i64 0),.c (.int .i64 0),.c (.int .i64 0),.c (.int .i64 0),.c (.int .i64 0),.c (.int .i64 0),.c (.int .i64 0)]):=by kernel_rfl
theorem fo98_0:zAh Tryz.prog 98 0=some 0:=by kernel_rfl
theorem fo98_1:zAh Tryz.prog 98 1=some 1:=by kernel_rfl
theorem fo98_2:zAh Tryz.prog 98 2=some 7:=by kernel_rfl
theorem sz100:szT Tryz.prog 100=some 1:=by kernel_rfl
theorem ag100:aggT Tryz.prog 100=some false:=by kernel_rfl
theorem un100:Tryz.prog.underlying 100=some (Go.TypeDesc.slice 218):=by kernel_rfl
theorem ia100s (id st len cap:Nat) (i:Int) (H:List AO):zAk Tryz.prog 100 (.sl id st len cap) i H=(match H[id]? with | some (.arr sz es)=>if sz=1 then some (0<=i/\i < (len:Int),.eptr id (st+i.toNat) 0) else none | _=>none):=by unfold zAk; simp only[un100,show szT Tryz.prog 218=some 1 by kernel_rfl]; rfl
theorem ls100 (id st len cap:Nat):aLen Tryz.prog 100 (.sl id st len cap)=some (len:Int):=by unfold aLen; simp only[un100]
theorem sz102:szT Tryz.prog 102=some 5:=by kernel_rfl
theorem ag102:aggT Tryz.prog 102=some true:=by kernel_rfl
theorem un102:Tryz.prog.underlying 102=some (Go.TypeDesc.struct #[⟨ "Dims",23,0,false,"","",0⟩,⟨ "Nodes",100,3,false,"","",24⟩,⟨ "Links",100,4,false,"","",48⟩]):=by kernel_rfl
theorem zc102:zeroCells Tryz.prog 102=some [.c (.int .i64 0),.c (.int .i64 0),.c (.int .i64 0),.c (.slice none 0 0),.c (.slice none 0 0)]:=by kernel_rfl
theorem fa102:Array.all (#[⟨ "Dims",23,0,false,"","",0⟩,⟨ "Nodes",100,3,false,"","",24⟩,⟨ "Links",100,4,false,"","",48⟩]:Array Field) (fun f=>(szT Tryz.prog f.type).isSome) 0 3=true:=by kernel_rfl
theorem fp102_0:zAg Tryz.prog #[⟨ "Dims",23,0,false,"","",0⟩,⟨ "Nodes",100,3,false,"","",24⟩,⟨ "Links",100,4,false,"","",48⟩] 0=some (0,3):=by kernel_rfl
theorem fp102_1:zAg Tryz.prog #[⟨ "Dims",23,0,false,"","",0⟩,⟨ "Nodes",100,3,false,"","",24⟩,⟨ "Links",100,4,false,"","",48⟩] 1=some (3,1):=by kernel_rfl
theorem fp102_2:zAg Tryz.prog #[⟨ "Dims",23,0,false,"","",0⟩,⟨ "Nodes",100,3,false,"","",24⟩,⟨ "Links",100,4,false,"","",48⟩] 2=some (4,1):=by kernel_rfl
theorem fo102_0:zAh Tryz.prog 102 0=some 0:=by kernel_rfl
theorem fo102_1:zAh Tryz.prog 102 1=some 3:=by kernel_rfl
theorem fo102_2:zAh Tryz.prog 102 2=some 4:=by kernel_rfl
theorem un120:Tryz.prog.underlying 120=some (Go.TypeDesc.slice 74):=by kernel_rfl
theorem ia120s (id st len cap:Nat) (i:Int) (H:List AO):zAk Tryz.prog 120 (.sl id st len cap) i H=(match H[id]? with | some (.arr sz es)=>if sz=1 then some (0<=i/\i < (len:Int),.eptr id (st+i.toNat) 0) else none | _=>none):=by unfold zAk; simp only[un120,show szT Tryz.prog 74=some 1 by kernel_rfl]; rfl
theorem ls120 (id st len cap:Nat):aLen Tryz.prog 120 (.sl id st len cap)=some (len:Int):=by unfold aLen; simp only[un120]
theorem sz122:szT Tryz.prog 122=some 1:=by kernel_rfl
theorem ag122:aggT Tryz.prog 122=some false:=by kernel_rfl
theorem un122:Tryz.prog.underlying 122=some (Go.TypeDesc.slice 37):=by kernel_rfl
theorem ia122i (l:List AV) (i:Int) (H:List AO):zAk Tryz.prog 122 (.isl l) i H=some ((0<=i/\i < (l.length:Int))/\(l.getD i.toNat .un).cells.length=9,.iptr (l.getD i.toNat .un).cells 0):=by unfold zAk; simp only[un122,show szT Tryz.prog 37=some 9 by kernel_rfl]
theorem ia122s (id st len cap:Nat) (i:Int) (H:List AO):zAk Tryz.prog 122 (.sl id st len cap) i H=(match H[id]? with | some (.arr sz es)=>if sz=9 then some (0<=i/\i < (len:Int),.eptr id (st+i.toNat) 0) else none | _=>none):=by unfold zAk; simp only[un122,show szT Tryz.prog 37=some 9 by kernel_rfl]; rfl
theorem li122 (l:List AV):aLen Tryz.prog 122 (.isl l)=some (l.length:Int):=by unfold aLen; simp only[un122]
theorem ls122 (id st len cap:Nat):aLen Tryz.prog 122 (.sl id st len cap)=some (len:Int):=by unfold aLen; simp only[un122]
theorem ln122 :aLen Tryz.prog 122 (.c (.slice none 0 0))=some 0:=by unfold aLen; simp only[un122]
theorem sz129:szT Tryz.prog 129=some 1:=by kernel_rfl
theorem ag129:aggT Tryz.prog 129=some false:=by kernel_rfl
theorem by129:zCr Tryz.prog 129=some 8:=by kernel_rfl
theorem un129:Tryz.prog.underlying 129=some (Go.TypeDesc.int (Go.IntKind.u64)):=by kernel_rfl
theorem ze129:zBo Tryz.prog 129=some (.c (.int .u64 0)):=by kernel_rfl
theorem un140:Tryz.prog.underlying 140=some (Go.TypeDesc.map 141 3):=by kernel_rfl
theorem sz141:szT Tryz.prog 141=some 2:=by kernel_rfl
theorem ag141:aggT Tryz.prog 141=some true:=by kernel_rfl
theorem un141:Tryz.prog.underlying 141=some (Go.TypeDesc.array 2 3):=by kernel_rfl
theorem zc141:zeroCells Tryz.prog 141=some [.c (.int .i64 0),.c (.int .i64 0)]:=by kernel_rfl
theorem sz146:szT Tryz.prog 146=some 1:=by kernel_rfl
theorem ag146:aggT Tryz.prog 146=some false:=by kernel_rfl
theorem un146:Tryz.prog.underlying 146=some (Go.TypeDesc.map 3 5):=by kernel_rfl
theorem zc146:zeroCells Tryz.prog 146=some [.c (.map none)]:=by kernel_rfl
theorem un151:Tryz.prog.underlying 151=some (Go.TypeDesc.slice 154):=by kernel_rfl
theorem sz154:szT Tryz.prog 154=some 12:=by kernel_rfl
theorem ag154:aggT Tryz.prog 154=some true:=by kernel_rfl
theorem by154:zCr Tryz.prog 154=some 80:=by kernel_rfl
theorem un154:Tryz.prog.underlying 154=some (Go.TypeDesc.struct #[⟨ "owner",3,0,false,"","tidehall/shadow",0⟩,⟨ "place",37,1,false,"","tidehall/shadow",8⟩,⟨ "span",78,10,false,"","tidehall/shadow",64⟩]):=by kernel_rfl
theorem zc154:zeroCells Tryz.prog 154=some [.c (.int .i64 0),.c (.int .i64 0),.c (.int .i64 0),.c (.int .i64 0),.c (.int .i64 0),.c (.int .i64 0),.c (.int .i64 0),.c (.bool false),.c (.bool false),.c (.bool false),.c (.int .i64 0),.c (.int .i64 0)]:=by kernel_rfl
theorem ze154:zBo Tryz.prog 154=some (.agg [.c (.int .i64 0),.c (.int .i64 0),.c (.int .i64 0),.c (.int .i64 0),.c (.int .i64 0),.c (.int .i64 0),.c (.int .i64 0),.c (.bool false),.c (.bool false),.c (.bool false),.c (.int .i64 0),.c (.int .i64 0)]):=by kernel_rfl
theorem fa154:Array.all (#[⟨ "owner",3,0,false,"","tidehall/shadow",0⟩,⟨ "place",37,1,false,"","tidehall/shadow",8⟩,⟨ "span",78,10,false,"","tidehall/shadow",64⟩]:Array Field) (fun f=>(szT Tryz.prog f.type).isSome) 0 3=true:=by kernel_rfl
theorem fp154_0:zAg Tryz.prog #[⟨ "owner",3,0,false,"","tidehall/shadow",0⟩,⟨ "place",37,1,false,"","tidehall/shadow",8⟩,⟨ "span",78,10,false,"","tidehall/shadow",64⟩] 0=some (0,1):=by kernel_rfl
theorem fp154_1:zAg Tryz.prog #[⟨ "owner",3,0,false,"","tidehall/shadow",0⟩,⟨ "place",37,1,false,"","tidehall/shadow",8⟩,⟨ "span",78,10,false,"","tidehall/shadow",64⟩] 1=some (1,9):=by kernel_rfl
theorem fp154_2:zAg Tryz.prog #[⟨ "owner",3,0,false,"","tidehall/shadow",0⟩,⟨ "place",37,1,false,"","tidehall/shadow",8⟩,⟨ "span",78,10,false,"","tidehall/shadow",64⟩] 2=some (10,2):=by kernel_rfl
theorem fo154_0:zAh Tryz.prog 154 0=some 0:=by kernel_rfl
theorem fo154_1:zAh Tryz.prog 154 1=some 1:=by kernel_rfl
theorem fo154_2:zAh Tryz.prog 154 2=some 10:=by kernel_rfl
theorem sz166:szT Tryz.prog 166=some 1:=by kernel_rfl
theorem ag166:aggT Tryz.prog 166=some false:=by kernel_rfl
theorem un166:Tryz.prog.underlying 166=some (Go.TypeDesc.slice 48):=by kernel_rfl
theorem ia166i (l:List AV) (i:Int) (H:List AO):zAk Tryz.prog 166 (.isl l) i H=some ((0<=i/\i < (l.length:Int))/\(l.getD i.toNat .un).cells.length=7,.iptr (l.getD i.toNat .un).cells 0):=by unfold zAk; simp only[un166,show szT Tryz.prog 48=some 7 by kernel_rfl]
theorem li166 (l:List AV):aLen Tryz.prog 166 (.isl l)=some (l.length:Int):=by unfold aLen; simp only[un166]
theorem sz186:szT Tryz.prog 186=some 1:=by kernel_rfl
theorem ag186:aggT Tryz.prog 186=some false:=by kernel_rfl
theorem un186:Tryz.prog.underlying 186=some (Go.TypeDesc.map 37 3):=by kernel_rfl
theorem zc186:zeroCells Tryz.prog 186=some [.c (.map none)]:=by kernel_rfl
theorem sz188:szT Tryz.prog 188=some 1:=by kernel_rfl
theorem ag188:aggT Tryz.prog 188=some false:=by kernel_rfl
theorem zc188:zeroCells Tryz.prog 188=some [.c .nilFunc]:=by kernel_rfl
theorem sz217:szT Tryz.prog 217=some 3:=by kernel_rfl
theorem ag217:aggT Tryz.prog 217=some true:=by kernel_rfl
theorem by217:zCr Tryz.prog 217=some 24:=by kernel_rfl
theorem un217:Tryz.prog.underlying 217=some (Go.TypeDesc.struct #[⟨ "Span",78,0,false,"","",0⟩,⟨ "Owner",3,2,false,"","",16⟩]):=by kernel_rfl
theorem zc217:zeroCells Tryz.prog 217=some [.c (.int .i64 0),.c (.int .i64 0),.c (.int .i64 0)]:=by kernel_rfl
theorem ze217:zBo Tryz.prog 217=some (.agg [.c (.int .i64 0),.c (.int .i64 0),.c (.int .i64 0)]):=by kernel_rfl
theorem fa217:Array.all (#[⟨ "Span",78,0,false,"","",0⟩,⟨ "Owner",3,2,false,"","",16⟩]:Array Field) (fun f=>(szT Tryz.prog f.type).isSome) 0 2=true:=by kernel_rfl
theorem fp217_0:zAg Tryz.prog #[⟨ "Span",78,0,false,"","",0⟩,⟨ "Owner",3,2,false,"","",16⟩] 0=some (0,2):=by kernel_rfl
theorem fp217_1:zAg Tryz.prog #[⟨ "Span",78,0,false,"","",0⟩,⟨ "Owner",3,2,false,"","",16⟩] 1=some (2,1):=by kernel_rfl
theorem fo217_0:zAh Tryz.prog 217 0=some 0:=by kernel_rfl
theorem fo217_1:zAh Tryz.prog 217 1=some 2:=by kernel_rfl
theorem sz218:szT Tryz.prog 218=some 1:=by kernel_rfl
theorem ag218:aggT Tryz.prog 218=some false:=by kernel_rfl
theorem by218:zCr Tryz.prog 218=some 24:=by kernel_rfl
theorem un218:Tryz.prog.underlying 218=some (Go.TypeDesc.slice 217):=by kernel_rfl
theorem ze218:zBo Tryz.prog 218=some (.c (.slice none 0 0)):=by kernel_rfl
theorem ls218 (id st len cap:Nat):aLen Tryz.prog 218 (.sl id st len cap)=some (len:Int):=by unfold aLen; simp only[un218]
theorem ln218 :aLen Tryz.prog 218 (.c (.slice none 0 0))=some 0:=by unfold aLen; simp only[un218]
theorem un229:Tryz.prog.underlying 229=some (Go.TypeDesc.int (Go.IntKind.u64)):=by kernel_rfl
theorem sz233:szT Tryz.prog 233=some 1:=by kernel_rfl
theorem ag233:aggT Tryz.prog 233=some false:=by kernel_rfl
theorem sz240:szT Tryz.prog 240=some 1:=by kernel_rfl
theorem ag240:aggT Tryz.prog 240=some false:=by kernel_rfl
theorem un240:Tryz.prog.underlying 240=some (Go.TypeDesc.map 48 4):=by kernel_rfl
theorem sz241:szT Tryz.prog 241=some 18:=by kernel_rfl
theorem ag241:aggT Tryz.prog 241=some true:=by kernel_rfl
theorem un241:Tryz.prog.underlying 241=some (Go.TypeDesc.array 6 22):=by kernel_rfl
theorem zc241:zeroCells Tryz.prog 241=some [.c (.int .i64 0),.c (.int .i64 0),.c (.int .i64 0),.c (.int .i64 0),.c (.int .i64 0),.c (.int .i64 0),.c (.int .i64 0),.c (.int .i64 0),.c (.int .i64 0),.c (.int .i64 0),.c (.int .i64 0),.c (.int .i64 0),.c (.int .i64 0),.c (.int .i64 0),.c (.int .i64 0),.c (.int .i64 0),.c (.int .i64 0),.c (.int .i64 0)]:=by kernel_rfl
theorem un275:Tryz.prog.underlying 275=some (Go.TypeDesc.slice 30):=by kernel_rfl
theorem sz281:szT Tryz.prog 281=some 4:=by kernel_rfl
theorem un281:Tryz.prog.underlying 281=some (Go.TypeDesc.array 4 3):=by kernel_rfl
theorem zc281:zeroCells Tryz.prog 281=some [.c (.int .i64 0),.c (.int .i64 0),.c (.int .i64 0),.c (.int .i64 0)]:=by kernel_rfl
theorem ia281 (x:AV) (i:Int) (H:List AO):zAk Tryz.prog 281 x i H=(zCy x (i.toNat*1)).map fun v=>(0<=i/\i < 4,v):=by unfold zAk; simp only[un281,show szT Tryz.prog 3=some 1 by kernel_rfl]; rfl
theorem sz283:szT Tryz.prog 283=some 1:=by kernel_rfl
theorem ag283:aggT Tryz.prog 283=some false:=by kernel_rfl
theorem zc283:zeroCells Tryz.prog 283=some [.c .nilFunc]:=by kernel_rfl
theorem sz294:szT Tryz.prog 294=some 1:=by kernel_rfl
theorem ag294:aggT Tryz.prog 294=some false:=by kernel_rfl
theorem ze294:zBo Tryz.prog 294=some (.c (.pointer none)):=by kernel_rfl
theorem un295:Tryz.prog.underlying 295=some (Go.TypeDesc.slice 294):=by kernel_rfl
theorem ia295s (id st len cap:Nat) (i:Int) (H:List AO):zAk Tryz.prog 295 (.sl id st len cap) i H=(match H[id]? with | some (.arr sz es)=>if sz=1 then some (0<=i/\i < (len:Int),.eptr id (st+i.toNat) 0) else none | _=>none):=by unfold zAk; simp only[un295,show szT Tryz.prog 294=some 1 by kernel_rfl]; rfl
theorem ls295 (id st len cap:Nat):aLen Tryz.prog 295 (.sl id st len cap)=some (len:Int):=by unfold aLen; simp only[un295]
theorem un307:Tryz.prog.underlying 307=some (Go.TypeDesc.array 2 30):=by kernel_rfl
theorem zc307:zeroCells Tryz.prog 307=some [.c (.slice none 0 0),.c (.slice none 0 0)]:=by kernel_rfl
theorem ia307 (x:AV) (i:Int) (H:List AO):zAk Tryz.prog 307 x i H=(zCy x (i.toNat*1)).map fun v=>(0<=i/\i < 2,v):=by unfold zAk; simp only[un307,show szT Tryz.prog 30=some 1 by kernel_rfl]; rfl
theorem un359:Tryz.prog.underlying 359=some (Go.TypeDesc.array 64 5):=by kernel_rfl
theorem ia359 (x:AV) (i:Int) (H:List AO):zAk Tryz.prog 359 x i H=(zCy x (i.toNat*1)).map fun v=>(0<=i/\i < 64,v):=by unfold zAk; simp only[un359,show szT Tryz.prog 5=some 1 by kernel_rfl]; rfl
attribute [push_cast] sz3 ag3 by3 un3 zc3 ze3 sz4 ag4 un4 zc4 sz5 ag5 un5 ze5 sz22 ag22 un22 zc22 ia22 sz23 ag23 un23 zc23 ia23 sz24 ag24 un24 ia24s sz26 ag26 un26 zc26 fa26 fp26_0 fp26_1 fp26_2 fp26_3 fp26_4 fp26_5 fo26_0 fo26_1 fo26_2 fo26_3 fo26_4 fo26_5 sz27 ag27 un27 ia27s ls27 ln27 lz27 sz28 ag28 un28 ia28s ls28 sz29 ag29 un29 sz30 ag30 un30 zc30 ze30 ia30i ia30s li30 ls30 ln30 sz32 ag32 un32 zc32 fa32 fp32_0 fp32_1 fp32_2 fp32_3 fp32_4 fo32_0 fo32_1 fo32_2 fo32_3 fo32_4 fo32_5 fo32_6 fo32_7 fo32_8 sz34 ag34 un34 zc34 fa34 fp34_0 fp34_1 fo34_0 fo34_1 sz35 ag35 un35 zc35 ia35 sz37 ag37 by37 un37 zc37 ze37 fa37 fp37_0 fp37_1 fo37_0 fo37_1 sz39 ag39 un39 zc39 fa39 fp39_0 fp39_1 fp39_2 fo39_0 fo39_1 fo39_2 sz40 ag40 ze40 sz42 ag42 zc42 sz48 ag48 by48 un48 zc48 ze48 fa48 fp48_0 fo48_0 fo48_1 fo48_2 sz50 ag50 by50 un50 zc50 ze50 fa50 fp50_0 fp50_1 fp50_3 fp50_4 fp50_8 fo50_0 fo50_1 fo50_2 fo50_3 fo50_4 fo50_5 fo50_6 fo50_7 fo50_8 fo50_9 sz65 ag65 by65 un65 zc65 ze65 fa65 fp65_0 fp65_1 fp65_2 fp65_3 fp65_4 fo65_0 fo65_1 fo65_2 fo65_3 fo65_4 sz74 ag74 un74 ze74 ia74i ia74s li74 sz78 ag78 un78 zc78 fa78 fp78_0 fp78_1 fo78_0 fo78_1 sz88 ag88 un88 zc88 fa88 fp88_0 fo88_0 un89 ia89s ls89 sz93 ag93 by93 un93 zc93 ze93 fa93 fp93_1 fp93_2 fp93_3 fo93_0 fo93_1 fo93_2 fo93_3 sz98 ag98 by98 zc98 ze98 fo98_0 fo98_1 fo98_2 sz100 ag100 un100 ia100s ls100 sz102 ag102 un102 zc102 fa102 fp102_0 fp102_1 fp102_2 fo102_0 fo102_1 fo102_2 un120 ia120s ls120 sz122 ag122 un122 ia122i ia122s li122 ls122 ln122 sz129 ag129 by129 un129 ze129 un140 sz141 ag141 un141 zc141 sz146 ag146 un146 zc146 un151 sz154 ag154 by154 un154 zc154 ze154 fa154 fp154_0 fp154_1 fp154_2 fo154_0 fo154_1 fo154_2 sz166 ag166 un166 ia166i li166 sz186 ag186 un186 zc186 sz188 ag188 zc188 sz217 ag217 by217 un217 zc217 ze217 fa217 fp217_0 fp217_1 fo217_0 fo217_1 sz218 ag218 by218 un218 ze218 ls218 ln218 un229 sz233 ag233 sz240 ag240 un240 sz241 ag241 un241 zc241 un275 sz281 un281 zc281 ia281 sz283 ag283 zc283 sz294 ag294 ze294 un295 ia295s ls295 un307 zc307 ia307 un359 ia359
end Go.Ab
namespace Go.Proofs.Tryz
attribute [push_cast] f3 f4 f5 f6 f8 f9 f10 f11 f12 f13 f14 f15 f16 f17 f20 f21 f22 f23 f24 f25 f26 f27 f28 f29 f30 f31 f32 f33 f34 f35 f36 f37 f38 f39 f40 f41 f42 f43 f44 f45 f46 f47 f48 f51 f54 f55 f56 f57 f58 f59 f60 f61 f62 f63 f64 f65 f66 f67 f68 f69 f70 f71 f72 f73 f74 f75 f76 f77 f78 f79 f80 f81 f82 f83 f84 f85 f86 f88 f89 f93 f94 f95 f96 f97 f101 f102 f103 f104 f105 f106 f107 f108 f109 f110 f111 f112 f113 f114 f115 f116 f117 f118 f119 f120 f121 f122 f123 f124 f125 f126 f127 f128 f129 f130 f131 f132 f133 f134 f135 f136 f137 f138 f139 f140 f141 f142 f143 f144 f145 f146 f147 f148 f149 f150 f151 f154 f155 f156 f157 f162 f163 f164 f165 f166 f167 f170 f171 f172 f173 f174 f175 f176 f177 f179 f180 f181 f182 f183 f184 f185 f186 f187 f188 f189 f190 f191 f192 f193 f194 f195 f196 f197 f198 f199 f200 f201 f202 f203 f204 f205 f206 f207 f208 f209 f210 f211 f212 f224 f226 f228 f229 f231 f232 f233 f234 f235 f236 f238 f239 f240 f241 f242 f243 f244 f245 f246 f247 f248 f249 f250 f251 f252 f255 f256 f270 f273 f282 f283
end Go.Proofs.Tryz
