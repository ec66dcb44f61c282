/- A text of this claim. -/
import Derived.Test.YtplmblgihfogjaaGreatDoorEv3
import Derived.Laws.Small
set_option maxHeartbeats 40000000
set_option maxRecDepth 400000
set_option linter.all false
namespace Go.Ab
structure AR where
 c:Prop
 v:AV
 H:List AO
def aBinI(op:BinOp)(k:IntKind)(a:Int)(yk:IntKind)(b:Int):Option (Prop × Value) :=
 match op with
 | .shl=>some (0<=b,.int k (k.wrap (a*2^(min b.toNat k.bits))))
 | .shr=>some (0<=b,.int k (a.fdiv (2^(min b.toNat k.bits))))
 | _ =>
  if k=yk then
   match op with
   | .add=>some (True,.int k (k.wrap (a+b)))
   | .sub=>some (True,.int k (k.wrap (a - b)))
   | .mul=>some (True,.int k (k.wrap (a*b)))
   | .quo=>some (b≠0,.int k (k.wrap (a.tdiv b)))
   | .rem=>some (b≠0,.int k (a.tmod b))
   | .and=>some (True,.int k (k.wrap ((BitVec.ofInt k.bits a &&& BitVec.ofInt k.bits b).toNat)))
   | .or=>some (True,.int k (k.wrap ((BitVec.ofInt k.bits a ||| BitVec.ofInt k.bits b).toNat)))
   | .xor=>some (True,.int k (k.wrap ((BitVec.ofInt k.bits a ^^^ BitVec.ofInt k.bits b).toNat)))
   | .andNot=>some (True,.int k (k.wrap ((BitVec.ofInt k.bits a &&& ~~~(BitVec.ofInt k.bits b)).toNat)))
   | .eql=>some (True,.bool (a==b))
   | .neq=>some (True,.bool (a != b))
   | .lss=>some (True,.bool (decide (a < b)))
   | .leq=>some (True,.bool (decide (a<=b)))
   | .gtr=>some (True,.bool (decide (b < a)))
   | .geq=>some (True,.bool (decide (b<=a)))
   | _=>none
  else none
theorem aBinI_sound{P:Program}{op:BinOp}{t:TypeId}{k yk:IntKind}{a b:Int}{C:Prop}{v:Value}(h:aBinI op k a yk b=some (C,v))(hC:C)(w:World) :
  (binOp op t (.int k a) (.int yk b)).run P w=.ok v w/\plain v=true:=by
 unfold aBinI at h
 split at h
 ·cases h;have:¬ b < 0:=by omega
  exact⟨by simp[binOp,Op.shift,this],rfl⟩
 ·cases h;have:¬ b < 0:=by omega
  exact⟨by simp[binOp,Op.shift,this],rfl⟩
 ·split at h
  ·rename_i hk;subst hk;cases op <;> simp only[Option.some.injEq,Prod.mk.injEq]at h <;> first
    | (cases h; done)
    | (obtain⟨rfl,rfl⟩:=h
       refine⟨?_,rfl⟩
       first
        | (simp[binOp,Op.intArith]; done)
        | (simp[binOp,Op.intDiv,hC]; done)
        | (simp[binOp,Op.intBits]; done)
        | (simp[binOp,Op.intCmp]; done)
        | simp_all)
  ·cases h
def flatEq(P:Program):Nat->TypeId->Bool
 | 0,_=>false
 | d+1,t=>match P.underlying t with
  | some (.bool)=>true
  | some (.int _)=>true
  | some (.string)=>true
  | some (.struct fs)=>!P.stoodInHeld t&&fs.all fun f=>f.name != "_"&&flatEq P d f.type
  | some (.array _ e)=>flatEq P d e
  | _=>false
def pcell:AV->Option Value
 | .c v=>some v
 | _=>none
def valEq:Value->Value->Option Bool
 | .int k a,.int k' b=>if k=k' then some (a==b) else none
 | .bool a,.bool b=>some (a==b)
 | .string a,.string b=>some (a==b)
 | _,_=>none
def OpV(P:Program)(G:Gl)(n:Nat)(o:Oper)(ts:Nat->AV)(H:List AO)(v:AV)(H':List AO):Prop :=
 ∀(E:En) (w:World) (tmps:Array Value),RelH G w E H->RepT w E n ts tmps->zBj n o=true->∀ D:List Deferred,
  ∃ E' w' r,RelH G w' E' H'/\Grow H E w H' E' w'/\RepV w' E' v r /\
   ((execOp (Act.eval ⟨tmps,D⟩) o).run P w=.ok (.value r) w'\/((execOp (Act.eval ⟨tmps,D⟩) o).run P w=.ok .skip w'/\r=undef))
theorem OpV.toS{P:Program}{G:Gl}{n:Nat}{o:Oper}{ts:Nat->AV}{H H':List AO}{v:AV}(h:OpV P G n o ts H v H'){K:AV->List AO->Prop}(hK:K v H'):OpS P G n o ts H K:=by
 intro E w tmps hH hT hok D c cs
 obtain⟨E',w',r,h1,h2,h3,h4⟩:=h E w tmps hH hT hok D;exact⟨v,H',E',w',r,hK,h1,h2,h3,h4.imp id .inl⟩
theorem OpV.pure{P:Program}{G:Gl}{n:Nat}{o:Oper}{ts:Nat->AV}{H:List AO}{v:AV}
  (h:∀(E:En) (w:World) (tmps:Array Value),RelH G w E H->RepT w E n ts tmps->zBj n o=true->∀ D:List Deferred,∃ r,RepV w E v r/\(execOp (Act.eval ⟨tmps,D⟩) o).run P w=.ok (.value r) w):OpV P G n o ts H v H:=by
 intro E w tmps hH hT hok D
 obtain⟨r,h1,h2⟩:=h E w tmps hH hT hok D;exact⟨E,w,r,hH,Grow.refl _ _ _,h1,.inl h2⟩
def pickA(t:Bool)(a b:AV):AV:=bif t then a else b
def zeroCells(P:Program)(t:TypeId):Option (List AV) :=
 match (P.info? t).bind (·.zero)with
 | some z=>if constOk z=true/\(ofV z).isEl=true then some (ofV z).cells else none
 | none=>none
def zCu:AV->Bool
 | .ptr _ _=>true
 | .eptr _ _ _=>true
 | .iptr _ _=>true
 | .gp _ _=>true
 | .fn _ _ _=>true
 | _=>false
def zAh(P:Program)(s:TypeId)(f:Nat):Option Nat :=
 match P.underlying s with
 | some (.struct fields)=>match fields[f]? with
  | some fl=>match szT P fl.type with
   | some (m+1)=>some fl.offset
   | _=>none
  | none=>none
 | _=>none
def zCy:AV->Nat->Option AV
 | .ptr id off,k=>some (.ptr id (off+k))
 | .eptr id i off,k=>some (.eptr id i (off+k))
 | .iptr cs off,k=>some (.iptr cs (off+k))
 | .gp g off,k=>some (.gp g (off+k))
 | _,_=>none
def zAk(P:Program)(t:TypeId)(x:AV)(i:Int)(H:List AO):Option (Prop × AV) :=
 match P.underlying t with
 | some (.array len elem)=>match szT P elem with
  | some sz=>if 1 < len then (zCy x (i.toNat*sz)).map fun v=>(0<=i/\i < len,v) else none
  | none=>none
 | some (.slice elem)=>match szT P elem,x with
  | some sz,.sl id st len cap=>match H[id]? with
   | some (.arr sz' es)=>if sz'=sz then some (0<=i/\i < len,.eptr id (st+i.toNat) 0) else none
   | _=>none
  | some sz,.bs id off len cap sz'=>if sz'=sz then some (0<=i/\i < len,.ptr id (off+i.toNat*sz)) else none
  | some sz,.isl es=>some ((0<=i/\i < es.length)/\(es.getD i.toNat .un).cells.length=sz,.iptr (es.getD i.toNat .un).cells 0)
  | _,_=>none
 | _=>none
def aPart(P:Program)(t:TypeId)(cs:List AV)(off:Nat):Option AV :=
 match aggT P t,szT P t with
 | some true,some m=>if off+m<=cs.length then some (.agg ((cs.drop off).take m)) else none
 | some false,_=>cs[off]?
 | _,_=>none
def aIdx(P:Program)(t:TypeId)(x:AV)(i:Int):Option (Prop × AV) :=
 match P.underlying t,x with
 | some (.array len elem),.agg cs=>match szT P elem with
  | some sz=>(aPart P elem cs (i.toNat*sz)).map fun v=>(0<=i/\i < len,v)
  | none=>none
 | some .string,.c (.string s)=>match s.data.toList[i.toNat]? with
  | some b=>some (0<=i,.c (.int .u8 b.toNat))
  | none=>none
 | _,_=>none
def aField(P:Program)(t:TypeId)(x:AV)(f:Nat):Option AV :=
 match P.underlying t,x with
 | some (.struct fields),.agg cs=>match fields[f]? with
  | some fl=>aPart P fl.type cs fl.offset
  | none=>none
 | _,_=>none
def aFill(place:Nat->Option (Nat × Nat))(cells:List AV):List (Nat × AV)->Option (List AV)
 | []=>some cells
 | (i,v)::rest=>match place i with
  | none=>none
  | some (off,size)=>if v.isEl=true/\v.cells.length=size/\off+size<=cells.length then aFill place (zEo cells off v.cells) rest else none
def zAg(P:Program)(fields:Array Field)(i:Nat):Option (Nat × Nat) :=
 match fields[i]? with
 | some f=>(szT P f.type).map fun m=>(f.offset,m)
 | none=>none
def aBuild(P:Program)(t:TypeId)(parts:List (Nat × AV)):Option AV :=
 match zeroCells P t with
 | none=>none
 | some z=>match P.underlying t with
  | some (.struct fields)=>if fields.all (fun f=>(szT P f.type).isSome) then (aFill (zAg P fields) z parts).map .agg else none
  | some (.array _ elem)=>match szT P elem with
   | some sz=>(aFill (fun i=>some (i*sz,sz)) z parts).map .agg
   | none=>none
  | _=>none
def zBo(P:Program)(t:TypeId):Option AV :=
 match (P.info? t).bind (·.zero)with
 | some z=>if constOk z=true/\(ofV z).isEl=true/\szT P t=some (ofV z).cells.length/\0 < (ofV z).cells.length then some (ofV z) else none
 | none=>none
def aFillEs(len sz:Nat)(es:List AV):List (Nat × AV)->Option (List AV)
 | []=>some es
 | (i,v)::rest=>if v.isEl=true/\v.cells.length=sz/\i < len then aFillEs len sz (es.set i v) rest else none
def zCr(P:Program)(t:TypeId):Option Nat:=(P.info? t).map (·.bytes)
def aInt:AV->Option (IntKind × Int)
 | .c (.int k n)=>some (k,n)
 | _=>none
def zBi(d:Nat):Option AV->Option (Prop × Nat)
 | none=>some (True,d)
 | some v=>match aInt v with
  | some (_,n)=>some (0<=n,n.toNat)
  | none=>none
def zCm(P:Program)(t:TypeId)(x:AV)(H:List AO)(lo hi mx:Option AV):Option (Prop × AV) :=
 match P.underlying t,x,mx with
 | some (.slice elem),.sl id st len cap,none=>match szT P elem,H[id]?,zBi 0 lo,zBi len hi with
  | some sz,some (.arr sz' _),some (c1,l),some (c2,h)=>if sz'=sz then some (c1/\c2/\l<=h/\h<=cap,.sl id (st+l) (h - l) (cap - l)) else none
  | _,_,_,_=>none
 | some (.slice elem),.isl es,none=>match szT P elem,zBi 0 lo,zBi es.length hi with
  | some sz,some (c1,l),some (c2,h)=>some (c1/\c2/\l<=h/\h<=es.length/\(l < h->(es.getD l .un).cells.length=sz),.isl ((es.drop l).take (h - l)))
  | _,_,_=>none
 | some (.slice elem),.c (.slice none 0 0),none=>match szT P elem,zBi 0 lo,zBi 0 hi with
  | some _,some (c1,l),some (c2,h)=>some (c1/\c2/\l<=h/\h<=0,.c (.slice none 0 0))
  | _,_,_=>none
 | some (.slice elem),.zs,none=>match szT P elem,zBi 0 lo,zBi 0 hi with
  | some _,some (c1,l),some (c2,h)=>some (c1/\c2/\l<=h/\h<=0,.zs)
  | _,_,_=>none
 | some (.slice elem),.c (.slice none 0 0),some m=>match szT P elem,aInt m,zBi 0 lo,hi.bind aInt with
  | some _,some (_,q),some (c1,l),some (_,h)=>some (c1/\l=0/\h=0/\q=0,.c (.slice none 0 0))
  | _,_,_,_=>none
 | some (.slice elem),.isl es,some m=>match szT P elem,aInt m,zBi 0 lo,hi.bind aInt with
  | some _,some (_,q),some (c1,l),some (_,h)=>some (c1/\l=0/\h=0/\q=0,.zs)
  | _,_,_,_=>none
 | some (.slice elem),.sl id st len cap,some m=>match szT P elem,aInt m,zBi 0 lo,hi.bind aInt with
  | some sz,some (_,q),some (c1,l),some (_,h)=>if q=0 then some (c1/\l=0/\h=0,.zs) else match H[id]? with
   | some (.arr sz' _)=>if sz'=sz then some (c1/\0<=h/\l<=h.toNat/\h<=q/\q<=cap,.sl id (st+l) (h.toNat - l) (q.toNat - l)) else none
   | _=>none
  | _,_,_,_=>none
 | some (.slice elem),.zs,some m=>match szT P elem,aInt m,zBi 0 lo,hi.bind aInt with
  | some _,some (_,q),some (c1,l),some (_,h)=>some (c1/\l=0/\h=0/\q=0,.zs)
  | _,_,_,_=>none
 | some .string,.c (.string s),none=>match zBi 0 lo,zBi s.size hi with
  | some (c1,l),some (c2,h)=>some (c1/\c2/\l<=h/\h<=s.size,.c (.string (s.extract l h)))
  | _,_=>none
 | some (.array m elem),.ptr id off,none=>match szT P elem,zBi 0 lo,zBi m hi with
  | some sz,some (c1,l),some (c2,h)=>some (c1/\c2/\l<=h/\h<=m/\(l < m\/l=0),.bs id (off+l*sz) (h - l) (m - l) sz)
  | _,_,_=>none
 | some (.array m elem),.iptr cs off,none=>match szT P elem,zBi 0 lo,zBi m hi with
  | some sz,some (c1,l),some (c2,h)=>some (sz=1/\c1/\c2/\l<=h/\h<=m/\off+m<=cs.length/\(l < m\/l=0),.isl ((cs.drop (off+l)).take (h - l)))
  | _,_,_=>none
 | _,_,_=>none
def aLen(P:Program)(t:TypeId)(x:AV):Option Int :=
 match P.underlying t,x with
 | some (.slice _),.sl _ _ len _=>some len
 | some (.slice _),.bs _ _ len _ _=>some len
 | some (.slice _),.isl es=>some es.length
 | some (.slice _),.zs=>some 0
 | some (.slice _),.c (.slice none 0 0)=>some 0
 | some .string,.c (.string s)=>some s.size
 | _,_=>none
def aEqF(P:Program)(rec:TypeId->AV->AV->Option Bool)(xs ys:List AV):List Field->Option Bool
 | []=>some true
 | f::fs=>if f.name= "_" then none else match aPart P f.type xs f.offset,aPart P f.type ys f.offset with
  | some a,some b=>match rec f.type a b,aEqF P rec xs ys fs with
   | some r,some s=>some (r&&s)
   | _,_=>none
  | _,_=>none
def aEqA(P:Program)(rec:AV->AV->Option Bool)(elem:TypeId)(n:Nat)(xs ys:List AV)(i:Nat):Nat->Option Bool
 | 0=>some true
 | m+1=>match aPart P elem xs (i*n),aPart P elem ys (i*n)with
  | some a,some b=>match rec a b,aEqA P rec elem n xs ys (i+1) m with
   | some r,some s=>some (r&&s)
   | _,_=>none
  | _,_=>none
def aEq(P:Program):Nat->TypeId->AV->AV->Option Bool
 | 0,_,_,_=>none
 | d+1,t,x,y=>match P.underlying t,x,y with
  | some .bool,.c (.bool a),.c (.bool b)=>some (a==b)
  | some (.int _),.c (.int k a),.c (.int k' b)=>if k=k' then some (a==b) else none
  | some .string,.c (.string a),.c (.string b)=>some (a==b)
  | some (.struct fs),.agg xs,.agg ys=>if P.stoodInHeld t=false then aEqF P (aEq P d) xs ys fs.toList else none
  | some (.array len elem),.agg xs,.agg ys=>match szT P elem with
   | some n=>aEqA P (aEq P d elem) elem n xs ys 0 len
   | none=>none
  | _,_,_=>none
def zDd:AV->Option Bool
 | .c (.slice none 0 0)=>some true
 | .sl _ _ _ _=>some false
 | .zs=>some false
 | .isl _=>some false
 | .bs _ _ _ _ _=>some false
 | _=>none
def isNilI:AV->Option Bool
 | .c .nilIface=>some true
 | .ifc _ _=>some false
 | _=>none
def aEqS(P:Program)(t:TypeId)(x y:AV):Option Bool :=
 match x,y with
 | .agg xs,.agg ys=>if P.eqGuardType P.depth t=false then aEq P 10000 t (.agg xs) (.agg ys) else none
 | x,y=>match P.underlying t with
  | some (.slice _)=>match zDd x,zDd y with
   | some true,some b=>some b
   | some b,some true=>some b
   | _,_=>none
  | some (.interface ms)=>if ms.isEmpty=true then match isNilI x,isNilI y with
   | some true,some b=>some b
   | some b,some true=>some b
   | _,_=>none
   else none
  | _=>none
def zAn(P:Program)(op:BinOp)(t:TypeId)(x y:AV):Option (Prop × AV) :=
 match op with
 | .eql=>(aEqS P t x y).map fun b=>(True,.c (.bool b))
 | .neq=>(aEqS P t x y).map fun b=>(True,.c (.bool !b))
 | _=>none
def aBin(P:Program)(op:BinOp)(t:TypeId)(x y:AV):Option (Prop × AV) :=
 match x,y with
 | .c (.int k a),.c (.int yk b)=>(aBinI op k a yk b).map fun p=>(p.1,.c p.2)
 | .c (.bool a),.c (.bool b)=>match P.underlying t,op with
  | some .bool,.eql=>some (True,.c (.bool (a==b)))
  | some .bool,.neq=>some (True,.c (.bool (a != b)))
  | _,_=>none
 | x,y=>zAn P op t x y
def elsOf(H:List AO)(sz:Nat):AV->Option (Prop × List AV)
 | .sl id st len cap=>match H[id]? with
  | some (.arr sz' es)=>if sz'=sz/\st+len<=es.length then some (True,(es.drop st).take len) else none
  | _=>none
 | .isl es=>some (0 < es.length->(es.getD 0 .un).cells.length=sz,es)
 | .c (.slice none 0 0)=>some (True,[])
 | .zs=>some (True,[])
 | _=>none
def emptyS:AV->Bool
 | .c (.slice none 0 0)=>true
 | .zs=>true
 | _=>false
def zDf(z:AV)(by':Nat)(c:Prop)(els:List AV)(s:AV)(H:List AO):Option AR:=match els with
 | []=>some ⟨c,s,H⟩
 | e::l=>some ⟨c/\(l.length+1)*by'<=2^40/\l.length+1<=2^40,.sl H.length 0 (l.length+1) (l.length+1),H++[.arr z.cells.length (e::l)]⟩
def zBk(P:Program)(t u:TypeId)(s x:AV)(H:List AO):Option AR :=
 match P.underlying t,P.underlying u with
 | some (.slice elem),some (.slice _)=>match zBo P elem,zCr P elem with
  | some z,some by'=>match elsOf H z.cells.length x with
   | none=>none
   | some (c,els)=>match s with
    | .sl id st len cap=>match els with
     | []=>some ⟨c,.sl id st len cap,H⟩
     | e0::l0=>match H[id]? with
     | some (.arr sz es)=>if sz=z.cells.length/\st+len<=es.length/\0 < cap then
       some ⟨c/\(len+els.length)*by'<=2^40/\len+els.length<=2^40,.sl H.length 0 (len+els.length) (len+els.length),H.set id .dead++[.arr sz ((es.drop st).take len++els)]⟩
      else none
     | _=>none
    | .c (.slice none 0 0)=>zDf z by' c els (.c (.slice none 0 0)) H
    | .zs=>zDf z by' c els .zs H
    | _=>none
  | _,_=>none
 | _,_=>none
def aClear(P:Program)(t:TypeId)(x:AV)(H:List AO):Option AR :=
 match P.underlying t with
 | some (.slice elem)=>match x with
  | .sl id st len cap=>match zBo P elem,H[id]? with
   | some z,some (.arr sz es)=>if sz=z.cells.length/\st+len<=es.length/\0 < cap then
     some ⟨True,.un,H.set id (.arr sz (es.take st++(List.replicate len z++es.drop (st+len))))⟩ else none
   | _,_=>none
  | .c (.slice none 0 0)=>some ⟨True,.un,H⟩
  | .zs=>some ⟨True,.un,H⟩
  | _=>none
 | _=>none
def flatC:AV->Bool
 | .c (.int _ _)=>true
 | .c (.bool _)=>true
 | _=>false
def flatA:AV->Bool
 | .agg cs=>cs.all flatC
 | a=>flatC a
def ckF(P:Program)(rec:TypeId->AV->Bool)(cs:List AV):List Field->Bool
 | []=>true
 | f::fs=>(f.name== "_"||(match aPart P f.type cs f.offset with | some a=>rec f.type a | none=>false))&&ckF P rec cs fs
def ckA(P:Program)(rec:AV->Bool)(elem:TypeId)(n:Nat)(cs:List AV)(i:Nat):Nat->Bool
 | 0=>true
 | m+1=>(match aPart P elem cs (i*n)with | some a=>rec a | none=>false)&&ckA P rec elem n cs (i+1) m
def ckOk(P:Program):Nat->TypeId->AV->Bool
 | 0,_,_=>false
 | d+1,t,v=>match P.underlying t,v with
  | some (.array len elem),.agg cs=>match szT P elem with
   | some n=>ckA P (ckOk P d elem) elem n cs 0 len
   | none=>false
  | some (.struct fs),.agg cs=>ckF P (ckOk P d) cs fs.toList
  | some (.int _),.c (.int _ _)=>true
  | some .bool,.c (.bool _)=>true
  | some .string,.c (.string _)=>true
  | _,_=>false
def zEk(P:Program)(kt:TypeId)(k:AV):List (Nat × AV × AV)->Option (Option Nat)
 | []=>some none
 | e::es=>match aEq P 10000 kt k e.2.1 with
  | some true=>some (some 0)
  | some false=>(zEk P kt k es).map fun o=>o.map (·+1)
  | none=>none
def zDa(P:Program)(t:TypeId)(m k v:AV)(H:List AO):Option AR :=
 match P.underlying t,m with
 | some (.map kt _),.mp id=>match H[id]? with
  | some (.map es clock)=>if ckOk P 10000 kt k=true/\flatA k=true then match zEk P kt k es with
    | some (some i)=>some ⟨(es.getD i default).2.1=k,.un,H.set id (.map (es.set i ((es.getD i default).1,k,v)) clock)⟩
    | some none=>some ⟨True,.un,H.set id (.map (es++[(clock,k,v)]) (clock+1))⟩
    | none=>none
   else none
  | _=>none
 | _,_=>none
def lkRes:Bool->AV->Bool->AV
 | true,v,b=>.tup [v,.c (.bool b)]
 | false,v,_=>v
def lkZero(P:Program)(et:TypeId)(cm:Bool)(H:List AO):Option AR:=match zBo P et with
 | some z=>some ⟨True,lkRes cm z false,H⟩
 | none=>none
def aLookup(P:Program)(t:TypeId)(m k:AV)(cm:Bool)(H:List AO):Option AR :=
 match P.underlying t with
 | some (.map kt et)=>if ckOk P 10000 kt k=true then match m with
  | .mp id=>match H[id]? with
   | some (.map es _)=>match zEk P kt k es with
    | some (some i)=>some ⟨True,lkRes cm (es.getD i default).2.2 true,H⟩
    | some none=>lkZero P et cm H
    | none=>none
   | _=>none
  | .c (.map none)=>lkZero P et cm H
  | _=>none
  else none
 | _=>none
def aRange(P:Program)(t:TypeId)(x:AV)(H:List AO):Option AR :=
 match P.underlying t,x with
 | some (.map _ _),.mp id=>match H[id]? with
  | some (.map _ clock)=>some ⟨True,.ptr H.length 0,H++[.mit id clock [] clock]⟩
  | _=>none
 | _,_=>none
def aEntry(x:AV)(H:List AO):Option AR :=
 match x with
 | .ptr id 0=>match H[id]? with
  | some (.mit mid _ seen stepped)=>match seen.getLast?,H[mid]? with
   | some stamp,some (.map es clock)=>if clock=stepped then match es.find? fun e=>e.1==stamp with
     | some e=>some ⟨True,.tup [e.2.1,e.2.2],H⟩
     | none=>none
    else none
   | _,_=>none
  | _=>none
 | _=>none
def zDs(es:List (Nat × AV × AV))(seen:List Nat):List (Nat × AV × AV):=es.filter fun e=>!seen.contains e.1
def aNext(x:AV)(H:List AO):Option (Nat × Nat × Nat × List Nat × Nat × List (Nat × AV × AV)) :=
 match x with
 | .ptr id 0=>match H[id]? with
  | some (.mit mid since seen stepped)=>match H[mid]? with
   | some (.map es clock)=>if (es.all fun e=>decide (e.1 < since))=true/\since<=stepped then some (id,mid,since,seen,clock,zDs es seen) else none
   | _=>none
  | _=>none
 | _=>none
def slv(id:Nat):Nat->AV
 | 0=>.zs
 | n+1=>.sl id 0 (n+1) (n+1)
def aMM(mx:Bool)(a b:AV):Option AV:=match aInt a,aInt b with
 | some (k,x),some (_,y)=>some (.c (.int k (match mx with
  | true=>if x < y then y else x
  | false=>if y < x then y else x)))
 | _,_=>none
def aCap(P:Program)(t:TypeId)(x:AV):Option Int:=match P.underlying t,x with
 | some (.slice _),.c (.slice none 0 0)=>some 0
 | some (.slice _),.zs=>some 0
 | some (.slice _),.bs _ _ _ cap _=>some cap
 | _,_=>none
def aCopy(P:Program)(t:TypeId)(d x:AV)(H:List AO):Option AR:=match P.underlying t with
 | some (.slice elem)=>match szT P elem with
  | some (sz+1)=>match elsOf H (sz+1) x with
   | some (c,els)=>match d with
    | .sl id st len cap=>match H[id]? with
     | some (.arr sz' es)=>if sz'=sz+1/\st+len<=es.length/\0 < cap then
       some ⟨c,.c (.int .i64 ((min els.length len:Nat):Int)),H.set id (.arr sz' (es.take st++(els.take (min els.length len)++es.drop (st+min els.length len))))⟩ else none
     | _=>none
    | .c (.slice none 0 0)=>some ⟨c,.c (.int .i64 0),H⟩
    | .zs=>some ⟨c,.c (.int .i64 0),H⟩
    | _=>none
   | none=>none
  | _=>none
 | _=>none
def aAppMake(P:Program)(t:TypeId)(s x:AV)(H:List AO):Option AR:=match P.underlying t with
 | some (.slice elem)=>match zBo P elem,zCr P elem,aInt x with
  | some z,some by',some (_,n)=>if emptyS s=true then match n with
   | .ofNat 0=>some ⟨True,s,H⟩
   | .ofNat (m+1)=>some ⟨(m+1)*by'<=2^40/\m+1<=2^40,.sl H.length 0 (m+1) (m+1),H++[.arr z.cells.length (List.replicate (m+1) z)]⟩
   | _=>none
   else none
  | _,_,_=>none
 | _=>none
def aMapEntry(P:Program)(t:TypeId)(m k:AV)(H:List AO):Option AR :=
 match P.underlying t,m with
 | some (.map kt et),.mp id=>match H[id]? with
  | some (.map es clock)=>if ckOk P 10000 kt k=true/\flatA k=true then match zEk P kt k es with
    | some (some i)=>some ⟨(es.getD i default).2.1=k,.tup [(es.getD i default).2.2,.c (.int .i64 (es.getD i default).1)],H.set id (.map (es.set i ((es.getD i default).1,k,(es.getD i default).2.2)) clock)⟩
    | some none=>match zBo P et with
     | some z=>some ⟨True,.tup [z,.c (.int .i64 clock)],H.set id (.map (es++[(clock,k,z)]) (clock+1))⟩
     | none=>none
    | none=>none
   else none
  | _=>none
 | _,_=>none
def zEp(m s v:AV)(H:List AO):Option AR :=
 match m,aInt s with
 | .mp id,some (_,n)=>match H[id]? with
  | some (.map es clock)=>match es.findIdx? (fun e=>(e.1:Int)==n)with
   | some i=>some ⟨True,.un,H.set id (.map (es.set i ((es.getD i default).1,(es.getD i default).2.1,v)) clock)⟩
   | none=>none
  | _=>none
 | _,_=>none
def aTA(P:Program)(x:AV)(t:TypeId)(cm:Bool):Option AV:=match P.underlying t with
 | none=>none
 | some (.interface _)=>none
 | some _=>match x with
  | .ifc d v=>match Nat.beq d t with
   | true=>some (if cm=true then .tup [v,.c (.bool true)] else v)
   | false=>if cm=true then (zBo P t).map fun z=>.tup [z,.c (.bool false)] else none
  | .c .nilIface=>if cm=true then (zBo P t).map fun z=>.tup [z,.c (.bool false)] else none
  | _=>none
def aop3(P:Program)(op:Op)(ρ:Operand->AV)(H:List AO):Option AR :=
 match op with
 | .call { callee:=.builtin .min,args,argTypes:=_ }=>match args.toList with
  | [a,b]=>(aMM false (ρ a) (ρ b)).map fun v=>⟨True,v,H⟩
  | _=>none
 | .call { callee:=.builtin .max,args,argTypes:=_ }=>match args.toList with
  | [a,b]=>(aMM true (ρ a) (ρ b)).map fun v=>⟨True,v,H⟩
  | _=>none
 | .call { callee:=.builtin .cap,args,argTypes }=>match argTypes[0]?,args[0]? with
  | some t,some x=>(aCap P t (ρ x)).map fun n=>⟨True,.c (.int .i64 n),H⟩
  | _,_=>none
 | .call { callee:=.builtin .copy,args,argTypes }=>match argTypes[0]?,args[0]?,args[1]? with
  | some t,some d,some x=>aCopy P t (ρ d) (ρ x) H
  | _,_,_=>none
 | .insert t m k v=>zDa P t (ρ m) (ρ k) (ρ v) H
 | .mapEntry t m k=>aMapEntry P t (ρ m) (ρ k) H
 | .entryStore _ m s v=>zEp (ρ m) (ρ s) (ρ v) H
 | .typeAssert x _ t cm=>(aTA P (ρ x) t cm).map fun v=>⟨True,v,H⟩
 | _=>none
def aop2(P:Program)(op:Op)(ρ:Operand->AV)(H:List AO):Option AR :=
 match op with
 | .call { callee:=.builtin .append,args,argTypes }=>match argTypes[0]?,argTypes[1]?,args[0]?,args[1]? with
  | some t,some u,some s,some x=>match P.underlying u with
   | some (.int _)=>aAppMake P t (ρ s) (ρ x) H
   | _=>zBk P t u (ρ s) (ρ x) H
  | _,_,_,_=>none
 | .call { callee:=.builtin .clear,args,argTypes }=>match argTypes[0]?,args[0]? with
  | some t,some x=>aClear P t (ρ x) H
  | _,_=>none
 | .makeMap _ none=>some ⟨True,.mp H.length,H++[.map [] 0]⟩
 | .mapUpdate t m k v=>zDa P t (ρ m) (ρ k) (ρ v) H
 | .range t x=>aRange P t (ρ x) H
 | .entry x=>aEntry (ρ x) H
 | .lookup t m k cm=>aLookup P t (ρ m) (ρ k) cm H
 | op=>aop3 P op ρ H
def aop(P:Program)(G:Gl)(op:Op)(ρ:Operand->AV)(H:List AO):Option AR :=
 match op with
 | .move x=>some ⟨True,ρ x,H⟩
 | .assign x=>some ⟨True,ρ x,H⟩
 | .pick c a b=>match ρ c with
  | .c (.bool t)=>some ⟨True,pickA t (ρ a) (ρ b),H⟩
  | _=>none
 | .alloc t=>match zeroCells P t with
  | some cs=>some ⟨True,.ptr H.length 0,H++[.cells cs]⟩
  | none=>none
 | .box t x=>if (ρ x).isEl=true then some ⟨True,.ptr H.length 0,H++[.cells (ρ x).cells]⟩ else none
 | .load t a=>(aload P G t (ρ a) H).map fun v=>⟨True,v,H⟩
 | .store t a x=>(astore P t (ρ a) (ρ x) H).map fun H'=>⟨True,.un,H'⟩
 | .nilCheck x=>if zCu (ρ x)=true then some ⟨True,ρ x,H⟩ else none
 | .binOp op t x y _=>(aBin P op t (ρ x) (ρ y)).map fun p=>⟨p.1,p.2,H⟩
 | .unOp .not _ x=>match ρ x with
  | .c (.bool b)=>some ⟨True,.c (.bool !b),H⟩
  | _=>none
 | .unOp .neg _ x=>match ρ x with
  | .c (.int k n)=>some ⟨True,.c (.int k (k.wrap (0 - n))),H⟩
  | _=>none
 | .convert s t x=>match ρ x,P.underlying s,P.underlying t with
  | .c (.int _ n),some _,some (.int k)=>some ⟨True,.c (.int k (k.wrap n)),H⟩
  | _,_,_=>none
 | .makeInterface t x=>match P.underlying t with
  | some (.interface _)=>none
  | some _=>some ⟨True,.ifc t (ρ x),H⟩
  | none=>none
 | .makeFunc (.func f) first caps=>some ⟨True,.fn f (first.toList.map ρ) (caps.toList.map ρ),H⟩
 | .fieldAddr s x f=>match zAh P s f with
  | some k=>(zCy (ρ x) k).map fun v=>⟨True,v,H⟩
  | none=>none
 | .indexAddr t x i=>match aInt (ρ i)with
  | some (_,n)=>(zAk P t (ρ x) n H).map fun p=>⟨p.1,p.2,H⟩
  | none=>none
 | .index t x i=>match aInt (ρ i)with
  | some (_,n)=>(aIdx P t (ρ x) n).map fun p=>⟨p.1,p.2,H⟩
  | none=>none
 | .field t x f=>(aField P t (ρ x) f).map fun v=>⟨True,v,H⟩
 | .extract x i=>match ρ x with
  | .tup vs=>(vs[i]?).map fun v=>⟨True,v,H⟩
  | _=>none
 | .build t parts=>(aBuild P t (parts.toList.map fun p=>(p.1,ρ p.2))).map fun v=>⟨True,v,H⟩
 | .buildSlice t len parts=>match P.underlying t with
  | some (.slice elem)=>match zBo P elem with
   | some z=>if len*z.cells.length<=2^24 then (aFillEs len z.cells.length (List.replicate len z) (parts.toList.map fun p=>(p.1,ρ p.2))).map fun es=>⟨True,slv H.length len,H++[.arr z.cells.length es]⟩ else none
   | none=>none
  | _=>none
 | .makeSlice t l c=>match P.underlying t,aInt (ρ l),aInt (ρ c)with
  | some (.slice elem),some (_,n),some (_,m)=>match zBo P elem,zCr P elem with
   | some z,some by'=>some ⟨0<=n/\n=m/\by'*n<=2^40/\n<=2^40,slv H.length n.toNat,H++[.arr z.cells.length (List.replicate n.toNat z)]⟩
   | _,_=>none
  | _,_,_=>none
 | .slice t x lo hi mx=>(zCm P t (ρ x) H (lo.map ρ) (hi.map ρ) (mx.map ρ)).map fun p=>⟨p.1,p.2,H⟩
 | .call { callee:=.builtin .len,args,argTypes }=>match argTypes[0]?,args[0]? with
  | some t,some x=>(aLen P t (ρ x)).map fun n=>⟨True,.c (.int .i64 n),H⟩
  | _,_=>none
 | op=>aop2 P op ρ H
section
variable {P:Program} {G:Gl} {n:Nat} {o:Oper} {ts:Nat->AV} {H H':List AO} {v:AV} {C:Prop}
theorem opd1{x:Operand}(ho:o.op.operands=#[x])(hok:zBj n o=true):zDi n x=true:=by
 simp only[zBj,ho,zA]at hok; simpa using hok.2
theorem opd2{x y:Operand}(ho:o.op.operands=#[x,y])(hok:zBj n o=true):zDi n x=true/\zDi n y=true:=by
 simp only[zBj,ho,zA]at hok; simpa using hok.2
theorem opd3{x y z:Operand}(ho:o.op.operands=#[x,y,z])(hok:zBj n o=true):zDi n x=true/\zDi n y=true/\zDi n z=true:=by
 simp only[zBj,ho,zA]at hok; simpa using hok.2
theorem zFf{w:World}{E:En}{a:AV}{r:Value}(h:RepV w E a r){k:IntKind}{i:Int}(ha:aInt a=some (k,i)):r=.int k i:=by
 unfold aInt at ha
 split at ha
 ·cases ha; exact h.c_inv
 ·cases ha
theorem opv_move{x:Operand}(ho:o.op=.move x):OpV P G n o ts H (ev ts x) H :=
 OpV.pure fun E w tmps hH hT hok D=>⟨_,zAv hT (opd1 (by rw[ho]; rfl) hok) D,by simp[execOp,ho]⟩
theorem opv_assign{x:Operand}(ho:o.op=.assign x):OpV P G n o ts H (ev ts x) H :=
 OpV.pure fun E w tmps hH hT hok D=>⟨_,zAv hT (opd1 (by rw[ho]; rfl) hok) D,by simp[execOp,ho]⟩
theorem opv_pick{c a b:Operand}(ho:o.op=.pick c a b){t:Bool}(hc:ev ts c=.c (.bool t)):OpV P G n o ts H (pickA t (ev ts a) (ev ts b)) H :=
 OpV.pure fun E w tmps hH hT hok D=>by
  obtain⟨h1,h2,h3⟩:=opd3 (by rw[ho]; rfl) hok;have hb:=zAv hT h1 D;rw[hc]at hb;have hb':=hb.c_inv;cases t with
  | true=>exact⟨_,zAv hT h2 D,by simp[execOp,ho,hb',asBool,Sem.run_bind,Result.andThen]⟩
  | false=>exact⟨_,zAv hT h3 D,by simp[execOp,ho,hb',asBool,Sem.run_bind,Result.andThen]⟩
theorem zEj{z:Value}(hz:constOk z=true/\(ofV z).isEl=true)(w:World)(E:En):z.cells.size=(ofV z).cells.length /\
  ∀ j,j < (ofV z).cells.length->((ofV z).cells.getD j .un).isCell=true/\RepV w E ((ofV z).cells.getD j .un) (z.cells.getD j undef):=by
 obtain⟨h1,h2⟩:=zEz (rep_const hz.1 w E) hz.2;refine⟨h1,fun j hj=>?_⟩;have:=h2 j hj
 rwa [show z.cells.toList.getD j undef=z.cells.getD j undef by simp[List.getD,Array.getD_eq_getD_getElem?]]at this
theorem opv_alloc{t:TypeId}(ho:o.op=.alloc t){cs:List AV}(h:zeroCells P t=some cs):OpV P G n o ts H (.ptr H.length 0) (H++[.cells cs]):=by
 intro E w tmps hH hT hok D
 unfold zeroCells at h;cases hi:P.info? t with
 | none=>rw[hi]at h; cases h
 | some i =>
  cases hz:i.zero with
  | none=>rw[hi]at h; simp[hz]at h
  | some z =>
   rw[hi]at h;simp only[Option.bind_some,hz]at h
   split at h
   ·rename_i hc;cases h;obtain⟨h1,h2⟩:=zEj hc w E;obtain⟨E',g1,g2,g3,g4⟩:=new_sound (P:=P) hH t h1 h2;refine⟨E',_,_,g2,g3,.ptr g4,.inl ?_⟩;have g1':(newRow t z.cells).run P w=.ok ⟨w.heap.size,0,none⟩ (w.alloc (.cells z.cells t)):=g1;simp only[execOp,ho,Instr.alloc,zeroValue,typeInfo,program,Sem.run_bind,newVar,Sem.run,Result.andThen_ok,hi,hz,Sem.run_pure,g1']
   ·cases h
theorem opv_box{t:TypeId}{x:Operand}(ho:o.op=.box t x)(h:(ev ts x).isEl=true):OpV P G n o ts H (.ptr H.length 0) (H++[.cells (ev ts x).cells]):=by
 intro E w tmps hH hT hok D
 have hx:=zAv hT (opd1 (by rw[ho]; rfl) hok) D;obtain⟨h1,h2⟩:=zEz hx h;obtain⟨E',g1,g2,g3,g4⟩:=new_sound (P:=P) hH t h1 (fun j hj=>by
  have:=h2 j hj
  rwa [show(Act.eval ⟨tmps,D⟩ x).cells.toList.getD j undef=(Act.eval ⟨tmps,D⟩ x).cells.getD j undef by simp[List.getD,Array.getD_eq_getD_getElem?]]at this)
 refine⟨E',_,_,g2,g3,.ptr g4,.inl ?_⟩;simp only[execOp,ho,Instr.box,newVar,Sem.run_bind,g1,Result.andThen_ok,Sem.run_pure]
theorem opv_load{t:TypeId}{a:Operand}(ho:o.op=.load t a)(h:aload P G t (ev ts a) H=some v):OpV P G n o ts H v H :=
 OpV.pure fun E w tmps hH hT hok D=>by
  obtain⟨ad,r,h1,h2,h3⟩:=aload_sound h hH (zAv hT (opd1 (by rw[ho]; rfl) hok) D);exact⟨r,h3,by simp[execOp,ho,h1,Instr.loadAt,Instr.sureAddr,Sem.run_bind,h2,Result.andThen]⟩
theorem rep_un(w:World)(E:En):RepV w E .un undef:=.tup rfl (fun i hi=>by simp at hi)
theorem opv_store{t:TypeId}{a x:Operand}(ho:o.op=.store t a x)(h:astore P t (ev ts a) (ev ts x) H=some H'):OpV P G n o ts H .un H':=by
 intro E w tmps hH hT hok D
 obtain⟨q1,q2⟩:=opd2 (by rw[ho]; rfl) hok;obtain⟨ad,w',h1,h2,h3,h4⟩:=astore_sound (P:=P) h hH (zAv hT q1 D) (zAv hT q2 D);exact⟨E,w',undef,h3,h4,rep_un _ _,.inr ⟨by simp[execOp,ho,h1,Instr.storeAt,Instr.sureAddr,Sem.run_bind,h2,Result.andThen],rfl⟩⟩
theorem opv_nilCheck{x:Operand}(ho:o.op=.nilCheck x)(h:zCu (ev ts x)=true):OpV P G n o ts H (ev ts x) H :=
 OpV.pure fun E w tmps hH hT hok D=>by
  have hx:=zAv hT (opd1 (by rw[ho]; rfl) hok) D;refine⟨_,hx,?_⟩;simp only[execOp,ho]
  generalize Act.eval ⟨tmps,D⟩ x=r at hx
  generalize ev ts x=a at hx h
  cases hx <;> first | (simp[zCu]at h; done) | rfl
theorem run_bool_eq{t:TypeId}(hu:P.underlying t=some .bool)(a b:Bool)(w:World) :
  (binOp .eql t (.bool a) (.bool b)).run P w=.ok (.bool (a==b)) w/\(binOp .neq t (.bool a) (.bool b)).run P w=.ok (.bool (a != b)) w:=by
 have h:(Op.equal t (.bool a) (.bool b)).run P w=.ok (a==b) w:=by
  show(Op.equalIn (9999+1) t (.bool a) (.bool b)).run P w=_;rw[Op.equalIn,Sem.run_bind,run_underlying hu w];rfl
 refine⟨?_,?_⟩
 ·show(do pure (.bool (<- Op.equal t (.bool a) (.bool b))):Sem Value).run P w=_;rw[Sem.run_bind,h]; rfl
 ·show(do pure (.bool (!(<- Op.equal t (.bool a) (.bool b)))):Sem Value).run P w=_;rw[Sem.run_bind,h]; rfl
theorem opv_not{t:TypeId}{x:Operand}(ho:o.op=.unOp .not t x){b:Bool}(h:ev ts x=.c (.bool b)):OpV P G n o ts H (.c (.bool !b)) H :=
 OpV.pure fun E w tmps hH hT hok D=>by
  have hx:=zAv hT (opd1 (by rw[ho]; rfl) hok) D;rw[h]at hx;have hx':=hx.c_inv;exact⟨_,.c rfl,by simp[execOp,ho,hx',Op.unary]⟩
theorem opv_neg{t:TypeId}{x:Operand}(ho:o.op=.unOp .neg t x){k:IntKind}{i:Int}(h:ev ts x=.c (.int k i)):OpV P G n o ts H (.c (.int k (k.wrap (0 - i)))) H :=
 OpV.pure fun E w tmps hH hT hok D=>by
  have hx:=zAv hT (opd1 (by rw[ho]; rfl) hok) D;rw[h]at hx;have hx':=hx.c_inv;exact⟨_,.c rfl,by simp[execOp,ho,hx',Op.unary,Op.intArith]⟩
theorem opv_convert{s t:TypeId}{x:Operand}(ho:o.op=.convert s t x){k k':IntKind}{i:Int}(h:ev ts x=.c (.int k' i))(ht:P.underlying t=some (.int k))(hs:∃ d,P.underlying s=some d) :
  OpV P G n o ts H (.c (.int k (k.wrap i))) H :=
 OpV.pure fun E w tmps hH hT hok D=>by
  have hx:=zAv hT (opd1 (by rw[ho]; rfl) hok) D;rw[h]at hx;have hx':=hx.c_inv;obtain⟨d,hd⟩:=hs;exact⟨_,.c rfl,by simp[execOp,ho,hx',convert,run_underlying ht,run_underlying hd,Sem.run_bind,Result.andThen,Conv.intToInt]⟩
theorem opv_iface{t:TypeId}{x:Operand}(ho:o.op=.makeInterface t x){d:TypeDesc}(ht:P.underlying t=some d)(hd:∀ ms,d≠.interface ms):OpV P G n o ts H (.ifc t (ev ts x)) H :=
 OpV.pure fun E w tmps hH hT hok D=>by
  refine⟨_,.ifc (zAv hT (opd1 (by rw[ho]; rfl) hok) D),?_⟩;cases d <;> first
   | (exact absurd rfl (hd _))
   | simp[execOp,ho,Instr.makeInterface,run_underlying ht,Sem.run_bind,Result.andThen]
theorem opv_func{f:FuncId}{fs cs:Array Operand}(ho:o.op=.makeFunc (.func f) fs cs):OpV P G n o ts H (.fn f (fs.toList.map (ev ts)) (cs.toList.map (ev ts))) H :=
 OpV.pure fun E w tmps hH hT hok D=>by
  have hk:(fs++cs).all (zDi n)=true:=by
   have:=hok;simp only[zBj,ho,Op.operands,zA]at this;exact this.2
  rw[Array.all_append,zA]at hk;have h1:=repL_map hT hk.1 D;have h2:=repL_map hT hk.2 D;exact⟨_,.fn h1.1 h2.1 h1.2 h2.2,by simp[execOp,ho,Instr.makeFunc]⟩
theorem ptrAdd_sound{w:World}{E:En}{a:AV}{r:Value}(ha:RepV w E a r){k:Nat}(h:zCy a k=some v):∃ b q,r=.pointer (some ⟨b,q,none⟩)/\RepV w E v (.pointer (some ⟨b,q+k,none⟩)):=by
 cases ha <;> simp only[zCy]at h <;> first | (cases h; done) | skip
 case ptr id off l hl=>cases h; exact⟨_,_,rfl,by rw[Nat.add_assoc]; exact .ptr hl⟩
 case eptr id i off l hl=>cases h; exact⟨_,_,rfl,by rw[Nat.add_assoc]; exact .eptr hl⟩
 case iptr cs off b q f hf hcell hc h'=>cases h; exact⟨_,_,rfl,by rw[Nat.add_assoc]; exact .iptr hf hcell hc h'⟩
 case gp g off=>cases h; exact⟨_,_,rfl,.gp⟩
theorem opv_fieldAddr{s:TypeId}{x:Operand}{f:Nat}(ho:o.op=.fieldAddr s x f){k:Nat}(hk:zAh P s f=some k)(h:zCy (ev ts x) k=some v):OpV P G n o ts H v H :=
 OpV.pure fun E w tmps hH hT hok D=>by
  have hx:=zAv hT (opd1 (by rw[ho]; rfl) hok) D;obtain⟨b,q,e,hv⟩:=ptrAdd_sound hx h;unfold zAh at hk
  split at hk
  ·rename_i fields hu
   split at hk
   ·rename_i fl hf
    split at hk
    ·rename_i m hs;cases hk;have:=zBd hs w;refine⟨_,hv,?_⟩;simp[execOp,ho,e,Instr.fieldAt,run_underlying hu,hf,Instr.sureAddr,fieldPlace,Sem.run_bind,this,Result.andThen,zCp]
    ·cases hk
   ·cases hk
  ·cases hk
theorem opv_indexAddr{t:TypeId}{x i:Operand}(ho:o.op=.indexAddr t x i){k:IntKind}{q:Int}(hi:aInt (ev ts i)=some (k,q))(h:zAk P t (ev ts x) q H=some (C,v))(hC:C):OpV P G n o ts H v H :=
 OpV.pure fun E w tmps hH hT hok D=>by
  obtain⟨q1,q2⟩:=opd2 (by rw[ho]; rfl) hok;have hx:=zAv hT q1 D;have hi':=zFf (zAv hT q2 D) hi;unfold zAk at h
  split at h
  ·rename_i len elem hu
   split at h
   ·rename_i sz hs
    split at h
    ·rename_i h1;cases hp:zCy (ev ts x) (q.toNat*sz)with
     | none=>rw[hp]at h; cases h
     | some v' =>
      rw[hp]at h; simp only[Option.map_some,Option.some.injEq,Prod.mk.injEq]at h;obtain⟨rfl,rfl⟩:=h;obtain⟨b,p,e,hv⟩:=ptrAdd_sound hx hp;refine⟨_,hv,?_⟩;have:=zBd hs w;simp[execOp,ho,e,hi',Instr.indexAt,run_underlying hu,asIntOf,Instr.sureAddr,Sem.run_bind,this,Result.andThen,hC,zCp]
    ·cases h
   ·cases h
  ·rename_i elem hu
   split at h
   ·rename_i sz id st len cap hs e;rw[e]at hx
    generalize hr0:Act.eval ⟨tmps,D⟩ x=r0 at hx
    cases hx with
    | sl hl h1 h2 h3 =>
     rename_i l ad cc;cases ho2:H[id]? with
     | none=>rw[ho2]at h; cases h
     | some ob =>
      rw[ho2]at h;cases ob <;> simp only at h <;> try (cases h; done)
      rename_i sz' es
      split at h
      ·rename_i hsz;subst hsz;cases h;obtain⟨l',hl',hz,_⟩:=hH.obj id _ ho2 rfl;rw[hl]at hl'; cases hl';obtain⟨rfl,_⟩:=h3 (by omega);refine⟨.pointer (some ⟨l.b,l.base+(st+q.toNat)*l.sz+0,none⟩),.eptr hl,?_⟩;have:=zBd hs w;simp[execOp,ho,hr0,hi',Instr.indexAt,run_underlying hu,asIntOf,Sem.run_bind,this,Result.andThen,hC,zCp];rw[hz,Nat.add_mul]; omega
      ·cases h
   ·rename_i sz id off len cap sz' hs e;rw[e]at hx
    split at h
    ·rename_i hsz;subst hsz;cases h
     generalize hr0:Act.eval ⟨tmps,D⟩ x=r0 at hx
     cases hx with
     | bs hl h1 =>
      rename_i l;refine⟨.pointer (some ⟨l.b,l.base+(off+q.toNat*sz'),none⟩),.ptr hl,?_⟩;have:=zBd hs w;simp[execOp,ho,hr0,hi',Instr.indexAt,run_underlying hu,asIntOf,Sem.run_bind,this,Result.andThen,hC,zCp];omega
    ·cases h
   ·rename_i sz es hs e;rw[e]at hx;cases h
    generalize hr0:Act.eval ⟨tmps,D⟩ x=r0 at hx
    cases hx with
    | isl hf hcc he hcell hc hr =>
     rename_i ad cc sz' f;obtain⟨⟨c1,c2⟩,c3⟩:=hC;have hlt:q.toNat < es.length:=by omega
     obtain⟨hf,hsp⟩:=hf (by omega);obtain⟨b,off,sp⟩:=ad;obtain rfl:sp=none:=hsp;have hzz:sz'=sz:=by rw[<- (he _ hlt).2]; exact c3
     subst hzz;refine⟨.pointer (some ⟨b,(off+q.toNat*sz')+0,none⟩),.iptr (f:=fun j=>f q.toNat j) hf (fun j hj=>hcell _ j hlt (by rw[<- c3]; exact hj)) (fun j hj=>hc _ j hlt (by rw[<- c3]; exact hj)) (fun j hj=>hr _ j hlt (by rw[<- c3]; exact hj)),?_⟩;have:=zBd hs w;simp[execOp,ho,hr0,hi',Instr.indexAt,run_underlying hu,asIntOf,Sem.run_bind,this,Result.andThen,c1,c2,zCp]
   ·cases h
  ·cases h
end
end Go.Ab
