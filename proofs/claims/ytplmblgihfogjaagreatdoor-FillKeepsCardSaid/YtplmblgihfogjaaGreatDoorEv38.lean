/- A text of this claim. -/
import Derived.Test.YtplmblgihfogjaaGreatDoorEv37
import Derived.OpenShut
import Derived.WideShapes
import Derived.ChangeSlices
set_option maxHeartbeats 40000000
set_option maxRecDepth 400000
set_option linter.all false
namespace Go.Ab
open Go.RowKit
def EnX(X:Nat->Prop):En:={ loc:=fun _=>none,fro:=X }
end Go.Ab
namespace Go.Ab.Pd
open Go.Proofs Go.WideShapes Go.ChangeShapes Go.RowKit
open Go.Proofs.Tryz renaming prog->zP
section
variable {H:Type} {enc:TypeId × Value->H} {W:World} {sp:Nat->Bool}
def RowsX(W:World)(X:Nat->Prop):Prop:=∀ b,X b->∃ c t f,W.heap[b]?=some (.cells c t f)
structure RdC(W:World)(X:Nat->Prop)(la:List AV)(cs:List Value):Prop where
 len:la.length=cs.length
 cell:∀ i,i < la.length->(la.getD i .un).isCell=true
 rep:∀ Y:Nat->Prop,(∀ b,X b->Y b)->∀ i,i < la.length->RepV W (EnX Y) (la.getD i .un) (cs.getD i undef)
theorem RdC.nil{X:Nat->Prop}:RdC W X [] []:=⟨rfl,fun i hi=>by simp at hi,fun Y _ i hi=>by simp at hi⟩
theorem RdC.cons{X:Nat->Prop}{a:AV}{v:Value}{la:List AV}{cs:List Value}(hc:a.isCell=true)(hr:∀ Y:Nat->Prop,(∀ b,X b->Y b)->RepV W (EnX Y) a v)(h:RdC W X la cs):RdC W X (a::la) (v::cs):=by
 refine⟨by simp[h.len],fun i hi=>?_,fun Y hY i hi=>?_⟩
 ·cases i with
  | zero=>exact hc
  | succ i=>exact h.cell i (by simpa using hi)
 ·cases i with
  | zero=>exact hr Y hY
  | succ i=>exact h.rep Y hY i (by simpa using hi)
theorem RdC.pl{X:Nat->Prop}{v:Value}{la:List AV}{cs:List Value}(hp:plain v=true)(h:RdC W X la cs):RdC W X (.c v::la) (v::cs):=.cons rfl (fun _ _=>.c hp) h
theorem row_of{b off:Nat}{v:Value}(h:W.cell? ⟨b,off,none⟩=some v):∃ c t f,W.heap[b]?=some (.cells c t f):=by
 unfold World.cell? at h
 split at h
 ·rename_i c t f hb; exact⟨c,t,f,hb⟩
 ·cases h
theorem spot_of{a:Addr}{k:Nat}{v:Value}(h:W.cell? ((a.add (0*k)).add 0)=some v):a.spot=none/\W.cell? a=some v:=by
 have e:(a.add (0*k)).add 0=a:=by rw[Nat.zero_mul]; simp[Addr.add]
 rw[e]at h;exact⟨World.cell?_spot h,h⟩
theorem sliceR{T:Type}(d:T)(av:T->AV)(ec:T->List AV)(good:T->Prop)(hcell:∀ a,(av a).isEl=true/\(av a).cells=ec a){k:Nat}(hk:∀ a,(ec a).length=k)(k0:0 < k){t e:TypeId}(ht:zP.underlying t=some (.slice e))(hc:zP.cellsOf e=k)
  (hel:∀(fuel:Nat) (cs:List Value) (x:DataW H × List MemPlace),DataW.trod enc zP W 0 sp true fuel e cs=some x->∃(X:Nat->Prop) (a:T),RowsX W X/\good a/\RdC W X (ec a) cs)
  {fuel:Nat} {cs:List Value} {x:DataW H × List MemPlace} (h:DataW.trod enc zP W 0 sp true fuel t cs=some x) :
  ∃(X:Nat->Prop) (l:List T) (s:AV) (v:Value),RowsX W X/\cs=[v]/\IsSl s (l.map av)/\(∀ a∈l,good a)/\∀ Y:Nat->Prop,(∀ b,X b->Y b)->RepV W (EnX Y) s v:=by
 rcases DataW.trod_slice ht h with ⟨rfl,_⟩ | ⟨a,len,cap,elems,rest,n,_,rfl,_,_,hle,_,hlen,hread,_,_⟩
 ·exact⟨fun _=>False,[],_,_,fun b hb=>hb.elim,rfl,.inr ⟨rfl,rfl⟩,fun a ha=>(by cases ha),fun Y _=>.c rfl⟩
 ·rw[hc]at hread;have each:∀ i:Nat,∃ q:List Value × (Nat->Prop) × T,i < len->W.cells? 0 (a.add (i*k)) k=some q.1/\RowsX W q.2.1/\good q.2.2/\RdC W q.2.1 (ec q.2.2) q.1:=fun i=>by
   by_cases hi:i < len
   ·have h1:=hread i hi;rw[show elems[i]?=some (elems[i]'(by omega)) by simp[hlen,hi]]at h1;obtain⟨ci,hci,hti⟩:=Option.bind_eq_some_iff.1 h1;obtain⟨X,q,x1,x2,x3⟩:=hel _ _ _ hti;exact⟨(ci,X,q),fun _=>⟨hci,x1,x2,x3⟩⟩
   ·exact⟨([],fun _=>False,d),fun h=>absurd h hi⟩
  obtain⟨f,hf⟩:=Classical.axiomOfChoice each;refine⟨fun b=>(0 < len/\b=a.block)\/∃ i,i < len/\(f i).2.1 b,(List.range len).map fun i=>(f i).2.2,.isl (((List.range len).map fun i=>(f i).2.2).map av),_,?_,rfl,.inl rfl,?_,?_⟩
  ·rintro b (⟨h0,rfl⟩ | ⟨i,hi,hb⟩)
   ·obtain⟨_,hl,hg⟩:=World.cells?_some (hf 0 h0).1;have h1:=hg 0 k0;have hq:((f 0).1)[0]?=some (((f 0).1)[0]'(by omega)):=by simp[hl,k0]
    rw[hq]at h1;obtain⟨hs,h2⟩:=spot_of h1;obtain⟨ab,ao,as'⟩:=a;simp only at hs;subst hs;exact row_of h2
   ·exact(hf i hi).2.1 b hb
  ·intro q hq
   obtain⟨i,hi,rfl⟩:=List.mem_map.1 hq;exact(hf i (List.mem_range.1 hi)).2.2.1
  ·intro Y hY
   have hL:((((List.range len).map fun i=>(f i).2.2).map av)).length=len:=by simp
   have hel':∀ i,i < len->((((List.range len).map fun i=>(f i).2.2).map av)).getD i .un=av (f i).2.2:=fun i hi=>by simp[List.getD,hi]
   have key:=RepV.isl (w:=W) (E:=EnX Y) (es:=((List.range len).map fun i=>(f i).2.2).map av) (ad:=a) (cc:=cap) (sz:=k) (f:=fun i j=>(f i).1.getD j undef)
    (fun h0=>by
     rw[hL]at h0;refine⟨hY _ (.inl ⟨h0,rfl⟩),?_⟩;obtain⟨_,hl,hg⟩:=World.cells?_some (hf 0 h0).1;have h1:=hg 0 k0;have hq:((f 0).1)[0]?=some (((f 0).1)[0]'(by omega)):=by simp[hl,k0]
     rw[hq]at h1;exact(spot_of h1).1)
    (by rw[hL]; exact hle)
    (fun i hi=>by
     rw[hL]at hi;rw[hel' i hi];exact⟨(hcell _).1,by rw[(hcell _).2,hk]⟩)
    (fun i j hi hj=>by
     rw[hL]at hi;obtain⟨_,hl,hg⟩:=World.cells?_some (hf i hi).1;have h1:=hg j hj;have hq:((f i).1)[j]?=some ((f i).1.getD j undef):=by simp[List.getD,hl,hj]
     rw[hq]at h1;obtain⟨_,hl0,hg0⟩:=World.cells?_some (hf 0 (by omega)).1;have h2:=hg0 0 k0;have hq0:((f 0).1)[0]?=some (((f 0).1)[0]'(by omega)):=by simp[hl0,k0]
     rw[hq0]at h2;have hs:=(spot_of h2).1;obtain⟨ab,ao,as'⟩:=a;simp only at hs;subst hs;rw[add_plain,add_plain]at h1;exact h1)
    (fun i j hi hj=>by
     rw[hL]at hi;rw[hel' i hi,(hcell _).2];exact(hf i hi).2.2.2.cell j (by rw[hk]; exact hj))
    (fun i j hi hj=>by
     rw[hL]at hi;rw[hel' i hi,(hcell _).2];exact(hf i hi).2.2.2.rep Y (fun b hb=>hY b (.inr ⟨i,hi,hb⟩)) j (by rw[hk]; exact hj))
   rw[hL]at key;exact key
end
section
variable {H:Type} {enc:TypeId × Value->H} {W:World} {sp:Nat->Bool} {fuel:Nat}
theorem zAs{α:Type}{xs:List α}{n i:Nat}(hn:xs.length=n)(hi:i < n):xs[i]?=some (xs[i]'(by omega)):=by simp
theorem len2{l:List Value}(h:l.length=2):∃ v0 v1,l=[v0,v1]:=by
 match l,h with
 | [v0,v1],_=>exact⟨v0,v1,rfl⟩
theorem len3{l:List Value}(h:l.length=3):∃ v0 v1 v2,l=[v0,v1,v2]:=by
 match l,h with
 | [v0,v1,v2],_=>exact⟨v0,v1,v2,rfl⟩
theorem len4{l:List Value}(h:l.length=4):∃ v0 v1 v2 v3,l=[v0,v1,v2,v3]:=by
 match l,h with
 | [v0,v1,v2,v3],_=>exact⟨v0,v1,v2,v3,rfl⟩
theorem len6{l:List Value}(h:l.length=6):∃ v0 v1 v2 v3 v4 v5,l=[v0,v1,v2,v3,v4,v5]:=by
 match l,h with
 | [v0,v1,v2,v3,v4,v5],_=>exact⟨v0,v1,v2,v3,v4,v5,rfl⟩
theorem len7{l:List Value}(h:l.length=7):∃ v0 v1 v2 v3 v4 v5 v6,l=[v0,v1,v2,v3,v4,v5,v6]:=by
 match l,h with
 | [v0,v1,v2,v3,v4,v5,v6],_=>exact⟨v0,v1,v2,v3,v4,v5,v6,rfl⟩
theorem len8{l:List Value}(h:l.length=8):∃ v0 v1 v2 v3 v4 v5 v6 v7,l=[v0,v1,v2,v3,v4,v5,v6,v7]:=by
 match l,h with
 | [v0,v1,v2,v3,v4,v5,v6,v7],_=>exact⟨v0,v1,v2,v3,v4,v5,v6,v7,rfl⟩
theorem len9{l:List Value}(h:l.length=9):∃ v0 v1 v2 v3 v4 v5 v6 v7 v8,l=[v0,v1,v2,v3,v4,v5,v6,v7,v8]:=by
 match l,h with
 | [v0,v1,v2,v3,v4,v5,v6,v7,v8],_=>exact⟨v0,v1,v2,v3,v4,v5,v6,v7,v8,rfl⟩
theorem len13{l:List Value}(h:l.length=13):∃ v0 v1 v2 v3 v4 v5 v6 v7 v8 v9 v10 v11 v12,l=[v0,v1,v2,v3,v4,v5,v6,v7,v8,v9,v10,v11,v12]:=by
 match l,h with
 | [v0,v1,v2,v3,v4,v5,v6,v7,v8,v9,v10,v11,v12],_=>exact⟨v0,v1,v2,v3,v4,v5,v6,v7,v8,v9,v10,v11,v12,rfl⟩
theorem len16{l:List Value}(h:l.length=16):∃ v0 v1 v2 v3 v4 v5 v6 v7 v8 v9 v10 v11 v12 v13 v14 v15,l=[v0,v1,v2,v3,v4,v5,v6,v7,v8,v9,v10,v11,v12,v13,v14,v15]:=by
 match l,h with
 | [v0,v1,v2,v3,v4,v5,v6,v7,v8,v9,v10,v11,v12,v13,v14,v15],_=>exact⟨v0,v1,v2,v3,v4,v5,v6,v7,v8,v9,v10,v11,v12,v13,v14,v15,rfl⟩
theorem zCs:zP.cellsOf 3=1:=by kernel_rfl
theorem co_bool:zP.cellsOf 4=1:=by kernel_rfl
theorem co_u8:zP.cellsOf 5=1:=by kernel_rfl
theorem co_a3:zP.cellsOf 22=3:=by kernel_rfl
theorem co_b3:zP.cellsOf 35=3:=by kernel_rfl
theorem co_dims:zP.cellsOf 23=3:=by kernel_rfl
theorem co_box:zP.cellsOf 34=6:=by kernel_rfl
theorem co_plc:zP.cellsOf 37=9:=by kernel_rfl
theorem co_wnt:zP.cellsOf 48=7:=by kernel_rfl
theorem co_cls:zP.cellsOf 93=4:=by kernel_rfl
theorem co_prt:zP.cellsOf 65=13:=by kernel_rfl
theorem co_kep:zP.cellsOf 98=9:=by kernel_rfl
theorem co_span:zP.cellsOf 78=2:=by kernel_rfl
theorem co_job:zP.cellsOf 50=16:=by kernel_rfl
theorem co_cfg:zP.cellsOf 26=8:=by kernel_rfl
theorem co_sta:zP.cellsOf 32=16:=by kernel_rfl
theorem co_sI:zP.cellsOf 30=1:=by kernel_rfl
theorem co_sC:zP.cellsOf 24=1:=by kernel_rfl
theorem co_sJ:zP.cellsOf 27=1:=by kernel_rfl
theorem co_sP:zP.cellsOf 28=1:=by kernel_rfl
theorem co_sK:zP.cellsOf 29=1:=by kernel_rfl
theorem intR{cs:List Value}{x:DataW H × List MemPlace}(h:DataW.trod enc zP W 0 sp true fuel 3 cs=some x):∃ n:Int,cs=[.int .i64 n]:=by
 obtain⟨n,e,_⟩:=DataW.trod_int Tryz.underlying3 h;exact⟨n,e⟩
theorem u8R{cs:List Value}{x:DataW H × List MemPlace}(h:DataW.trod enc zP W 0 sp true fuel 5 cs=some x):∃ n:Int,cs=[.int .u8 n]:=by
 obtain⟨n,e,_⟩:=DataW.trod_int Tryz.underlying5 h;exact⟨n,e⟩
theorem boolR{cs:List Value}{x:DataW H × List MemPlace}(h:DataW.trod enc zP W 0 sp true fuel 4 cs=some x):∃ n:Bool,cs=[.bool n]:=by
 obtain⟨n,e,_⟩:=DataW.trod_bool Tryz.underlying4 h;exact⟨n,e⟩
theorem a3R{t:TypeId}{cs:List Value}{x:DataW H × List MemPlace}(ht:zP.underlying t=some (.array 3 3))(hc:zP.cellsOf t=3)(h:DataW.trod enc zP W 0 sp true fuel t cs=some x):∃ a b c:Int,cs=[.int .i64 a,.int .i64 b,.int .i64 c]:=by
 obtain⟨xs,m,_,_,hl,hn,he⟩:=DataW.trod_array ht h;rw[hc]at hl;obtain⟨v0,v1,v2,rfl⟩:=len3 hl;rw[zCs]at he;have h0:=he 0 (by decide);have h1:=he 1 (by decide);have h2:=he 2 (by decide);rw[zAs hn (by decide)]at h0 h1 h2;obtain⟨a,e0⟩:=intR h0;obtain⟨b,e1⟩:=intR h1;obtain⟨c,e2⟩:=intR h2;simp at e0 e1 e2;exact⟨a,b,c,by rw[e0,e1,e2]⟩
theorem b3R{t:TypeId}{cs:List Value}{x:DataW H × List MemPlace}(ht:zP.underlying t=some (.array 3 4))(hc:zP.cellsOf t=3)(h:DataW.trod enc zP W 0 sp true fuel t cs=some x):∃ a b c:Bool,cs=[.bool a,.bool b,.bool c]:=by
 obtain⟨xs,m,_,_,hl,hn,he⟩:=DataW.trod_array ht h;rw[hc]at hl;obtain⟨v0,v1,v2,rfl⟩:=len3 hl;rw[co_bool]at he;have h0:=he 0 (by decide);have h1:=he 1 (by decide);have h2:=he 2 (by decide);rw[zAs hn (by decide)]at h0 h1 h2;obtain⟨a,e0⟩:=boolR h0;obtain⟨b,e1⟩:=boolR h1;obtain⟨c,e2⟩:=boolR h2;simp at e0 e1 e2;exact⟨a,b,c,by rw[e0,e1,e2]⟩
theorem boxR{cs:List Value}{x:DataW H × List MemPlace}(h:DataW.trod enc zP W 0 sp true fuel 34 cs=some x):∃(y0:Int) (y1:Int) (y2:Int) (y3:Int) (y4:Int) (y5:Int),cs=[.int .i64 y0,.int .i64 y1,.int .i64 y2,.int .i64 y3,.int .i64 y4,.int .i64 y5]:=by
 obtain⟨xs,m,_,_,hl,hn,he⟩:=DataW.trod_struct Tryz.underlying34 h;rw[co_box]at hl;obtain⟨v0,v1,v2,v3,v4,v5,rfl⟩:=len6 hl;have h0:DataW.trod enc zP W 0 sp true m 22 ((([v0,v1,v2,v3,v4,v5]:List Value).drop 0).take (zP.cellsOf 22))=xs[0]?:=he 0 _ rfl;rw[zAs (n:=2) hn (by decide),co_a3]at h0;have h1:DataW.trod enc zP W 0 sp true m 22 ((([v0,v1,v2,v3,v4,v5]:List Value).drop 3).take (zP.cellsOf 22))=xs[1]?:=he 1 _ rfl;rw[zAs (n:=2) hn (by decide),co_a3]at h1;obtain⟨y0,y1,y2,e0'⟩:=a3R Tryz.underlying22 co_a3 h0;obtain⟨y3,y4,y5,e1'⟩:=a3R Tryz.underlying22 co_a3 h1;simp at e0' e1';refine⟨y0,y1,y2,y3,y4,y5,?_⟩;simp[e0',e1']
theorem plcR{cs:List Value}{x:DataW H × List MemPlace}(h:DataW.trod enc zP W 0 sp true fuel 37 cs=some x):∃(y0:Int) (y1:Int) (y2:Int) (y3:Int) (y4:Int) (y5:Int) (y6:Bool) (y7:Bool) (y8:Bool),cs=[.int .i64 y0,.int .i64 y1,.int .i64 y2,.int .i64 y3,.int .i64 y4,.int .i64 y5,.bool y6,.bool y7,.bool y8]:=by
 obtain⟨xs,m,_,_,hl,hn,he⟩:=DataW.trod_struct Tryz.underlying37 h;rw[co_plc]at hl;obtain⟨v0,v1,v2,v3,v4,v5,v6,v7,v8,rfl⟩:=len9 hl;have h0:DataW.trod enc zP W 0 sp true m 34 ((([v0,v1,v2,v3,v4,v5,v6,v7,v8]:List Value).drop 0).take (zP.cellsOf 34))=xs[0]?:=he 0 _ rfl;rw[zAs (n:=2) hn (by decide),co_box]at h0;have h1:DataW.trod enc zP W 0 sp true m 35 ((([v0,v1,v2,v3,v4,v5,v6,v7,v8]:List Value).drop 6).take (zP.cellsOf 35))=xs[1]?:=he 1 _ rfl;rw[zAs (n:=2) hn (by decide),co_b3]at h1;obtain⟨y0,y1,y2,y3,y4,y5,e0'⟩:=boxR h0;obtain⟨y6,y7,y8,e1'⟩:=b3R Tryz.underlying35 co_b3 h1;simp at e0' e1';refine⟨y0,y1,y2,y3,y4,y5,y6,y7,y8,?_⟩;simp[e0',e1']
theorem wntR{cs:List Value}{x:DataW H × List MemPlace}(h:DataW.trod enc zP W 0 sp true fuel 48 cs=some x):∃(y0:Int) (y1:Int) (y2:Int) (y3:Bool) (y4:Bool) (y5:Bool) (y6:Bool),cs=[.int .i64 y0,.int .i64 y1,.int .i64 y2,.bool y3,.bool y4,.bool y5,.bool y6]:=by
 obtain⟨xs,m,_,_,hl,hn,he⟩:=DataW.trod_struct Tryz.underlying48 h;rw[co_wnt]at hl;obtain⟨v0,v1,v2,v3,v4,v5,v6,rfl⟩:=len7 hl;have h0:DataW.trod enc zP W 0 sp true m 22 ((([v0,v1,v2,v3,v4,v5,v6]:List Value).drop 0).take (zP.cellsOf 22))=xs[0]?:=he 0 _ rfl;rw[zAs (n:=3) hn (by decide),co_a3]at h0;have h1:DataW.trod enc zP W 0 sp true m 35 ((([v0,v1,v2,v3,v4,v5,v6]:List Value).drop 3).take (zP.cellsOf 35))=xs[1]?:=he 1 _ rfl;rw[zAs (n:=3) hn (by decide),co_b3]at h1;have h2:DataW.trod enc zP W 0 sp true m 4 ((([v0,v1,v2,v3,v4,v5,v6]:List Value).drop 6).take (zP.cellsOf 4))=xs[2]?:=he 2 _ rfl;rw[zAs (n:=3) hn (by decide),co_bool]at h2;obtain⟨y0,y1,y2,e0'⟩:=a3R Tryz.underlying22 co_a3 h0;obtain⟨y3,y4,y5,e1'⟩:=b3R Tryz.underlying35 co_b3 h1;obtain⟨y6,e2'⟩:=boolR h2;simp at e0' e1' e2';refine⟨y0,y1,y2,y3,y4,y5,y6,?_⟩;simp[e0',e1',e2']
theorem spanR{cs:List Value}{x:DataW H × List MemPlace}(h:DataW.trod enc zP W 0 sp true fuel 78 cs=some x):∃(y0:Int) (y1:Int),cs=[.int .i64 y0,.int .i64 y1]:=by
 obtain⟨xs,m,_,_,hl,hn,he⟩:=DataW.trod_struct Tryz.underlying78 h;rw[co_span]at hl;obtain⟨v0,v1,rfl⟩:=len2 hl;have h0:DataW.trod enc zP W 0 sp true m 3 ((([v0,v1]:List Value).drop 0).take (zP.cellsOf 3))=xs[0]?:=he 0 _ rfl;rw[zAs (n:=2) hn (by decide),zCs]at h0;have h1:DataW.trod enc zP W 0 sp true m 3 ((([v0,v1]:List Value).drop 1).take (zP.cellsOf 3))=xs[1]?:=he 1 _ rfl;rw[zAs (n:=2) hn (by decide),zCs]at h1;obtain⟨y0,e0'⟩:=intR h0;obtain⟨y1,e1'⟩:=intR h1;simp at e0' e1';refine⟨y0,y1,?_⟩;simp[e0',e1']
theorem clsE(cs:List Value)(x:DataW H × List MemPlace)(h:DataW.trod enc zP W 0 sp true fuel 93 cs=some x):∃(X:Nat->Prop) (a:Cls),RowsX W X/\True/\RdC W X a.av.cells cs:=by
 obtain⟨xs,m,_,_,hl,hn,he⟩:=DataW.trod_struct Tryz.underlying93 h;rw[co_cls]at hl;obtain⟨v0,v1,v2,v3,rfl⟩:=len4 hl;have h0:DataW.trod enc zP W 0 sp true m 3 ((([v0,v1,v2,v3]:List Value).drop 0).take (zP.cellsOf 3))=xs[0]?:=he 0 _ rfl;rw[zAs (n:=4) hn (by decide),zCs]at h0;have h1:DataW.trod enc zP W 0 sp true m 3 ((([v0,v1,v2,v3]:List Value).drop 1).take (zP.cellsOf 3))=xs[1]?:=he 1 _ rfl;rw[zAs (n:=4) hn (by decide),zCs]at h1;have h2:DataW.trod enc zP W 0 sp true m 3 ((([v0,v1,v2,v3]:List Value).drop 2).take (zP.cellsOf 3))=xs[2]?:=he 2 _ rfl;rw[zAs (n:=4) hn (by decide),zCs]at h2;have h3:DataW.trod enc zP W 0 sp true m 3 ((([v0,v1,v2,v3]:List Value).drop 3).take (zP.cellsOf 3))=xs[3]?:=he 3 _ rfl;rw[zAs (n:=4) hn (by decide),zCs]at h3;obtain⟨y0,e0'⟩:=intR h0;obtain⟨y1,e1'⟩:=intR h1;obtain⟨y2,e2'⟩:=intR h2;obtain⟨y3,e3'⟩:=intR h3;simp at e0' e1' e2' e3';simp only[e0',e1',e2',e3'];exact⟨fun _=>False,⟨y0,y1,y2,y3⟩,fun b hb=>hb.elim,trivial,.pl rfl (.pl rfl (.pl rfl (.pl rfl (.nil))))⟩
theorem kepE(cs:List Value)(x:DataW H × List MemPlace)(h:DataW.trod enc zP W 0 sp true fuel 98 cs=some x):∃(X:Nat->Prop) (a:Kep),RowsX W X/\True/\RdC W X a.av.cells cs:=by
 obtain⟨xs,m,_,_,hl,hn,he⟩:=DataW.trod_struct Tryz.underlying98 h;rw[co_kep]at hl;obtain⟨v0,v1,v2,v3,v4,v5,v6,v7,v8,rfl⟩:=len9 hl;have h0:DataW.trod enc zP W 0 sp true m 3 ((([v0,v1,v2,v3,v4,v5,v6,v7,v8]:List Value).drop 0).take (zP.cellsOf 3))=xs[0]?:=he 0 _ rfl;rw[zAs (n:=3) hn (by decide),zCs]at h0;have h1:DataW.trod enc zP W 0 sp true m 34 ((([v0,v1,v2,v3,v4,v5,v6,v7,v8]:List Value).drop 1).take (zP.cellsOf 34))=xs[1]?:=he 1 _ rfl;rw[zAs (n:=3) hn (by decide),co_box]at h1;have h2:DataW.trod enc zP W 0 sp true m 78 ((([v0,v1,v2,v3,v4,v5,v6,v7,v8]:List Value).drop 7).take (zP.cellsOf 78))=xs[2]?:=he 2 _ rfl;rw[zAs (n:=3) hn (by decide),co_span]at h2;obtain⟨y0,e0'⟩:=intR h0;obtain⟨y1,y2,y3,y4,y5,y6,e1'⟩:=boxR h1;obtain⟨y7,y8,e2'⟩:=spanR h2;simp at e0' e1' e2';simp only[e0',e1',e2'];exact⟨fun _=>False,⟨y0,y1,y2,y3,y4,y5,y6,y7,y8⟩,fun b hb=>hb.elim,trivial,.pl rfl (.pl rfl (.pl rfl (.pl rfl (.pl rfl (.pl rfl (.pl rfl (.pl rfl (.pl rfl (.nil)))))))))⟩
theorem prtE(cs:List Value)(x:DataW H × List MemPlace)(h:DataW.trod enc zP W 0 sp true fuel 65 cs=some x):∃(X:Nat->Prop) (a:Prt),RowsX W X/\True/\RdC W X a.av.cells cs:=by
 obtain⟨xs,m,_,_,hl,hn,he⟩:=DataW.trod_struct Tryz.underlying65 h;rw[co_prt]at hl;obtain⟨v0,v1,v2,v3,v4,v5,v6,v7,v8,v9,v10,v11,v12,rfl⟩:=len13 hl;have h0:DataW.trod enc zP W 0 sp true m 3 ((([v0,v1,v2,v3,v4,v5,v6,v7,v8,v9,v10,v11,v12]:List Value).drop 0).take (zP.cellsOf 3))=xs[0]?:=he 0 _ rfl;rw[zAs (n:=5) hn (by decide),zCs]at h0;have h1:DataW.trod enc zP W 0 sp true m 37 ((([v0,v1,v2,v3,v4,v5,v6,v7,v8,v9,v10,v11,v12]:List Value).drop 1).take (zP.cellsOf 37))=xs[1]?:=he 1 _ rfl;rw[zAs (n:=5) hn (by decide),co_plc]at h1;have h2:DataW.trod enc zP W 0 sp true m 5 ((([v0,v1,v2,v3,v4,v5,v6,v7,v8,v9,v10,v11,v12]:List Value).drop 10).take (zP.cellsOf 5))=xs[2]?:=he 2 _ rfl;rw[zAs (n:=5) hn (by decide),co_u8]at h2;have h3:DataW.trod enc zP W 0 sp true m 3 ((([v0,v1,v2,v3,v4,v5,v6,v7,v8,v9,v10,v11,v12]:List Value).drop 11).take (zP.cellsOf 3))=xs[3]?:=he 3 _ rfl;rw[zAs (n:=5) hn (by decide),zCs]at h3;have h4:DataW.trod enc zP W 0 sp true m 3 ((([v0,v1,v2,v3,v4,v5,v6,v7,v8,v9,v10,v11,v12]:List Value).drop 12).take (zP.cellsOf 3))=xs[4]?:=he 4 _ rfl;rw[zAs (n:=5) hn (by decide),zCs]at h4;obtain⟨y0,e0'⟩:=intR h0;obtain⟨y1,y2,y3,y4,y5,y6,y7,y8,y9,e1'⟩:=plcR h1;obtain⟨y10,e2'⟩:=u8R h2;obtain⟨y11,e3'⟩:=intR h3;obtain⟨y12,e4'⟩:=intR h4;simp at e0' e1' e2' e3' e4';simp only[e0',e1',e2',e3',e4'];exact⟨fun _=>False,⟨y0,⟨y1,y2,y3,y4,y5,y6,y7,y8,y9⟩,y10,y11,y12⟩,fun b hb=>hb.elim,trivial,.pl rfl (.pl rfl (.pl rfl (.pl rfl (.pl rfl (.pl rfl (.pl rfl (.pl rfl (.pl rfl (.pl rfl (.pl rfl (.pl rfl (.pl rfl (.nil)))))))))))))⟩
theorem jobE(cs:List Value)(x:DataW H × List MemPlace)(h:DataW.trod enc zP W 0 sp true fuel 50 cs=some x):∃(X:Nat->Prop) (a:Jb),RowsX W X/\a.good/\RdC W X a.av.cells cs:=by
 obtain⟨xs,m,_,_,hl,hn,he⟩:=DataW.trod_struct Tryz.underlying50 h;rw[co_job]at hl;obtain⟨v0,v1,v2,v3,v4,v5,v6,v7,v8,v9,v10,v11,v12,v13,v14,v15,rfl⟩:=len16 hl;have h0:DataW.trod enc zP W 0 sp true m 3 ((([v0,v1,v2,v3,v4,v5,v6,v7,v8,v9,v10,v11,v12,v13,v14,v15]:List Value).drop 0).take (zP.cellsOf 3))=xs[0]?:=he 0 _ rfl;rw[zAs (n:=10) hn (by decide),zCs]at h0;have h1:DataW.trod enc zP W 0 sp true m 3 ((([v0,v1,v2,v3,v4,v5,v6,v7,v8,v9,v10,v11,v12,v13,v14,v15]:List Value).drop 1).take (zP.cellsOf 3))=xs[1]?:=he 1 _ rfl;rw[zAs (n:=10) hn (by decide),zCs]at h1;have h2:DataW.trod enc zP W 0 sp true m 3 ((([v0,v1,v2,v3,v4,v5,v6,v7,v8,v9,v10,v11,v12,v13,v14,v15]:List Value).drop 2).take (zP.cellsOf 3))=xs[2]?:=he 2 _ rfl;rw[zAs (n:=10) hn (by decide),zCs]at h2;have h3:DataW.trod enc zP W 0 sp true m 48 ((([v0,v1,v2,v3,v4,v5,v6,v7,v8,v9,v10,v11,v12,v13,v14,v15]:List Value).drop 3).take (zP.cellsOf 48))=xs[3]?:=he 3 _ rfl;rw[zAs (n:=10) hn (by decide),co_wnt]at h3;have h4:DataW.trod enc zP W 0 sp true m 3 ((([v0,v1,v2,v3,v4,v5,v6,v7,v8,v9,v10,v11,v12,v13,v14,v15]:List Value).drop 10).take (zP.cellsOf 3))=xs[4]?:=he 4 _ rfl;rw[zAs (n:=10) hn (by decide),zCs]at h4;have h5:DataW.trod enc zP W 0 sp true m 3 ((([v0,v1,v2,v3,v4,v5,v6,v7,v8,v9,v10,v11,v12,v13,v14,v15]:List Value).drop 11).take (zP.cellsOf 3))=xs[5]?:=he 5 _ rfl;rw[zAs (n:=10) hn (by decide),zCs]at h5;have h6:DataW.trod enc zP W 0 sp true m 4 ((([v0,v1,v2,v3,v4,v5,v6,v7,v8,v9,v10,v11,v12,v13,v14,v15]:List Value).drop 12).take (zP.cellsOf 4))=xs[6]?:=he 6 _ rfl;rw[zAs (n:=10) hn (by decide),co_bool]at h6;have h7:DataW.trod enc zP W 0 sp true m 30 ((([v0,v1,v2,v3,v4,v5,v6,v7,v8,v9,v10,v11,v12,v13,v14,v15]:List Value).drop 13).take (zP.cellsOf 30))=xs[7]?:=he 7 _ rfl;rw[zAs (n:=10) hn (by decide),co_sI]at h7;have h8:DataW.trod enc zP W 0 sp true m 5 ((([v0,v1,v2,v3,v4,v5,v6,v7,v8,v9,v10,v11,v12,v13,v14,v15]:List Value).drop 14).take (zP.cellsOf 5))=xs[8]?:=he 8 _ rfl;rw[zAs (n:=10) hn (by decide),co_u8]at h8;have h9:DataW.trod enc zP W 0 sp true m 3 ((([v0,v1,v2,v3,v4,v5,v6,v7,v8,v9,v10,v11,v12,v13,v14,v15]:List Value).drop 15).take (zP.cellsOf 3))=xs[9]?:=he 9 _ rfl;rw[zAs (n:=10) hn (by decide),zCs]at h9;obtain⟨y0,e0'⟩:=intR h0;obtain⟨y1,e1'⟩:=intR h1;obtain⟨y2,e2'⟩:=intR h2;obtain⟨y3,y4,y5,y6,y7,y8,y9,e3'⟩:=wntR h3;obtain⟨y10,e4'⟩:=intR h4;obtain⟨y11,e5'⟩:=intR h5;obtain⟨y12,e6'⟩:=boolR h6;obtain⟨X,la,sa,va,hX,ea,hsa,_,hrep⟩:=sliceR (0:Int) IA (fun n=>[I n]) (fun _=>True) (fun _=>⟨rfl,rfl⟩) (fun _=>rfl) (by decide) Tryz.underlying30 zCs (fun _ cs x h=>by
  obtain⟨n,e⟩:=intR h;exact⟨fun _=>False,n,fun b hb=>hb.elim,trivial,by rw[e]; exact .pl rfl .nil⟩) h7
 obtain⟨y13,e8'⟩:=u8R h8;obtain⟨y14,e9'⟩:=intR h9;simp at e0' e1' e2' e3' e4' e5' e6' ea e8' e9';simp only[e0',e1',e2',e3',e4',e5',e6',ea,e8',e9'];exact⟨X,⟨y0,y1,y2,⟨y3,y4,y5,y6,y7,y8,y9⟩,y10,y11,y12,sa,la,y13,y14⟩,hX,hsa,.pl rfl (.pl rfl (.pl rfl (.pl rfl (.pl rfl (.pl rfl (.pl rfl (.pl rfl (.pl rfl (.pl rfl (.pl rfl (.pl rfl (.pl rfl (.cons (IsSl.cell hsa).1 hrep (.pl rfl (.pl rfl (.nil))))))))))))))))⟩
end
section
variable {H:Type} {enc:TypeId × Value->H} {W:World} {sp:Nat->Bool} {fuel:Nat}
theorem RdC.agg{X:Nat->Prop}{la:List AV}{cs:Array Value}(h:RdC W X la cs.toList){Y:Nat->Prop}(hY:∀ b,X b->Y b):RepV W (EnX Y) (.agg la) (.agg cs):=by
 have hl:=h.len;refine .agg (by simpa using hl.symm) h.cell fun i hi=>?_
 have:=h.rep Y hY i hi
 rwa [show cs.toList.getD i undef=cs.getD i undef by simp[List.getD,Array.getD_eq_getD_getElem?]]at this
def Sr(W:World){T:Type}(av:T->AV)(good:T->Prop)(v:Value)(X:Nat->Prop)(l:List T)(s:AV):Prop:=RowsX W X/\IsSl s (l.map av)/\(∀ a∈l,good a)/\∀ Y:Nat->Prop,(∀ b,X b->Y b)->RepV W (EnX Y) s v
theorem sIR{v:Value}{x:DataW H × List MemPlace}(h:DataW.trod enc zP W 0 sp true fuel 30 [v]=some x):∃ X l s,Sr W IA (fun _=>True) v X l s:=by
 obtain⟨X,l,s,v',a,b,c,d,e⟩:=sliceR (0:Int) IA (fun n=>[I n]) (fun _=>True) (fun _=>⟨rfl,rfl⟩) (fun _=>rfl) (by decide) Tryz.underlying30 zCs (fun _ cs x h=>by
  obtain⟨n,e⟩:=intR h;exact⟨fun _=>False,n,fun b hb=>hb.elim,trivial,by rw[e]; exact .pl rfl .nil⟩) h
 cases b;exact⟨X,l,s,a,c,d,e⟩
theorem sCR{v:Value}{x:DataW H × List MemPlace}(h:DataW.trod enc zP W 0 sp true fuel 24 [v]=some x):∃ X l s,Sr W Cls.av (fun _=>True) v X l s:=by
 obtain⟨X,l,s,v',a,b,c,d,e⟩:=sliceR (default:Cls) Cls.av (fun n=>n.av.cells) (fun _=>True) (fun _=>⟨rfl,rfl⟩) (k:=4) (fun _=>rfl) (by decide) Tryz.underlying24 co_cls (fun _ cs x h=>clsE cs x h) h;cases b;exact⟨X,l,s,a,c,d,e⟩
theorem sJR{v:Value}{x:DataW H × List MemPlace}(h:DataW.trod enc zP W 0 sp true fuel 27 [v]=some x):∃ X l s,Sr W Jb.av (Jb.good) v X l s:=by
 obtain⟨X,l,s,v',a,b,c,d,e⟩:=sliceR (default:Jb) Jb.av (fun n=>n.av.cells) (Jb.good) (fun _=>⟨rfl,rfl⟩) (k:=16) (fun _=>rfl) (by decide) Tryz.underlying27 co_job (fun _ cs x h=>jobE cs x h) h;cases b;exact⟨X,l,s,a,c,d,e⟩
theorem sPR{v:Value}{x:DataW H × List MemPlace}(h:DataW.trod enc zP W 0 sp true fuel 28 [v]=some x):∃ X l s,Sr W Prt.av (fun _=>True) v X l s:=by
 obtain⟨X,l,s,v',a,b,c,d,e⟩:=sliceR (default:Prt) Prt.av (fun n=>n.av.cells) (fun _=>True) (fun _=>⟨rfl,rfl⟩) (k:=13) (fun _=>rfl) (by decide) Tryz.underlying28 co_prt (fun _ cs x h=>prtE cs x h) h;cases b;exact⟨X,l,s,a,c,d,e⟩
theorem sKR{v:Value}{x:DataW H × List MemPlace}(h:DataW.trod enc zP W 0 sp true fuel 29 [v]=some x):∃ X l s,Sr W Kep.av (fun _=>True) v X l s:=by
 obtain⟨X,l,s,v',a,b,c,d,e⟩:=sliceR (default:Kep) Kep.av (fun n=>n.av.cells) (fun _=>True) (fun _=>⟨rfl,rfl⟩) (k:=9) (fun _=>rfl) (by decide) Tryz.underlying29 co_kep (fun _ cs x h=>kepE cs x h) h;cases b;exact⟨X,l,s,a,c,d,e⟩
theorem cfgR{cs:List Value}{x:DataW H × List MemPlace}(h:DataW.trod enc zP W 0 sp true fuel 26 cs=some x):∃(a b c p q r t:Int) (v:Value) (X:Nat->Prop) (l:List Cls) (s:AV),cs=[.int .i64 a,.int .i64 b,.int .i64 c,.int .i64 p,.int .i64 q,.int .i64 r,.int .i64 t,v]/\Sr W Cls.av (fun _=>True) v X l s:=by
 obtain⟨xs,m,_,_,hl,hn,he⟩:=DataW.trod_struct Tryz.underlying26 h;rw[co_cfg]at hl;obtain⟨v0,v1,v2,v3,v4,v5,v6,v7,rfl⟩:=len8 hl;have h0:DataW.trod enc zP W 0 sp true m 23 ((([v0,v1,v2,v3,v4,v5,v6,v7]:List Value).drop 0).take (zP.cellsOf 23))=xs[0]?:=he 0 _ rfl;rw[zAs (n:=6) hn (by decide),co_dims]at h0;have h1:DataW.trod enc zP W 0 sp true m 3 ((([v0,v1,v2,v3,v4,v5,v6,v7]:List Value).drop 3).take (zP.cellsOf 3))=xs[1]?:=he 1 _ rfl;rw[zAs (n:=6) hn (by decide),zCs]at h1;have h2:DataW.trod enc zP W 0 sp true m 3 ((([v0,v1,v2,v3,v4,v5,v6,v7]:List Value).drop 4).take (zP.cellsOf 3))=xs[2]?:=he 2 _ rfl;rw[zAs (n:=6) hn (by decide),zCs]at h2;have h3:DataW.trod enc zP W 0 sp true m 3 ((([v0,v1,v2,v3,v4,v5,v6,v7]:List Value).drop 5).take (zP.cellsOf 3))=xs[3]?:=he 3 _ rfl;rw[zAs (n:=6) hn (by decide),zCs]at h3;have h4:DataW.trod enc zP W 0 sp true m 3 ((([v0,v1,v2,v3,v4,v5,v6,v7]:List Value).drop 6).take (zP.cellsOf 3))=xs[4]?:=he 4 _ rfl;rw[zAs (n:=6) hn (by decide),zCs]at h4;have h5:DataW.trod enc zP W 0 sp true m 24 ((([v0,v1,v2,v3,v4,v5,v6,v7]:List Value).drop 7).take (zP.cellsOf 24))=xs[5]?:=he 5 _ rfl;rw[zAs (n:=6) hn (by decide),co_sC]at h5;obtain⟨a,b,c,e0⟩:=a3R Tryz.underlying23 co_dims h0;obtain⟨p,e1⟩:=intR h1;obtain⟨q,e2⟩:=intR h2;obtain⟨r,e3'⟩:=intR h3;obtain⟨t,e4'⟩:=intR h4;simp at e0 e1 e2 e3' e4' h5;obtain⟨X,l,s,hS⟩:=sCR h5;refine⟨a,b,c,p,q,r,t,v7,X,l,s,?_,hS⟩;simp[e0,e1,e2,e3',e4']
theorem state_rep{v:Value}{d:DataW H}{p:List MemPlace}(hv:Value.okWide zP W .any 0 32 v)(h:DataW.Trod enc zP W 0 sp true 32 v d p):∃(X:Nat->Prop) (s:Sta),RowsX W X/\s.good/\∀ Y:Nat->Prop,(∀ b,X b->Y b)->RepV W (EnX Y) s.av v:=by
 simp only[Value.okWide,Tryz.underlying32]at hv;obtain⟨cs,rfl,_,_⟩:=hv;obtain⟨fuel,h⟩:=h;have h:DataW.trod enc zP W 0 sp true fuel 32 cs.toList=some (d,p):=h
 generalize hcs:cs.toList=la at h
 obtain⟨xs,m,_,_,hl,hn,he⟩:=DataW.trod_struct Tryz.underlying32 h;rw[co_sta]at hl;obtain⟨v0,v1,v2,v3,v4,v5,v6,v7,v8,v9,v10,v11,v12,v13,v14,v15,rfl⟩:=len16 hl;have h0:DataW.trod enc zP W 0 sp true m 26 ((([v0,v1,v2,v3,v4,v5,v6,v7,v8,v9,v10,v11,v12,v13,v14,v15]:List Value).drop 0).take (zP.cellsOf 26))=xs[0]?:=he 0 _ rfl;rw[zAs (n:=9) hn (by decide),co_cfg]at h0;have h1:DataW.trod enc zP W 0 sp true m 3 ((([v0,v1,v2,v3,v4,v5,v6,v7,v8,v9,v10,v11,v12,v13,v14,v15]:List Value).drop 8).take (zP.cellsOf 3))=xs[1]?:=he 1 _ rfl;rw[zAs (n:=9) hn (by decide),zCs]at h1;have h2:DataW.trod enc zP W 0 sp true m 3 ((([v0,v1,v2,v3,v4,v5,v6,v7,v8,v9,v10,v11,v12,v13,v14,v15]:List Value).drop 9).take (zP.cellsOf 3))=xs[2]?:=he 2 _ rfl;rw[zAs (n:=9) hn (by decide),zCs]at h2;have h3:DataW.trod enc zP W 0 sp true m 27 ((([v0,v1,v2,v3,v4,v5,v6,v7,v8,v9,v10,v11,v12,v13,v14,v15]:List Value).drop 10).take (zP.cellsOf 27))=xs[3]?:=he 3 _ rfl;rw[zAs (n:=9) hn (by decide),co_sJ]at h3;have h4:DataW.trod enc zP W 0 sp true m 28 ((([v0,v1,v2,v3,v4,v5,v6,v7,v8,v9,v10,v11,v12,v13,v14,v15]:List Value).drop 11).take (zP.cellsOf 28))=xs[4]?:=he 4 _ rfl;rw[zAs (n:=9) hn (by decide),co_sP]at h4;have h5:DataW.trod enc zP W 0 sp true m 29 ((([v0,v1,v2,v3,v4,v5,v6,v7,v8,v9,v10,v11,v12,v13,v14,v15]:List Value).drop 12).take (zP.cellsOf 29))=xs[5]?:=he 5 _ rfl;rw[zAs (n:=9) hn (by decide),co_sK]at h5;have h6:DataW.trod enc zP W 0 sp true m 30 ((([v0,v1,v2,v3,v4,v5,v6,v7,v8,v9,v10,v11,v12,v13,v14,v15]:List Value).drop 13).take (zP.cellsOf 30))=xs[6]?:=he 6 _ rfl;rw[zAs (n:=9) hn (by decide),co_sI]at h6;have h7:DataW.trod enc zP W 0 sp true m 30 ((([v0,v1,v2,v3,v4,v5,v6,v7,v8,v9,v10,v11,v12,v13,v14,v15]:List Value).drop 14).take (zP.cellsOf 30))=xs[7]?:=he 7 _ rfl;rw[zAs (n:=9) hn (by decide),co_sI]at h7;have h8:DataW.trod enc zP W 0 sp true m 30 ((([v0,v1,v2,v3,v4,v5,v6,v7,v8,v9,v10,v11,v12,v13,v14,v15]:List Value).drop 15).take (zP.cellsOf 30))=xs[8]?:=he 8 _ rfl;rw[zAs (n:=9) hn (by decide),co_sI]at h8;obtain⟨a,b,c,p',q,r,t,vc,X0,cl,sc,e0,g1,g2,g3,g4⟩:=cfgR h0;obtain⟨now,e1⟩:=intR h1;obtain⟨next,e2⟩:=intR h2;simp at e0 e1 e2 h3 h4 h5 h6 h7 h8;obtain⟨X3,l3,s3,j1,j2,j3,j4⟩:=sJR h3;obtain⟨X4,l4,s4,k1,k2,k3,k4⟩:=sPR h4;obtain⟨X5,l5,s5,m1,m2,m3,m4⟩:=sKR h5;obtain⟨X6,l6,s6,n1,n2,n3,n4⟩:=sIR h6;obtain⟨X7,l7,s7,o1,o2,o3,o4⟩:=sIR h7;obtain⟨X8,l8,s8,q1,q2,q3,q4⟩:=sIR h8;obtain⟨x0,x1,x2,x3,x4,x5,x6,x7⟩:=e0;refine⟨fun b=>X0 b\/X3 b\/X4 b\/X5 b\/X6 b\/X7 b\/X8 b,{ c:=⟨a,b,c,p',q,r,t,cl⟩,cs:=sc,now:=now,next:=next,jobs:=l3,js:=s3,parts:=l4,ps:=s4,keeps:=l5,ks:=s5,down:=l6,ds:=s6,shut:=l7,hs:=s7,cut:=l8,us:=s8 },?_,⟨g2,⟨j2,j3⟩,k2,m2,n2,o2,q2⟩,fun Y hY=>?_⟩
 ·rintro b (h | h | h | h | h | h | h)
  ·exact g1 b h
  ·exact j1 b h
  ·exact k1 b h
  ·exact m1 b h
  ·exact n1 b h
  ·exact o1 b h
  ·exact q1 b h
 ·refine RdC.agg (X:=fun b=>X0 b\/X3 b\/X4 b\/X5 b\/X6 b\/X7 b\/X8 b) ?_ hY;rw[hcs,x0,x1,x2,x3,x4,x5,x6,x7,e1,e2];exact .pl rfl (.pl rfl (.pl rfl (.pl rfl (.pl rfl (.pl rfl (.pl rfl (.cons (IsSl.cell g2).1 (fun Y hY=>g4 Y fun b hb=>hY b (.inl hb)) (.pl rfl (.pl rfl (.cons (IsSl.cell j2).1 (fun Y hY=>j4 Y fun b hb=>hY b (.inr (.inl hb)))
   (.cons (IsSl.cell k2).1 (fun Y hY=>k4 Y fun b hb=>hY b (.inr (.inr (.inl hb)))) (.cons (IsSl.cell m2).1 (fun Y hY=>m4 Y fun b hb=>hY b (.inr (.inr (.inr (.inl hb))))) (.cons (IsSl.cell n2).1 (fun Y hY=>n4 Y fun b hb=>hY b (.inr (.inr (.inr (.inr (.inl hb))))))
   (.cons (IsSl.cell o2).1 (fun Y hY=>o4 Y fun b hb=>hY b (.inr (.inr (.inr (.inr (.inr (.inl hb)))))))  (.cons (IsSl.cell q2).1 (fun Y hY=>q4 Y fun b hb=>hY b (.inr (.inr (.inr (.inr (.inr (.inr hb))))))) .nil)))))))))))))))
end
section
variable {H:Type} {enc:TypeId × Value->H} {W:World} {sp:Nat->Bool} {fuel:Nat}
theorem len11{l:List Value}(h:l.length=11):∃ v0 v1 v2 v3 v4 v5 v6 v7 v8 v9 va,l=[v0,v1,v2,v3,v4,v5,v6,v7,v8,v9,va]:=by
 match l,h with
 | [v0,v1,v2,v3,v4,v5,v6,v7,v8,v9,va],_=>exact⟨v0,v1,v2,v3,v4,v5,v6,v7,v8,v9,va,rfl⟩
theorem co_wait:zP.cellsOf 39=11:=by kernel_rfl
theorem waitR{cs:List Value}{x:DataW H × List MemPlace}(h:DataW.trod enc zP W 0 sp true fuel 39 cs=some x):∃(a b y0 y1 y2 y3 y4 y5:Int) (y6 y7 y8:Bool),cs=[.int .i64 a,.int .i64 b,.int .i64 y0,.int .i64 y1,.int .i64 y2,.int .i64 y3,.int .i64 y4,.int .i64 y5,.bool y6,.bool y7,.bool y8]:=by
 obtain⟨xs,m,_,_,hl,hn,he⟩:=DataW.trod_struct Tryz.underlying39 h;rw[co_wait]at hl;obtain⟨v0,v1,v2,v3,v4,v5,v6,v7,v8,v9,va,rfl⟩:=len11 hl;have h0:DataW.trod enc zP W 0 sp true m 3 ((([v0,v1,v2,v3,v4,v5,v6,v7,v8,v9,va]:List Value).drop 0).take (zP.cellsOf 3))=xs[0]?:=he 0 _ rfl;rw[zAs (n:=3) hn (by decide),zCs]at h0;have h1:DataW.trod enc zP W 0 sp true m 3 ((([v0,v1,v2,v3,v4,v5,v6,v7,v8,v9,va]:List Value).drop 1).take (zP.cellsOf 3))=xs[1]?:=he 1 _ rfl;rw[zAs (n:=3) hn (by decide),zCs]at h1;have h2:DataW.trod enc zP W 0 sp true m 37 ((([v0,v1,v2,v3,v4,v5,v6,v7,v8,v9,va]:List Value).drop 2).take (zP.cellsOf 37))=xs[2]?:=he 2 _ rfl;rw[zAs (n:=3) hn (by decide),co_plc]at h2;obtain⟨y0,e0'⟩:=intR h0;obtain⟨y1,e1'⟩:=intR h1;obtain⟨z0,z1,z2,z3,z4,z5,z6,z7,z8,e2'⟩:=plcR h2;simp at e0' e1' e2';refine⟨y0,y1,z0,z1,z2,z3,z4,z5,z6,z7,z8,?_⟩;simp[e0',e1',e2']
end
end Go.Ab.Pd
