/- One of the texts that this claim stands on. -/
import Derived.Test.YtdfgdheehdabmaaGreatDoorEv18
import Derived.Test.YtdfgdheehdabmaaGreatDoorEv37
import Derived.OpenShut
import Derived.WideShapes
import Derived.ChangeSlices
set_option maxHeartbeats 40000000
set_option maxRecDepth 400000
set_option linter.all false
namespace Go.Ab
open Go.RowKit
def EnX(X:Nat→Prop):En:={ loc:=fun _=>none,fro:=X }
end Go.Ab
namespace Go.Ab.Pd
open Go.Proofs Go.WideShapes Go.ChangeShapes
section
variable {H:Type} {enc:TypeId × Value→H} {W:World} {sp:Nat→Bool}
theorem c3:Tryz.prog.cellsOf 3=1:=by kernel_rfl
theorem c26:Tryz.prog.cellsOf 26=7:=by kernel_rfl
theorem c4:Tryz.prog.cellsOf 4=1:=by kernel_rfl
theorem c22:Tryz.prog.cellsOf 22=3:=by kernel_rfl
theorem c23:Tryz.prog.cellsOf 23=3:=by kernel_rfl
theorem c30:Tryz.prog.cellsOf 30=6:=by kernel_rfl
theorem c24:Tryz.prog.cellsOf 24=3:=by kernel_rfl
theorem c32:Tryz.prog.cellsOf 32=9:=by kernel_rfl
theorem c71:Tryz.prog.cellsOf 71=1:=by kernel_rfl
theorem len3{l:List Value}(h:l.length=3):∃ a b c,l=[a,b,c]:=by
 match l,h with
 | [a,b,c],_=>exact⟨a,b,c,rfl⟩
theorem some_of{α:Type}{xs:List α}{n i:Nat}(hn:xs.length=n)(hi:i < n):xs[i]?=some (xs[i]'(by omega)):=by simp
theorem arr3i{t fuel:Nat}{cs:List Value}{x:DataW H × List MemPlace}(ht:Tryz.prog.underlying t=some (.array 3 3))(hc:Tryz.prog.cellsOf t=3)(h:DataW.trod enc Tryz.prog W 0 sp true fuel t cs=some x):∃ a b c:Int,cs=[.int .i64 a,.int .i64 b,.int .i64 c]:=by
 obtain⟨xs,m,_,_,hl,hn,he⟩:=DataW.trod_array ht h;rw[hc]at hl;obtain⟨a,b,c,rfl⟩:=len3 hl;rw[c3]at he;have g:∀ i (hi:i < 3),∃ n:Int,(([a,b,c]:List Value).drop (i*1)).take 1=[.int .i64 n]:=fun i hi=>by
  have h1:=he i hi;rw[some_of hn hi]at h1;obtain⟨n,e,_⟩:=DataW.trod_int Tryz.underlying3 h1;exact⟨n,e⟩
 obtain⟨n0,e0⟩:=g 0 (by decide);obtain⟨n1,e1⟩:=g 1 (by decide);obtain⟨n2,e2⟩:=g 2 (by decide);simp at e0 e1 e2;exact⟨n0,n1,n2,by rw[e0,e1,e2]⟩
theorem arr3b{t fuel:Nat}{cs:List Value}{x:DataW H × List MemPlace}(ht:Tryz.prog.underlying t=some (.array 3 4))(hc:Tryz.prog.cellsOf t=3)(h:DataW.trod enc Tryz.prog W 0 sp true fuel t cs=some x):∃ a b c:Bool,cs=[.bool a,.bool b,.bool c]:=by
 obtain⟨xs,m,_,_,hl,hn,he⟩:=DataW.trod_array ht h;rw[hc]at hl;obtain⟨a,b,c,rfl⟩:=len3 hl;rw[c4]at he;have g:∀ i (hi:i < 3),∃ n:Bool,(([a,b,c]:List Value).drop (i*1)).take 1=[.bool n]:=fun i hi=>by
  have h1:=he i hi;rw[some_of hn hi]at h1;obtain⟨n,e,_⟩:=DataW.trod_bool Tryz.underlying4 h1;exact⟨n,e⟩
 obtain⟨n0,e0⟩:=g 0 (by decide);obtain⟨n1,e1⟩:=g 1 (by decide);obtain⟨n2,e2⟩:=g 2 (by decide);simp at e0 e1 e2;exact⟨n0,n1,n2,by rw[e0,e1,e2]⟩
theorem app_of{cs:List Value}{k m:Nat}{a b:List Value}(hl:cs.length=k+m)(h1:(cs.drop 0).take k=a)(h2:(cs.drop k).take m=b):cs=a++b:=by
 rw[← h1,← h2,List.drop_zero,List.take_of_length_le (l:=cs.drop k) (by simp; omega),List.take_append_drop]
theorem boxR{fuel:Nat}{cs:List Value}{x:DataW H × List MemPlace}(h:DataW.trod enc Tryz.prog W 0 sp true fuel 30 cs=some x):∃ a b c d e f:Int,cs=[.int .i64 a,.int .i64 b,.int .i64 c,.int .i64 d,.int .i64 e,.int .i64 f]:=by
 obtain⟨xs,m,_,_,hl,hn,he⟩:=DataW.trod_struct Tryz.underlying30 h;rw[c30]at hl;have h0:DataW.trod enc Tryz.prog W 0 sp true m 22 ((cs.drop 0).take (Tryz.prog.cellsOf 22))=xs[0]?:=he 0 _ rfl;have h1:DataW.trod enc Tryz.prog W 0 sp true m 22 ((cs.drop 3).take (Tryz.prog.cellsOf 22))=xs[1]?:=he 1 _ rfl;rw[some_of (n:=2) hn (by decide)]at h0 h1;obtain⟨a,b,c,e0⟩:=arr3i Tryz.underlying22 c22 h0;obtain⟨d,e,f,e1⟩:=arr3i Tryz.underlying22 c22 h1;rw[c22]at e0 e1;exact⟨a,b,c,d,e,f,app_of (k:=3) (m:=3) hl e0 e1⟩
theorem placeR{fuel:Nat}{cs:List Value}{x:DataW H × List MemPlace}(h:DataW.trod enc Tryz.prog W 0 sp true fuel 32 cs=some x) :
  ∃(a b c d e f:Int) (s t u:Bool),cs=[.int .i64 a,.int .i64 b,.int .i64 c,.int .i64 d,.int .i64 e,.int .i64 f,.bool s,.bool t,.bool u]:=by
 obtain⟨xs,m,_,_,hl,hn,he⟩:=DataW.trod_struct Tryz.underlying32 h;rw[c32]at hl;have h0:DataW.trod enc Tryz.prog W 0 sp true m 30 ((cs.drop 0).take (Tryz.prog.cellsOf 30))=xs[0]?:=he 0 _ rfl;have h1:DataW.trod enc Tryz.prog W 0 sp true m 24 ((cs.drop 6).take (Tryz.prog.cellsOf 24))=xs[1]?:=he 1 _ rfl;rw[some_of (n:=2) hn (by decide)]at h0 h1;obtain⟨a,b,c,d,e,f,e0⟩:=boxR h0;obtain⟨s,t,u,e1⟩:=arr3b Tryz.underlying24 c24 h1;rw[c30]at e0;rw[c24]at e1;exact⟨a,b,c,d,e,f,s,t,u,app_of (k:=6) (m:=3) hl e0 e1⟩
theorem wantsR{fuel:Nat}{cs:List Value}{x:DataW H × List MemPlace}(h:DataW.trod enc Tryz.prog W 0 sp true fuel 26 cs=some x) :
  ∃(a b c:Int) (s t u v:Bool),cs=[.int .i64 a,.int .i64 b,.int .i64 c,.bool s,.bool t,.bool u,.bool v]:=by
 obtain⟨xs,m,_,_,hl,hn,he⟩:=DataW.trod_struct Tryz.underlying26 h;rw[c26]at hl;have h0:DataW.trod enc Tryz.prog W 0 sp true m 22 ((cs.drop 0).take (Tryz.prog.cellsOf 22))=xs[0]?:=he 0 _ rfl;have h1:DataW.trod enc Tryz.prog W 0 sp true m 24 ((cs.drop 3).take (Tryz.prog.cellsOf 24))=xs[1]?:=he 1 _ rfl;have h2:DataW.trod enc Tryz.prog W 0 sp true m 4 ((cs.drop 6).take (Tryz.prog.cellsOf 4))=xs[2]?:=he 2 _ rfl;rw[some_of (n:=3) hn (by decide)]at h0 h1 h2;obtain⟨a,b,c,e0⟩:=arr3i Tryz.underlying22 c22 h0;obtain⟨s,t,u,e1⟩:=arr3b Tryz.underlying24 c24 h1;obtain⟨v,e2,_⟩:=DataW.trod_bool Tryz.underlying4 h2;rw[c22]at e0;rw[c24]at e1;rw[c4]at e2;have e3:cs.drop 3=[.bool s,.bool t,.bool u]++[.bool v]:=app_of (k:=3) (m:=1) (by rw[List.length_drop]; omega) e1 (by rw[List.drop_drop]; exact e2);exact⟨a,b,c,s,t,u,v,app_of (k:=3) (m:=4) hl e0 (by rw[e3]; rfl)⟩
variable {E:En}
theorem wants_rep{v:Value}{d:DataW H}{p:List MemPlace}(hv:Value.okWide Tryz.prog W .any 0 26 v)(h:DataW.Trod enc Tryz.prog W 0 sp true 26 v d p):∃ w:Wnt,RepV W E w.av v:=by
 simp only[Value.okWide,Tryz.underlying26]at hv;obtain⟨cs,rfl,_,_⟩:=hv;obtain⟨fuel,hf⟩:=h;obtain⟨a,b,c,s,t,u,v,e0⟩:=wantsR hf;have e':cs.toList=[.int .i64 a,.int .i64 b,.int .i64 c,.bool s,.bool t,.bool u,.bool v]:=e0;have:=rep_flat (w:=W) (E:=E) (cs:=cs) (by rw[e']; intro v hv; simp at hv; rcases hv with rfl | rfl | rfl | rfl | rfl | rfl | rfl <;> rfl);rw[e']at this;exact⟨⟨a,b,c,s,t,u,v⟩,this⟩
theorem dims_rep{v:Value}{d:DataW H}{p:List MemPlace}(hv:Value.okWide Tryz.prog W .any 0 23 v)(h:DataW.Trod enc Tryz.prog W 0 sp true 23 v d p):∃ a b c:Int,RepV W E (.agg [I a,I b,I c]) v:=by
 simp only[Value.okWide,Tryz.underlying23]at hv;obtain⟨cs,rfl,_,_⟩:=hv;obtain⟨fuel,hf⟩:=h;obtain⟨a,b,c,e⟩:=arr3i Tryz.underlying23 c23 hf;have e':cs.toList=[.int .i64 a,.int .i64 b,.int .i64 c]:=e;have:=rep_flat (w:=W) (E:=E) (cs:=cs) (by rw[e']; intro v hv; simp at hv; rcases hv with rfl | rfl | rfl <;> rfl);rw[e']at this;exact⟨a,b,c,this⟩
theorem place_rep{v:Value}{d:DataW H}{p:List MemPlace}(hv:Value.okWide Tryz.prog W .any 0 32 v)(h:DataW.Trod enc Tryz.prog W 0 sp true 32 v d p):∃(x y z p q r:Int) (s t u:Bool),RepV W E (PL x y z p q r s t u) v:=by
 simp only[Value.okWide,Tryz.underlying32]at hv;obtain⟨cs,rfl,_,_⟩:=hv;obtain⟨fuel,hf⟩:=h;obtain⟨a,b,c,d',e,f,s,t,u,e0⟩:=placeR hf;have e':cs.toList=[.int .i64 a,.int .i64 b,.int .i64 c,.int .i64 d',.int .i64 e,.int .i64 f,.bool s,.bool t,.bool u]:=e0;have:=rep_flat (w:=W) (E:=E) (cs:=cs) (by rw[e']; intro v hv; simp at hv; rcases hv with rfl | rfl | rfl | rfl | rfl | rfl | rfl | rfl | rfl <;> rfl);rw[e']at this;exact⟨a,b,c,d',e,f,s,t,u,this⟩
theorem plc_rep{v:Value}{d:DataW H}{p:List MemPlace}(hv:Value.okWide Tryz.prog W .any 0 32 v)(h:DataW.Trod enc Tryz.prog W 0 sp true 32 v d p):∃ x:Plc,RepV W E x.av v:=by
 obtain⟨x,y,z,p,q,r,s,t,u,h⟩:=place_rep (E:=E) hv h;exact⟨⟨x,y,z,p,q,r,s,t,u⟩,h⟩
end
theorem row_of_cell{W:World}{b off:Nat}{v:Value}(h:W.cell? ⟨b,off,none⟩=some v):∃ c t f,W.heap[b]?=some (.cells c t f):=by
 unfold World.cell? at h
 split at h
 ·rename_i c t f hb; exact⟨c,t,f,hb⟩
 ·cases h
theorem set_rep{H:Type}{enc:TypeId × Value→H}{W:World}{v:Value}{d:DataW H}{p:List MemPlace}(hv:Value.okWide Tryz.prog W .any 0 28 v)(h:DataW.Trod enc Tryz.prog W 0 (fun _=>true) true 28 v d p) :
  ∃(X:Nat→Prop) (s:AV),(∀ b,X b→∃ c t f,W.heap[b]?=some (.cells c t f))∧IsSet s∧∀ Y:Nat→Prop,(∀ b,X b→Y b)→RepV W (EnX Y) s v:=by
 obtain⟨a0,len,cap,rfl⟩:=okWide_slice Tryz.underlying28 hv;obtain⟨fuel,hf⟩:=h
 rcases open_ints Tryz.underlying28 Tryz.underlying71 c71 hf with ⟨hcs,_⟩ | ⟨a,len',cap',zs,hcs,_,hl,hm,hz,_,hcell,hws⟩
 ·have hcs':[Value.slice a0 len cap]=[.slice none 0 0]:=hcs;simp only[List.cons.injEq,and_true,Value.slice.injEq]at hcs';obtain⟨rfl,rfl,rfl⟩:=hcs';exact⟨fun _=>False,.c (.slice none 0 0),fun b hb=>hb.elim,.nil,fun Y hY=>.c rfl⟩
 ·have hcs':[Value.slice a0 len cap]=[.slice (some a) len' cap']:=hcs;simp only[List.cons.injEq,and_true,Value.slice.injEq]at hcs';obtain⟨rfl,rfl,rfl⟩:=hcs';have hzl:zs.length=cap:=by simpa using hz
  have hlt:(zs.take len).length=len:=by rw[List.length_take]; omega
  have hu:∀ w∈zs.take len,inU w:=fun w hw=>by
   have:=bounds_u64 (hws w (List.mem_of_mem_take hw));unfold inU; omega
  by_cases h0:0 < len
  ·obtain⟨b,off,rfl,hc⟩:=ints_at hcell (by omega);refine⟨fun q=>q=b,.isl ((zs.take len).map U),fun q hq=>?_,.isl hu,fun Y hY=>?_⟩
   ·subst hq;exact row_of_cell (hc 0 (by omega))
   ·have key:=RepV.isl (w:=W) (E:=EnX Y) (es:=(zs.take len).map U) (ad:=⟨b,off,none⟩) (cc:=cap) (sz:=1) (f:=fun i _=>.int .u64 (zs.getD i 0)) (fun _=>⟨hY _ rfl,rfl⟩) (by rw[List.length_map,hlt]; exact hl)
     (fun i hi=>by
      rw[List.length_map]at hi;rw[zAm U (zs.take len) 0 hi]; exact⟨rfl,rfl⟩)
     (fun i j hi hj=>by
      rw[List.length_map,hlt]at hi;have:j=0:=by omega
      subst this;have:=hc i (by omega);show W.cell? ⟨b,off+i*1+0,none⟩=_;rw[Nat.mul_one,Nat.add_zero]; exact this)
     (fun i j hi hj=>by
      rw[List.length_map]at hi;have:j=0:=by omega
      subst this;rw[zAm U (zs.take len) 0 hi]; rfl)
     (fun i j hi hj=>by
      rw[List.length_map]at hi;have hj0:j=0:=by omega
      subst hj0;rw[zAm U (zs.take len) 0 hi];have e:(zs.take len).getD i 0=zs.getD i 0:=by
       rw[hlt]at hi;simp[List.getD,List.getElem?_take,hi]
      rw[e];exact .c rfl)
    rw[List.length_map,hlt]at key;exact key
  ·have hl0:len=0:=by omega
   subst hl0;refine⟨fun _=>False,.isl (([]:List Int).map U),fun b hb=>hb.elim,.isl (by simp),fun Y hY=>?_⟩;exact RepV.isl (es:=[]) (sz:=1) (f:=fun _ _=>undef) (fun h=>by simp at h) (Nat.zero_le _) (fun i hi=>by simp at hi) (fun i j hi=>by simp at hi) (fun i j hi=>by simp at hi) (fun i j hi=>by simp at hi)
end Go.Ab.Pd
