/- One of the texts that this claim stands on. -/
import Derived.Test.YtdfgdheehdabmaaGreatDoorEv43
set_option maxHeartbeats 40000000
set_option maxRecDepth 400000
set_option linter.all false
namespace Go.Ab
section
variable {P:Program} {G:Gl} {rd:Option Nat} {n:Nat}
theorem live_ndef{w:World}{E:En}{H:List AO}(h:RelH G w E H){r:Nat}{ds:Option (List Deferred)}(hr:w.heap[r]?=some (Obj.deferred ds)):¬Live H E r:=by
 rintro⟨id,o,l,h1,h2,h3,rfl⟩
 obtain⟨l',h4,h5⟩:=h.obj id o h1 h2;rw[h3]at h4;cases h4;exact h5.ndef h2 ds hr
theorem MarksOn.trans{w0 w1 w2:World}{E1 E2:En}{H1 H2:List AO}(h1:RelH G w1 E1 H1)(hs:w0.heap.size≤w1.heap.size)(g:Grow H1 E1 w1 H2 E2 w2){D D1 D2:List Deferred}(a:MarksOn w0 w1 D D1)(b:MarksOn w1 w2 D1 D2):MarksOn w0 w2 D D2:=by
 obtain⟨rs,rfl,hn,hr⟩:=a;obtain⟨ss,rfl,hm,ht⟩:=b;refine⟨ss++rs,by simp,List.nodup_append.2 ⟨hm,hn,fun x hx y hy e=>?_⟩,fun r hrr=>?_⟩
 ·have:=(ht x hx).1;have:=zBb (hr y hy).2;omega
 ·rcases List.mem_append.1 hrr with h | h
  ·exact⟨Nat.le_trans hs (ht r h).1,(ht r h).2⟩
  ·exact⟨(hr r h).1,(g.same r (zBb (hr r h).2) (live_ndef h1 (hr r h).2)).trans (hr r h).2⟩
theorem FW.cut{todo t:List Item}{ts:Nat→AV}{H:List AO}{Q:Lv→(Nat→AV)→List AO→Prop}{Inv:(Nat→AV)→List AO→Prop}(ht:zCl n todo=true→zCl n t=true)
  (h1:FW P G rd n todo ts H fun L ts' H'=>L=.stop t∧Inv ts' H') (h2:∀ ts' H',Inv ts' H'→FW P G rd n t ts' H' Q):FW P G rd n todo ts H Q:=by
 intro hok E w tmps hH hT b D cs hrd
 obtain⟨L,ts1,H1,E1,w1,tmps1,D1,todo1,⟨rfl,hI⟩,r1,g1,t1,a1,⟨d1,m1⟩,l1⟩:=h1 hok E w tmps hH hT b D cs hrd;obtain⟨rfl,_⟩:=a1;obtain⟨L,ts2,H2,E2,w2,tmps2,D2,todo2,hQ,r2,g2,t2,a2,⟨d2,m2⟩,l2⟩:=h2 ts1 H1 hI (ht hok) E1 w1 tmps1 r1 t1 b D1 cs (hrd.mono g1.mono);exact⟨L,ts2,H2,E2,w2,tmps2,D2,todo2,hQ,r2,g1.trans g2,t2,a2,⟨fun h=>(d2 h).trans (d1 h),MarksOn.trans r1 g1.size g2 m1 m2⟩,l2.pre P l1⟩
theorem FW.cut2{todo t:List Item}{ts:Nat→AV}{H:List AO}{Q:Lv→(Nat→AV)→List AO→Prop}{Inv:(Nat→AV)→List AO→Prop}(ht:zCl n todo=true→zCl n t=true)
  (h1:FW P G rd n todo ts H fun L ts' H'=>(L=.stop t∧Inv ts' H')∨Q L ts' H') (h2:∀ ts' H',Inv ts' H'→FW P G rd n t ts' H' Q):FW P G rd n todo ts H Q:=by
 intro hok E w tmps hH hT b D cs hrd
 obtain⟨L,ts1,H1,E1,w1,tmps1,D1,todo1,hL,r1,g1,t1,a1,⟨d1,m1⟩,l1⟩:=h1 hok E w tmps hH hT b D cs hrd
 rcases hL with ⟨rfl,hI⟩ | hQ
 ·obtain⟨rfl,_⟩:=a1;obtain⟨L,ts2,H2,E2,w2,tmps2,D2,todo2,hQ,r2,g2,t2,a2,⟨d2,m2⟩,l2⟩:=h2 ts1 H1 hI (ht hok) E1 w1 tmps1 r1 t1 b D1 cs (hrd.mono g1.mono);exact⟨L,ts2,H2,E2,w2,tmps2,D2,todo2,hQ,r2,g1.trans g2,t2,a2,⟨fun h=>(d2 h).trans (d1 h),MarksOn.trans r1 g1.size g2 m1 m2⟩,l2.pre P l1⟩
 ·exact⟨L,ts1,H1,E1,w1,tmps1,D1,todo1,hQ,r1,g1,t1,a1,⟨d1,m1⟩,l1⟩
theorem FW.here{ops:Array Oper}{i:Nat}{rest:List Nat}{k:List Item}{ts:Nat→AV}{H:List AO}{Inv:(Nat→AV)→List AO→Prop}(hI:Inv ts H):FW P G rd n (.inRegion ops (i::rest)::k) ts H fun L ts' H'=>L=.stop (.inRegion ops (i::rest)::k)∧Inv ts' H' :=
 FW.leave (.stop _) ⟨rfl,_,_,_,_,rfl⟩ trivial ⟨rfl,hI⟩
theorem FW.here2{ops:Array Oper}{i:Nat}{rest:List Nat}{k:List Item}{ts:Nat→AV}{H:List AO}{Inv:(Nat→AV)→List AO→Prop}{Q:Lv→(Nat→AV)→List AO→Prop}(hI:Inv ts H):FW P G rd n (.inRegion ops (i::rest)::k) ts H fun L ts' H'=>(L=.stop (.inRegion ops (i::rest)::k)∧Inv ts' H')∨Q L ts' H' :=
 FW.leave (.stop _) ⟨rfl,_,_,_,_,rfl⟩ trivial (.inl ⟨rfl,hI⟩)
end
end Go.Ab
