/- One of the texts that this claim stands on. -/
import Derived.Test.YtnfnhccebebflaaGreatEv22
set_option maxHeartbeats 40000000
set_option maxRecDepth 400000
set_option linter.all false
namespace Go.Ab
variable {P:Program} {G:Gl}
def Fresh(P:Program)(G:Gl)(f:FuncId)(args es:List AV):Prop:=∀(H:List AO) (K:AV->List AO->Prop),K (.sl H.length 0 es.length es.length) (H++[.arr 1 es])->AC P G f args H K
theorem Fresh.of_alone(hG:GPure G){f:FuncId}{args es:List AV}(hp:AV.purL args=true)(hes:AV.purL es=true)(hne:0 < es.length)(h:AC P G f args [] fun v0 H0=>Own H0 v0 es):Fresh P G f args es:=by
 intro H K hK
 refine⟨h.1,fun E w vargs hH hA cs=>?_⟩
 let E0:En:={ loc:=fun _=>none,fro:=E.fro }
 have hH0:RelH G w E0 []:=⟨fun id o ho=>by simp at ho,fun id id' o o' l l' ho=>by simp at ho,hH.frob,fun b hb hl=>by
  obtain⟨id,o,l,ho,_⟩:=hl;simp at ho,fun id l hl=>by simp[E0]at hl,fun g cs hg=>RepV.pure (E:=E) (E':=E0) (fun _ h=>h) (hH.gl g cs hg) (by simpa[AV.pur]using hG g cs hg)⟩
 obtain⟨v0,H0,E',w',r,fr,hown,g1,g2,g3,g4,g5,g6⟩:=h.2 E0 w vargs hH0 (RepL.pure (E:=E) (E':=E0) (fun _ h=>h) hA hp) cs;have hnl:∀ b,¬ Live [] E0 b:=by rintro b ⟨id,o,l,ho,_⟩; simp at ho
 cases hown with
 | nil=>simp at hne
 | row hid h0 =>
  rename_i id;cases g3 with
  | sl hloc k1 k2 k3 =>
   rename_i l ad cc
   let E2:En:={ loc:=fun j=>if j=H.length then some l else E.loc j,fro:=E'.fro }
   have hsame:∀ b,b < w.heap.size->w'.heap[b]?=w.heap[b]?:=fun b hb=>g2.same b hb (hnl b)
   have hlv:Live H0 E' l.b:=⟨id,_,l,hid,rfl,hloc,rfl⟩;have hnew:w.heap.size<=l.b:=by
    rcases g2.newlive l.b hlv with h1 | h1
    ·exact absurd h1 (hnl _)
    ·exact h1
   have hE2:∀ j lj,E.loc j=some lj->E2.loc j=some lj:=fun j lj hj=>by
    have:=hH.dom j lj hj;show(if j=H.length then some l else E.loc j)=some lj;rw[if_neg (by omega)]; exact hj
   have hE2':∀ j,j < H.length->E2.loc j=E.loc j:=fun j hj=>by
    show(if j=H.length then some l else E.loc j)=_;rw[if_neg (by omega)]
   have hE2n:E2.loc H.length=some l:=by show(if H.length=H.length then some l else _)=_; rw[if_pos rfl]
   have hf2:∀ b,E2.fro b->E.fro b\/w.heap.size<=b:=by
    intro b hb
    rcases g2.newfro b hb with h1 | h1 | h1
    ·exact .inl h1
    ·exact .inr h1
    ·exact absurd h1 (hnl b)
   have hm:Mono w E w' E2:=⟨fun b hb=>g2.mono.fro b hb,fun b hb=>by
    obtain⟨c,t,fz,hc⟩:=hH.frob b hb;exact hsame b (zAu hc),hE2,g2.mono.row⟩
   obtain⟨l',hl',hszl,c,t,hcell,hs,hr⟩:=g1.obj id _ hid rfl;rw[hloc]at hl'; cases hl';have hget:∀(j:Nat) (oj:AO),(H++[.arr 1 es])[j]?=some oj->(j < H.length/\H[j]?=some oj)\/(j=H.length/\oj=.arr 1 es):=by
    intro j oj hj
    rcases Nat.lt_trichotomy j H.length with h1 | h1 | h1
    ·rw[zL h1]at hj; exact .inl ⟨h1,hj⟩
    ·subst h1; simp at hj; exact .inr ⟨rfl,hj.symm⟩
    ·rw[List.getElem?_append_right (by omega)]at hj;simp[List.getElem?_eq_none (show([AO.arr 1 es]:List AO).length<=j - H.length by simp; omega)]at hj
   have hR:RelH G w' E2 (H++[.arr 1 es]):=by
    refine⟨fun j o ho hlv'=>?_,?_,fun b hb=>g1.frob b hb,fun b hb hl=>?_,fun j lj hj=>?_,fun g cs hg=>(hH.gl g cs hg).mono hm⟩
    ·rcases hget j o ho with ⟨h1,h2⟩ | ⟨h1,h2⟩
     ·obtain⟨lj,hlj,hrj⟩:=hH.obj j o h2 hlv';exact⟨lj,hE2 _ _ hlj,hrj.mono hm (hsame _ (Live.lt hH ⟨j,o,lj,h2,hlv',hlj,rfl⟩))⟩
     ·subst h1; subst h2;refine⟨l,hE2n,hszl,c,t,hcell,hs,fun i hi=>⟨(hr i hi).1,(hr i hi).2.1,fun q hq=>⟨((hr i hi).2.2 q hq).1,?_⟩⟩⟩;exact RepV.pure (E:=E') (E':=E2) (fun _ h=>h) ((hr i hi).2.2 q hq).2 (pur_cells (zDg hes i) q)
    ·intro j j' o1 o2 l1 l2 hH1 ho1 hH2 ho2 hl1 hl2 hb
     rcases hget j o1 hH1 with ⟨h1,h1'⟩ | ⟨h1,h1'⟩ <;> rcases hget j' o2 hH2 with ⟨h2,h2'⟩ | ⟨h2,h2'⟩
     ·rw[hE2' j h1]at hl1; rw[hE2' j' h2]at hl2;exact hH.inj j j' o1 o2 l1 l2 h1' ho1 h2' ho2 hl1 hl2 hb
     ·rw[hE2' j h1]at hl1; subst h2; rw[hE2n]at hl2; cases hl2;have:=Live.lt hH ⟨j,o1,l1,h1',ho1,hl1,rfl⟩;omega
     ·rw[hE2' j' h2]at hl2; subst h1; rw[hE2n]at hl1; cases hl1;have:=Live.lt hH ⟨j',o2,l2,h2',ho2,hl2,rfl⟩;omega
     ·omega
    ·obtain⟨j,o,lj,ho,hlv',hlj,rfl⟩:=hl
     rcases hget j o ho with ⟨h1,h2⟩ | ⟨h1,h2⟩
     ·rw[hE2' j h1]at hlj
      rcases hf2 _ hb with h3 | h3
      ·exact hH.sep _ h3 ⟨j,o,lj,h2,hlv',hlj,rfl⟩
      ·have:=Live.lt hH ⟨j,o,lj,h2,hlv',hlj,rfl⟩; omega
     ·subst h1; rw[hE2n]at hlj; cases hlj;exact g1.sep _ hb hlv
    ·rw[List.length_append]
     by_cases h1:j=H.length
     ·simp[h1]
     ·have h2:(if j=H.length then some l else E.loc j)=some lj:=hj;rw[if_neg h1]at h2;have:=hH.dom j lj h2;simp; omega
   refine⟨_,_,E2,w',_,fr,hK,hR,⟨hm,g2.size,fun b hb _=>hsame b hb,fun b hb=>(hf2 b hb).imp (fun h=>h) .inl,fun b hb=>?_,g2.os,g2.tape,g2.output⟩,.sl hE2n k1 k2 k3,g4,g5,g6⟩;obtain⟨j,o,lj,ho,hlv',hlj,rfl⟩:=hb
   rcases hget j o ho with ⟨h1,h2⟩ | ⟨h1,h2⟩
   ·rw[hE2' j h1]at hlj;exact .inl ⟨j,o,lj,h2,hlv',hlj,rfl⟩
   ·subst h1; rw[hE2n]at hlj; cases hlj;exact .inr hnew
def afterL(P:Program)(G:Gl)(id:Nat)(K:AV->List AO->Prop):List Int->List AO->Prop
 | [],H=>K (.tup []) H
 | x::l,H=>AY P G id [IA x] H fun v H1=>(v=.c (.bool false)->K (.tup []) H1)/\(v=.c (.bool true)->afterL P G id K l H1)/\∃ b,v=.c (.bool b)
theorem afterL_rounds{id:Nat}{K:AV->List AO->Prop}(I:List Int->List AO->Prop)(hend:∀ H,I [] H->K (.tup []) H)
  (hstep:∀ x l H,I (x::l) H->AY P G id [IA x] H fun v H1=>v=.c (.bool true)/\I l H1):∀ l H,I l H->afterL P G id K l H
 | [],H,h=>hend H h
 | x::l,H,h=>by
  refine ACV.mono (callee:=.yld id) (hstep x l H h) ?_
  intro v H1 hv
  exact⟨fun e=>(by rw[hv.1]at e; cases e),fun _=>afterL_rounds I hend hstep l H1 hv.2,true,hv.1⟩
end Go.Ab
