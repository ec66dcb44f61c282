/- A text of this claim. -/
import Derived.Test.YtplmblgihfogjaaGreatDoorEv15
import Derived.Below
import Derived.ChangeSame
set_option maxHeartbeats 40000000
set_option maxRecDepth 400000
set_option linter.all false
namespace Go.Ab
open Go.RowKit Go.WideShapes Go.ChangeShapes
section
variable {H:Type} {enc:TypeId × Value->H} {P:Program}
theorem post_of_below{f:Func}{s:ChangeSpec}{apart fresh handsOn again:Bool}{W W':World}{args:Array Value}{v:Value}{ds gs:List (DataW H)}{before pa pv:List MemPlace}
  (hW:DataW.Whole enc P f.params.toList s.vars apart W args.toList ds gs before)
  (hres:∀(b:Nat) (sp:Nat->Bool) (hd:Bool),DataW.TrodAll enc P W' b sp hd f.resultTypes.toList (v.resultList f.resultTypes.size) (s.fn H (ds++gs)).results [])
  (hargs:∀ sp:Nat->Bool,(∀ p∈before,sp p.block=true)->DataW.TrodAll enc P W' 0 sp true f.params.toList args.toList (s.fn H (ds++gs)).args pa)
  (hvars:∀ sp:Nat->Bool,(∀ p∈before,sp p.block=true)->DataW.TrodVars enc P W' sp s.vars (s.fn H (ds++gs)).vars pv)
  (hps:before=pa++pv) (hb:Below W.heap.size W W')
  (hok:∀(j:Nat) (t:TypeId) (r:Value),f.resultTypes[j]?=some t->(v.resultList f.resultTypes.size)[j]?=some r->Value.okWide P W' .any 0 t r) :
  s.post enc P f apart fresh handsOn again W args v W':=by
 have hlt:∀ p∈before,p.block < W.heap.size:=fun p hp=>hW.lt p hp
 have hold:∀ p∈before,(fun b=>decide (b < W.heap.size)) p.block=true:=fun p hp=>by simpa using hlt p hp
 refine⟨ds,gs,before,[],pa,pv,hW,hres _ _ _,hargs _ hold,hvars _ hold,World.keptBut_mono (fun p hp=>⟨hp,?_⟩) (hb.frame (·∈before)),fun _=>?_⟩
 ·rw[hps,List.mem_append]at hp;exact Or.inr hp
 ·obtain⟨_,_,_,_,_,hz,hn⟩:=hW;refine⟨hok,_,_,([]++pa)++pv,⟨[]++pa,pv,trodAll_append (hargs _ (fun _ _=>rfl)) (hres _ _ _),hvars _ (fun _ _=>rfl),rfl,?_,?_⟩,?_⟩
  ·intro b off hp
   have hin:MemPlace.cell b off∈before:=by rw[hps]; simpa using hp
   rw[hb.frozen (hlt _ hin)];exact hz b off hin
  ·intro ha
   have:=hn ha;rw[hps]at this;simpa using this
  ·intro p hp _
   rw[hps];simpa using hp
end
open Go.RowKit
def TabAt(W:World)(g:Nat)(l:List Int):Prop:=(∃ c t f,W.heap[g]?=some (.cells c t f))/\∀ i,i < l.length->W.cell? ⟨g,i,none⟩=some (.int .u8 (l.getD i 0))
def EnA(g:Nat)(X:Nat->Prop):En:={ loc:=fun _=>none,fro:=fun b=>b=g\/X b }
theorem pur_calls_args{P:Program}{G:Gl}{f:FuncId}{args:List AV}{v:Value}(h:Pur P G f args (.c v)){g:Nat}{l:List Int}(hG:∀ j cs,G j=some cs->j=g/\cs=l.map fun n=>.c (.int .u8 n))(w:World)(ht:TabAt w g l)
  (X:Nat->Prop) (hX:∀ b,X b->∃ c t f,w.heap[b]?=some (.cells c t f)) {vargs:Array Value} (hA:RepL w (EnA g X) args vargs) :
  Calls P f vargs w fun e w'=>e=.returned v/\Below w.heap.size w w':=by
 intro cs
 have h1:=h [] (fun u _=>u=.c v) rfl;have hnl:∀ b,¬ Live [] (EnA g X) b:=by rintro b ⟨id,o,l,ho,_⟩; simp at ho
 have hH:RelH G w (EnA g X) []:=⟨fun id o ho=>by simp at ho,fun id id' o o' l l' ho=>by simp at ho,fun b hb=>by
   have hb:b=g\/X b:=hb
   rcases hb with rfl | hb
   ·exact ht.1
   ·exact hX b hb,fun b hb=>hnl b,
  fun id l hl=>by simp[EnA]at hl,fun j cs hj=>by
   obtain⟨rfl,rfl⟩:=hG j cs hj;exact .iptr (b:=j) (o:=0) (off:=0) (f:=fun i=>.int .u8 (l.getD i 0)) (.inl rfl) (fun i hi=>by
    have hi':i < l.length:=by simpa using hi
    rw[Nat.zero_add]; exact ht.2 i hi') (fun i hi=>by
    have hi':i < l.length:=by simpa using hi
    simp[List.getD,hi',AV.isCell]) (fun i hi=>by
    have hi':i < l.length:=by simpa using hi
    have e:(l.map fun n=>AV.c (.int .u8 n)).getD i .un=.c (.int .u8 (l.getD i 0)):=by simp[List.getD,hi']
    rw[e]; exact .c rfl)⟩
 obtain⟨u,H',E',w',r,fr,hu,g1,g2,g3,g4,g5,g6⟩:=h1.2 (EnA g X) w vargs hH hA cs;subst hu;have hr:=g3.c_inv;subst hr;exact⟨.returned r,w',fr,⟨rfl,g2.os,g2.tape,g2.output.out,g2.size,fun k hk=>g2.same k hk (hnl k)⟩,g4,g5,g6⟩
theorem rep_flat{w:World}{E:En}{cs:Array Value}(h:∀ v∈cs.toList,plain v=true):RepV w E (.agg (cs.toList.map .c)) (.agg cs):=by
 refine .agg (by simp) (fun i hi=>?_) (fun i hi=>?_)
 ·have hi':i < cs.size:=by simpa using hi
  simp[List.getD,hi',AV.isCell]
 ·have hi':i < cs.size:=by simpa using hi
  have e1:(cs.toList.map AV.c).getD i .un=.c cs[i]:=by simp[List.getD,hi']
  have e2:cs.getD i undef=cs[i]:=by simp[Array.getD,hi']
  rw[e1,e2];exact .c (h _ (by simp))
theorem RepL.nil{w:World}{E:En}:RepL w E [] #[]:=⟨rfl,fun i hi=>by simp at hi⟩
theorem RepL.cons{w:World}{E:En}{a:AV}{l:List AV}{v:Value}{vs:List Value}(h:RepV w E a v)(k:RepL w E l vs.toArray):RepL w E (a::l) (v::vs).toArray:=by
 refine⟨by simpa using k.1,fun i hi=>?_⟩;cases i with
 | zero=>simpa[List.getD,Array.getD]using h
 | succ i =>
  have:=k.2 i (by simpa using hi);simpa[List.getD,Array.getD_eq_getD_getElem?]using this
end Go.Ab
