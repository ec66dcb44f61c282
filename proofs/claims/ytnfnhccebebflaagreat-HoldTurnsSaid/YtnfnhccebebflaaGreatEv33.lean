/- One of the texts that this claim stands on. -/
import Derived.Test.YtnfnhccebebflaaGreatEv16
set_option maxHeartbeats 40000000
set_option maxRecDepth 400000
set_option linter.all false
namespace Go.Ab
open Go.RowKit
theorem rep_flat{w:World}{E:En}{cs:Array Value}(h:∀ v∈cs.toList,plain v=true):RepV w E (.agg (cs.toList.map .c)) (.agg cs):=by
 refine .agg (by simp) (fun i hi=>?_) (fun i hi=>?_)
 ·have hi':i < cs.size:=by simpa using hi
  simp[List.getD,hi',AV.isCell]
 ·have hi':i < cs.size:=by simpa using hi
  have e1:(cs.toList.map AV.c).getD i .un=.c cs[i]:=by simp[List.getD,hi']
  have e2:cs.getD i undef=cs[i]:=by simp[Array.getD,hi']
  rw[e1,e2];exact .c (h _ (by simp))
theorem RepL.nil{w:World}{E:En}:RepL w E [] #[]:=⟨rfl,fun i hi=>by simp at hi⟩
theorem RepL.cons{w:World}{E:En}{a:AV}{l:List AV}{v:Value}{vs:List Value}(h:RepV w E a v)(k:RepL w E l vs.toArray):RepL w E (a::l) (v::vs).toArray:=by
 refine⟨by simpa using k.1,fun i hi=>?_⟩;cases i with
 | zero=>simpa[List.getD,Array.getD]using h
 | succ i =>
  have:=k.2 i (by simpa using hi);simpa[List.getD,Array.getD_eq_getD_getElem?]using this
end Go.Ab
