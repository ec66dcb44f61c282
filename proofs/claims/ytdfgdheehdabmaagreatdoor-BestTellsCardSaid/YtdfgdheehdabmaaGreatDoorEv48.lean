/- One of the texts that this claim stands on. -/
import Derived.Test.YtdfgdheehdabmaaGreatDoorEv37
import Derived.Test.YtdfgdheehdabmaaGreatDoorEv42
set_option maxHeartbeats 40000000
set_option maxRecDepth 400000
set_option linter.all false
namespace Go.Ab.Pd
open Go.Proofs
def smallV(a b c:Int):Bool:=if okD a b c then decide (IntKind.i64.wrap (IntKind.i64.wrap (a*b)*c)≤64) else true
theorem e5:Ent Tryz.prog 5 Tryz.f5 [] 1:=.mk Tryz.func5 rfl
attribute [push_cast] Tryz.f5
theorem small_pur(a b c:Int):Pur Tryz.prog GG 5 [.agg [I a,I b,I c]] (B (smallV a b c)):=by
 refine goQ e5 TOk.nil 5 ?_;simp(maxSteps:=2000000)only[push_cast,seval,↓kw2];unfold smallV
 repeat' (first | apply And.intro | intro _)
 all_goals
  refine⟨_,rfl,zAa rfl ?_⟩;simp only[AV.c.injEq,Value.bool.injEq]
  first | (rw[if_neg (by unfold okD; omega)]) | (rw[if_pos (by unfold okD; omega)])
theorem IsSet.len{s:AV}(q:IsSet s):∃ L:Int,aLen Tryz.prog 28 s=some L:=by
 obtain⟨ws,_,rfl | ⟨rfl,_⟩⟩:=q
 ·exact⟨_,li28 _⟩
 ·exact⟨_,ln28⟩
def zPl:Plc:=⟨0,0,0,0,0,0,false,false,false⟩
theorem set_told{s:AV}(q:IsSet s)(n:Int):(∃ e:Int,¬e=0∧Pur Tryz.prog GG 24 [I n,s] (I e))∨∃ ws:List Int,(∀ w∈ws,inU w)∧s=.isl (ws.map U)∧schk n ws=0:=by
 obtain⟨ws,hw,rfl | ⟨rfl,rfl⟩⟩:=q
 ·by_cases h:schk n ws=0
  ·exact .inr ⟨ws,hw,rfl,h⟩
  ·exact .inl ⟨_,h,zBh n ws⟩
 ·refine .inl ⟨_,fun h=>?_,scheckN_pur n⟩;obtain⟨hn,hl,_⟩:=(zBl (ws:=[]) (by simp)).1 h;simp only[List.length_nil]at hl;omega
theorem check_of{n:Int}{ws:List Int}(h:schk n ws=0):Pur Tryz.prog GG 24 [I n,.isl (ws.map U)] (I 0):=by
 have:=zBh n ws
 rwa [h]at this
theorem dwchk_8{a b c p q r:Int}(h:¬zEs a b c p q r=0):zEs a b c p q r=8:=by
 unfold zEs wchk at *
 split
 ·split
  ·simp_all
  ·rfl
 ·rfl
theorem best_all(a b c:Int)(w:Wnt){s1 s2:AV}(q1:IsSet s1)(q2:IsSet s2) :
  Pur Tryz.prog GG 6 [.agg [I a,I b,I c],w.av,s1,s2] (.tup [zPl.av,I 8]) ∨
  ∃ xs ys:List Int,(∀ w∈xs,inU w)∧(∀ w∈ys,inU w)∧s1=.isl (xs.map U)∧s2=.isl (ys.map U)∧schk (zAg a b c) xs=0∧schk (3*zAg a b c) ys=0∧zEs a b c w.p w.q w.r=0:=by
 by_cases h:zEs a b c w.p w.q w.r=0
 ·rcases set_told q1 (zAg a b c)with ⟨e1,n1,p1⟩ | ⟨xs,hx,rfl,c1⟩
  ·obtain⟨e2,p2,_⟩:=check_ex q2 (3*zAg a b c);exact .inl (best_err q1 q2 (by decide) (spotsA_sets w q1 q2 h p1 p2 fun hh=>n1 hh.1))
  ·rcases set_told q2 (3*zAg a b c)with ⟨e2,n2,p2⟩ | ⟨ys,hy,rfl,c2⟩
   ·exact .inl (best_err q1 q2 (by decide) (spotsA_sets w q1 q2 h (check_of c1) p2 fun hh=>n2 hh.2))
   ·exact .inr ⟨xs,ys,hx,hy,rfl,rfl,c1,c2,h⟩
 ·have:=spotsA_bad w q1 q2 h;rw[dwchk_8 h]at this;exact .inl (best_err q1 q2 (by decide) this)
end Go.Ab.Pd
