/- A text of this claim. -/
import Derived.Test.YtplmblgihfogjaaGreatDoorEv23
set_option maxHeartbeats 40000000
set_option maxRecDepth 400000
set_option linter.all false
namespace Go.Ab
variable {P:Program} {G:Gl}
theorem AC.freezeArg{f:FuncId}{pre post:List AV}{H:List AO}{id cap:Nat}{es:List AV}{K:AV->List AO->Prop}(hid:H[id]?=some (.arr 1 es))(hne:0 < es.length)(hpure:AV.purL es=true)
  (h:AC P G f (pre++([.isl es]++post)) (H.set id .dead) K):AC P G f (pre++([.sl id 0 es.length cap]++post)) H K:=by
 refine⟨h.1,fun E w vargs hH hA cs=>?_⟩;obtain⟨l,hl,hszl,c,t,hcell,hs,hr⟩:=hH.obj id _ hid rfl
 let E':En:={ loc:=E.loc,fro:=fun b=>E.fro b\/b=l.b }
 have hlv:Live H E l.b:=⟨id,_,l,hid,rfl,hl,rfl⟩;have hm:Mono w E w E':=⟨fun b hb=>.inl hb,fun _ _=>rfl,fun _ _ h=>h,fun _ _ h=>h⟩;have hidl:=(List.getElem?_eq_some_iff.1 hid).1;have hget:∀(j:Nat) (oj:AO),(H.set id .dead)[j]?=some oj->oj.live=true->j≠id/\H[j]?=some oj:=by
  intro j oj hj hoj
  by_cases e:j=id
  ·subst e;rw[zS hidl]at hj;cases hj; simp[AO.live]at hoj
  ·rw[zQ (fun h=>e h.symm)]at hj;exact⟨e,hj⟩
 have hsub:∀ b,Live (H.set id .dead) E' b->Live H E b/\b≠l.b:=by
  rintro b ⟨j,oj,lj,hj,hoj,hlj,rfl⟩
  obtain⟨h1,h2⟩:=hget j oj hj hoj;exact⟨⟨j,oj,lj,h2,hoj,hlj,rfl⟩,fun e=>h1 (hH.inj j id oj _ lj l h2 hoj hid rfl hlj hl e)⟩
 have hR:RelH G w E' (H.set id .dead):=by
  refine⟨fun j oj hj hoj=>?_,fun j j' o1 o2 l1 l2 h1 ho1 h2 ho2 hl1 hl2 hb=>?_,fun b hb=>?_,fun b hb hl'=>?_,fun j lj hlj=>by rw[List.length_set]; exact hH.dom j lj hlj,fun g cs hg=>(hH.gl g cs hg).mono hm⟩
  ·obtain⟨h1,h2⟩:=hget j oj hj hoj;obtain⟨lj,hlj,hrj⟩:=hH.obj j oj h2 hoj;exact⟨lj,hlj,hrj.mono hm rfl⟩
  ·exact hH.inj j j' o1 o2 l1 l2 (hget _ _ h1 ho1).2 ho1 (hget _ _ h2 ho2).2 ho2 hl1 hl2 hb
  ·rcases hb with hb | rfl
   ·exact hH.frob b hb
   ·exact⟨c,t,_,hcell⟩
  ·obtain⟨h1,h2⟩:=hsub b hl'
   rcases hb with hb | hb
   ·exact hH.sep b hb h1
   ·exact h2 hb
 have hA':RepL w E' (pre++([.isl es]++post)) vargs:=by
  have hlen:(pre++([AV.sl id 0 es.length cap]++post)).length=(pre++([AV.isl es]++post)).length:=by simp
  refine⟨by rw[hA.1,hlen],fun i hi=>?_⟩;have h1:=hA.2 i (by rw[hlen]; exact hi)
  rcases Nat.lt_trichotomy i pre.length with hlt | heq | hgt
  ·have e1:(pre++([AV.isl es]++post)).getD i .un=pre.getD i .un:=by simp[List.getD,zL hlt]
   have e2:(pre++([AV.sl id 0 es.length cap]++post)).getD i .un=pre.getD i .un:=by simp[List.getD,zL hlt]
   rw[e2]at h1;rw[e1];exact h1.mono hm
  ·subst heq;have e1:(pre++([AV.isl es]++post)).getD pre.length .un=.isl es:=by simp[List.getD]
   have e2:(pre++([AV.sl id 0 es.length cap]++post)).getD pre.length .un=.sl id 0 es.length cap:=by simp[List.getD]
   rw[e2]at h1;rw[e1]
   generalize vargs.getD pre.length undef=x at h1
   cases h1 with
   | sl hloc g1 g2 g3 =>
    rename_i l' ad cc;rw[hl]at hloc; cases hloc;obtain⟨rfl,n,hrow,hle⟩:=g3 (by omega);refine RepV.isl (sz:=1) (f:=fun i j=>c.getD (l.base+0*l.sz+i*1+j) undef) (fun _=>⟨.inr rfl,rfl⟩) (by omega) (fun i hi=>⟨(hr i hi).1,(hr i hi).2.1⟩) (fun i j hi hj=>?_) (fun i j hi hj=>((hr i hi).2.2 j hj).1) (fun i j hi hj=>?_)
    ·show w.cell? ⟨l.b,l.base+0*l.sz+i*1+j,none⟩=_;exact cell?_row' hcell (by omega)
    ·have h3:=((hr i hi).2.2 j hj).2;rw[show l.base+0*l.sz+i*1+j=l.base+i*1+j by omega];exact h3.mono hm
  ·obtain⟨k,rfl⟩:∃ k,i=pre.length+(k+1):=⟨i - pre.length - 1,by omega⟩;have e1:(pre++([AV.isl es]++post)).getD (pre.length+(k+1)) .un=post.getD k .un:=by simp[List.getD,List.getElem?_append_right]
   have e2:(pre++([AV.sl id 0 es.length cap]++post)).getD (pre.length+(k+1)) .un=post.getD k .un:=by simp[List.getD,List.getElem?_append_right]
   rw[e2]at h1;rw[e1];exact h1.mono hm
 obtain⟨v,H',E2,w',r,fr,hK,k1,k2,k3,k4,k5,k6⟩:=h.2 E' w vargs hR hA' cs;refine⟨v,H',E2,w',r,fr,hK,k1,⟨hm.trans k2.mono,k2.size,fun b hb hnl=>k2.same b hb (fun hl'=>hnl (hsub b hl').1),fun b hb=>?_,fun b hb=>?_,k2.os,k2.tape,k2.output⟩,k3,k4,k5,k6⟩
 ·rcases k2.newfro b hb with (h1 | h1) | h1 | h1
  ·exact .inl h1
  ·exact .inr (.inr (h1 ▸ hlv))
  ·exact .inr (.inl h1)
  ·exact .inr (.inr (hsub b h1).1)
 ·rcases k2.newlive b hb with h1 | h1
  ·exact .inl (hsub b h1).1
  ·exact .inr h1
theorem Own.freeze{f:FuncId}{pre post:List AV}{H:List AO}{s:AV}{es:List AV}{K:AV->List AO->Prop}(ho:Own H s es)(hpure:AV.purL es=true)
  (h:∀ H',(∀ j,zAw s≠some j->H'[j]?=H[j]?)->AC P G f (pre++([frS es]++post)) H' K):AC P G f (pre++([s]++post)) H K:=by
 cases ho with
 | nil=>exact h H (fun _ _=>rfl)
 | row hid h0 =>
  rename_i id;refine AC.freezeArg hid h0 hpure ?_;have:=h (H.set id .dead) (fun j hj=>zQ (fun e=>hj (by simp[zAw,e])))
  rwa [frS_ne h0]at this
end Go.Ab
