/- One of the texts that this claim stands on. -/
import Derived.Test.YtnfnhccebebflaaGreatEv31
set_option maxHeartbeats 40000000
set_option maxRecDepth 400000
set_option linter.all false
namespace Go.Ab
theorem FW.freezeCell{P:Program}{G:Gl}{rd:Option Nat}{n:Nat}{todo:List Item}{ts:Nat->AV}{H:List AO}{Q:Lv->(Nat->AV)->List AO->Prop}{id q k sz cap:Nat}{es cs:List AV}
  (hid:H[id]?=some (.arr sz es)) (hne:0 < es.length) (hpure:AV.purL es=true) (hq:H[q]?=some (.cells cs)) (hk:k < cs.length) (hks:cs.getD k .un=.sl id 0 es.length cap)
  (h:FW P G rd n todo ts ((H.set id .dead).set q (.cells (cs.set k (.isl es)))) Q):FW P G rd n todo ts H Q:=by
 intro hok E w tmps hH hT b0 D fs hrd
 obtain⟨l,hl,hszl,c,t,hcell,hs,hr⟩:=hH.obj id _ hid rfl
 let E':En:={ loc:=E.loc,fro:=fun b=>E.fro b\/b=l.b }
 have hlv:Live H E l.b:=⟨id,_,l,hid,rfl,hl,rfl⟩;have hm:Mono w E w E':=⟨fun b hb=>.inl hb,fun _ _=>rfl,fun _ _ h=>h,fun _ _ h=>h⟩;have hidl:=(List.getElem?_eq_some_iff.1 hid).1;have hql:=(List.getElem?_eq_some_iff.1 hq).1;have hqid:q≠id:=fun e=>by rw[e,hid]at hq; cases hq
 have hget:∀(j:Nat) (oj:AO),((H.set id .dead).set q (.cells (cs.set k (.isl es))))[j]?=some oj->oj.live=true->j≠id/\((j=q/\oj=.cells (cs.set k (.isl es)))\/(j≠q/\H[j]?=some oj)):=by
  intro j oj hj hoj
  by_cases e:j=q
  ·subst e;rw[zS (by rw[List.length_set]; exact hql)]at hj;cases hj;exact⟨hqid,.inl ⟨rfl,rfl⟩⟩
  ·rw[zQ (fun h=>e h.symm)]at hj
   by_cases e2:j=id
   ·subst e2;rw[zS hidl]at hj;cases hj; simp[AO.live]at hoj
   ·rw[zQ (fun h=>e2 h.symm)]at hj;exact⟨e2,.inr ⟨e,hj⟩⟩
 have hold:∀(j:Nat) (oj:AO),((H.set id .dead).set q (.cells (cs.set k (.isl es))))[j]?=some oj->oj.live=true->j≠id/\∃ o',H[j]?=some o'/\o'.live=true:=fun j oj hj hoj=>by
  obtain⟨h1,⟨rfl,_⟩ | ⟨_,h2⟩⟩:=hget j oj hj hoj
  ·exact⟨h1,_,hq,rfl⟩
  ·exact⟨h1,_,h2,hoj⟩
 have hsub:∀ b,Live ((H.set id .dead).set q (.cells (cs.set k (.isl es)))) E' b->Live H E b/\b≠l.b:=by
  rintro b ⟨j,oj,lj,hj,hoj,hlj,rfl⟩
  obtain⟨h1,o',h2,h3⟩:=hold j oj hj hoj;exact⟨⟨j,o',lj,h2,h3,hlj,rfl⟩,fun e=>h1 (hH.inj j id o' _ lj l h2 h3 hid rfl hlj hl e)⟩
 have hR:RelH G w E' ((H.set id .dead).set q (.cells (cs.set k (.isl es)))):=by
  refine⟨fun j oj hj hoj=>?_,fun j j' o1 o2 l1 l2 h1 ho1 h2 ho2 hl1 hl2 hb=>?_,fun b hb=>?_,fun b hb hl'=>?_,fun j lj hlj=>by rw[List.length_set,List.length_set]; exact hH.dom j lj hlj,fun g cs hg=>(hH.gl g cs hg).mono hm⟩
  ·obtain⟨h1,⟨rfl,rfl⟩ | ⟨_,h2⟩⟩:=hget j oj hj hoj
   ·obtain⟨lj,hlj,c2,t2,hc2,hs2,hr2⟩:=hH.obj j _ hq rfl;refine⟨lj,hlj,c2,t2,hc2,by rw[List.length_set]; exact hs2,fun i hi=>?_⟩;rw[List.length_set]at hi;obtain⟨g1,g2⟩:=hr2 i hi
    by_cases hik:i=k
    ·subst hik;have e1:(cs.set i (.isl es)).getD i .un=.isl es:=by simp[List.getD,hk]
     rw[e1];refine⟨rfl,?_⟩;rw[hks]at g2
     generalize c2.getD (lj.base+i) undef=x at g2
     cases g2 with
     | sl hloc g1 g2 g3 =>
      rename_i l' ad cc;rw[hl]at hloc; cases hloc;obtain⟨rfl,n,hrow,hle⟩:=g3 (by omega);refine RepV.isl (sz:=sz) (f:=fun i j=>c.getD (l.base+0*l.sz+i*sz+j) undef) (fun _=>⟨.inr rfl,rfl⟩) (by omega) (fun i hi=>⟨(hr i hi).1,(hr i hi).2.1⟩) (fun i j hi hj=>?_) (fun i j hi hj=>((hr i hi).2.2 j hj).1) (fun i j hi hj=>?_)
      ·have h4:=Nat.mul_le_mul_right sz (show i+1<=es.length by omega);rw[Nat.add_mul,Nat.one_mul]at h4;show w.cell? ⟨l.b,l.base+0*l.sz+i*sz+j,none⟩=_;exact cell?_row' hcell (by omega)
      ·have h3:=((hr i hi).2.2 j hj).2;rw[show l.base+0*l.sz+i*sz+j=l.base+i*sz+j by omega];exact h3.mono hm
    ·have e1:(cs.set k (.isl es)).getD i .un=cs.getD i .un:=by
      rw[List.getD_eq_getElem?_getD,zQ (fun e=>hik e.symm),<- List.getD_eq_getElem?_getD]
     rw[e1];exact⟨g1,g2.mono hm⟩
   ·obtain⟨lj,hlj,hrj⟩:=hH.obj j oj h2 hoj;exact⟨lj,hlj,hrj.mono hm rfl⟩
  ·obtain⟨_,o1',g1,g2⟩:=hold _ _ h1 ho1;obtain⟨_,o2',g3,g4⟩:=hold _ _ h2 ho2;exact hH.inj j j' o1' o2' l1 l2 g1 g2 g3 g4 hl1 hl2 hb
  ·rcases hb with hb | rfl
   ·exact hH.frob b hb
   ·exact⟨c,t,_,hcell⟩
  ·obtain⟨h1,h2⟩:=hsub b hl'
   rcases hb with hb | hb
   ·exact hH.sep b hb h1
   ·exact h2 hb
 obtain⟨L,ts',H',E2,w',tmps',D',todo',hQ,k1,k2,k3,k4,k5,k6⟩:=h hok E' w tmps hR (hT.mono hm) b0 D fs (hrd.mono hm);refine⟨L,ts',H',E2,w',tmps',D',todo',hQ,k1,⟨hm.trans k2.mono,k2.size,fun b hb hnl=>k2.same b hb (fun hl'=>hnl (hsub b hl').1),fun b hb=>?_,fun b hb=>?_,k2.os,k2.tape,k2.output⟩,k3,k4,k5,k6⟩
 ·rcases k2.newfro b hb with (h1 | h1) | h1 | h1
  ·exact .inl h1
  ·exact .inr (.inr (h1 ▸ hlv))
  ·exact .inr (.inl h1)
  ·exact .inr (.inr (hsub b h1).1)
 ·rcases k2.newlive b hb with h1 | h1
  ·exact .inl (hsub b h1).1
  ·exact .inr h1
end Go.Ab
