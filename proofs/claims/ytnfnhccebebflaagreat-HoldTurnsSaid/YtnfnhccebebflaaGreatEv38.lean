/- One of the texts that this claim stands on. -/
import Derived.Test.YtnfnhccebebflaaGreatEv35
import Derived.Test.YtnfnhccebebflaaGreatEv36
import Derived.Test.YtnfnhccebebflaaGreatEv37
set_option maxHeartbeats 40000000
set_option maxRecDepth 400000
set_option linter.all false
namespace Go.Ab.Pd
open Go.Proofs
open Go.Proofs.Tryz renaming prog->zP
theorem e97:Ent zP 97 Tryz.f97 [] 2:=.mk Tryz.func97 rfl
attribute [push_cast] Tryz.f97
theorem sortedW{ws:List Wnt}{k m:Nat}{H:List AO}(hk:H[k]?=some (.cells [.mp m]))(hm:H[m]?=some (.map (entsF ws) ws.length))(h0:0 < ws.length)(hsz:ws.length<=2^16){K:AV->List AO->Prop}
  (hK:∀ H' s (l:List Wnt),l.Perm ws->(∀ i j,i < j->j < l.length->¬ (l.getD j default).cmp (l.getD i default) < 0)->OwnK 7 H' s (l.map Wnt.av)->K s H') :
  AC zP GG 97 [.fn 154 [] [.ptr k 0],.fn 99 [] []] H K:=by
 refine goE e97 TOk.nil 0 ?_;simp only[push_cast,seval,↓kw2];refine collectW hk hm hsz ?_
 intro H1 s l hp hown
 refine goN ?_;simp only[push_cast,seval,↓kw2];have hl:=hp.length_eq
 generalize hes:l.map Wnt.av=es at hown
 cases hown with
 | nil =>
  have:l=[]:=by simpa using hes
  subst this;simp at hl;omega
 | row hid hl0 =>
  rename_i id;subst hes;refine AC.sortBy (α:=Wnt) callableSW sortsW Wnt.enc (fun _=>rfl) (fun x v hv=>?_) Wnt.cmp (n:=1) (caps:=[]) (caps':=[]) default hid (by simp) (by simpa using hl0) (Nat.le_refl _) (by simp; omega) rfl rfl ggp
   (fun x _=>by rw[Wnt.self]; omega) (fun x _ y _ z _ h1 h2=>(Wnt.tri x y z).1 h1 (by omega)) (fun x _ y _ z _ h1 h2=>by have:=Wnt.tri x y z; unfold Tri3 at this; omega) (fun x _ y _=>wcmp_pur x y) ?_
  ·simp only[Wnt.enc,List.mem_cons,List.not_mem_nil,or_false]at hv
   rcases hv with rfl | rfl | rfl | rfl | rfl | rfl | rfl <;> rfl
  ·intro l' hp' hs
   refine goN ?_;simp only[push_cast,seval,↓kw2];refine⟨_,rfl,hK _ _ l' (hp'.trans hp) hs ?_⟩;have h2:(H1.set id (.arr 7 (l'.map (enA Wnt.enc))))[id]?=some (.arr 7 (l'.map Wnt.av)):=zS (zAd hid);have:=OwnK.row h2 (by rw[zM,hp'.length_eq]; simpa using hl0)
   rwa [show(l'.map Wnt.av).length=(l.map Wnt.av).length by rw[zM,zM,hp'.length_eq]]at this
theorem Wnt.strict{L:List Wnt}{b:Bool}(hv:∀ x∈L,x.v=b)(hn:L.Nodup)(hs:∀ i j,i < j->j < L.length->¬ (L.getD j default).cmp (L.getD i default) < 0):L.Pairwise fun x y=>x.cmp y < 0:=by
 rw[List.pairwise_iff_getElem]
 intro i j hi hj hij
 have h1:=hs i j hij hj;have e:∀ q (h:q < L.length),L.getD q default=L[q]:=fun q h=>by simp[List.getD,h]
 rw[e j hj,e i hi]at h1;have h2:=Wnt.neg L[i] L[j];unfold Neg at h2
 rcases Int.lt_or_eq_of_le (show L[i].cmp L[j]<=0 by omega)with h3 | h3
 ·exact h3
 ·exfalso
  have h4:=Wnt.zero h3 ((hv _ (List.getElem_mem hi)).trans (hv _ (List.getElem_mem hj)).symm);have:=(List.nodup_iff_pairwise_ne.1 hn);rw[List.pairwise_iff_getElem]at this;exact this i j hi hj hij h4
theorem Wnt.uniq{L M:List Wnt}{b:Bool}(hv:∀ x∈L,x.v=b)(hn:L.Nodup)(hs:∀ i j,i < j->j < L.length->¬ (L.getD j default).cmp (L.getD i default) < 0)(hn':M.Nodup)(hs':∀ i j,i < j->j < M.length->¬ (M.getD j default).cmp (M.getD i default) < 0)(h:∀ x,x∈L ↔ x∈M):L=M :=
 sorted_ext (fun x y=>x.cmp y < 0) (fun x=>by rw[Wnt.self]; omega) (fun x _ y _ h1 h2=>by have:=Wnt.neg x y; unfold Neg at this; omega) (Wnt.strict hv hn hs) (Wnt.strict (fun x hx=>hv x ((h x).2 hx)) hn' hs') h
def Wnt.rot(o:Nat)(a:Wnt):Wnt:=match o with
 | 0=>⟨a.p,a.q,a.r,a.s,a.t,a.u,a.v⟩
 | 1=>⟨a.p,a.r,a.q,a.s,a.u,a.t,a.v⟩
 | 2=>⟨a.q,a.p,a.r,a.t,a.s,a.u,a.v⟩
 | 3=>⟨a.q,a.r,a.p,a.t,a.u,a.s,a.v⟩
 | 4=>⟨a.r,a.p,a.q,a.u,a.s,a.t,a.v⟩
 | _=>⟨a.r,a.q,a.p,a.u,a.t,a.s,a.v⟩
def impT:Nat->Bool:=fun i=>i==12
def ordT:List (Nat × Bool):=[(0,true),(1,true),(2,true),(3,true),(4,true),(5,true),(6,true),(7,true),(8,true),(9,true),(10,true),(11,true),(13,true),(12,false),(14,true),(15,false)]
theorem e98:Ent zP 98 Tryz.f98 [] 1:=.mk Tryz.func98 rfl
attribute [push_cast] Tryz.f98
theorem keys_ac{m:Nat}{H:List AO}{K:AV->List AO->Prop}(hK:K (.fn 154 [] [.ptr H.length 0]) (H++[.cells [.mp m]])) :
  AC zP GG 98 [.mp m] H K:=by
 refine goE e98 TOk.nil 0 ?_;simp only[push_cast,seval,↓kw2];exact⟨_,rfl,hK⟩
theorem Wnt.rot_v(o:Nat)(w:Wnt):(w.rot o).v=w.v:=by unfold Wnt.rot; split <;> rfl
def ddW:List Wnt->List Wnt
 | []=>[]
 | x::l=>if x∈ddW l then ddW l else x::ddW l
theorem ddW_mem{x:Wnt}:∀ {l:List Wnt},x∈ddW l ↔ x∈l
 | []=>Iff.rfl
 | y::l=>by
  unfold ddW
  split
  ·rename_i h;rw[ddW_mem,List.mem_cons];exact⟨.inr,fun h'=>h'.elim (fun e=>e ▸ ddW_mem.1 h) id⟩
  ·rw[List.mem_cons,List.mem_cons,ddW_mem]
theorem ddW_nodup:∀ l:List Wnt,(ddW l).Nodup
 | []=>List.nodup_nil
 | y::l=>by
  unfold ddW
  split
  ·exact ddW_nodup l
  ·rename_i h;exact List.nodup_cons.2 ⟨h,ddW_nodup l⟩
theorem ddW_len:∀ l:List Wnt,(ddW l).length<=l.length
 | []=>Nat.le_refl _
 | y::l=>by
  have:=ddW_len l;unfold ddW
  split
  ·simp; omega
  ·simp; omega
def Wnt.all(w:Wnt):List Wnt:=(ddW ((List.range 6).map fun i=>w.rot i)).mergeSort fun a b=>decide (a.cmp b<=0)
theorem Wnt.all_mem{w x:Wnt}:x∈w.all ↔ ∃ i,i < 6/\x=w.rot i:=by
 unfold Wnt.all;rw[List.mem_mergeSort,ddW_mem,List.mem_map];exact⟨fun⟨i,h1,h2⟩=>⟨i,List.mem_range.1 h1,h2.symm⟩,fun⟨i,h1,h2⟩=>⟨i,List.mem_range.2 h1,h2.symm⟩⟩
theorem Wnt.all_nodup(w:Wnt):w.all.Nodup:=(List.mergeSort_perm _ _).nodup_iff.2 (ddW_nodup _)
theorem Wnt.all_sorted(w:Wnt):∀ i j,i < j->j < w.all.length->¬ (w.all.getD j default).cmp (w.all.getD i default) < 0:=by
 have hp:=List.pairwise_mergeSort (le:=fun a b:Wnt=>decide (a.cmp b<=0)) (fun a b c h1 h2=>by
  have h1':=of_decide_eq_true h1;have h2':=of_decide_eq_true h2;refine zT ?_;have:=Wnt.tri a b c;unfold Tri3 at this;omega) (fun a b=>by
  have:=Wnt.neg a b;unfold Neg at this
  by_cases h:a.cmp b<=0
  ·simp[h]
  ·have:b.cmp a<=0:=by omega
   simp[this]) (ddW ((List.range 6).map fun i=>w.rot i))
 intro i j hij hj
 change w.all.Pairwise _ at hp
 rw[List.pairwise_iff_getElem]at hp;have h1:=of_decide_eq_true (hp i j (by omega) hj hij);have e:∀ q (h:q < w.all.length),w.all.getD q default=w.all[q]:=fun q h=>by simp[List.getD,h]
 rw[e j hj,e i (by omega)];have:=Wnt.neg (w.all[i]) (w.all[j]);unfold Neg at this;omega
theorem Wnt.all_len(w:Wnt):0 < w.all.length/\w.all.length<=6:=by
 have h1:w.rot 0∈w.all:=Wnt.all_mem.2 ⟨0,by omega,rfl⟩;refine⟨List.length_pos_of_mem h1,?_⟩;unfold Wnt.all;rw[List.length_mergeSort];exact Nat.le_trans (ddW_len _) (by simp)
theorem e39:Ent zP 39 Tryz.f39 [14] 1:=.mk Tryz.func39 rfl
attribute [push_cast] Tryz.f39
theorem turns_pur(w:Wnt)(hw:okW w.p w.q w.r)(hv:w.v=true):Pur zP GG 39 [w.av] (.tup [.isl (w.all.map Wnt.av),I 0]):=by
 have key:AC zP GG 39 [w.av] [] fun v0 H0=>∃(s:AV) (L:List Wnt),v0=.tup [s,I 0]/\OwnK 7 H0 s (L.map Wnt.av)/\0 < L.length/\L.length<=6/\L.Nodup/\(∀ x,x∈L ↔ ∃ i,i < 6/\x=w.rot i)/\(∀ i j,i < j->j < L.length->¬ (L.getD j default).cmp (L.getD i default) < 0):=by
  obtain⟨p,q,r,s,t,u,v⟩:=w;simp only at hw hv;subst hv;have hck:wchk p q r=0:=by rw[wchk,if_pos hw]
  show AC zP GG 39 [WT p q r s t u true] [] _;refine goE e39 zFj 0 ?_;simp only[push_cast,seval,↓kw2,hck];refine AC.pur orders_pur ?_;refine goW zFj [14] 0 ?_;simp only[push_cast,seval,↓kw2];refine FW.loopInv (fun l ts H=>∃(i:Nat) (ws:List Wnt),i+l=6/\ws.Nodup/\ws.length<=i/\(∀ x,x∈ws ↔ ∃ j,j < i/\x=Wnt.rot j ⟨p,q,r,s,t,u,true⟩)/\H[0]?=some (.cells [I p,I q,I r,B s,B t,B u,B true])/\H[1]?=some (.map (entsF ws) ws.length) /\
   ts 1=.ptr 0 0/\ts 5=.mp 1/\ts 22=.agg [I 0,I 1,I 2,I 0,I 2,I 1,I 1,I 0,I 2,I 1,I 2,I 0,I 2,I 0,I 1,I 2,I 1,I 0]/\ts 23=I (i:Int)) 6
   ⟨0,[],rfl,List.nodup_nil,by simp,by simp,rfl,rfl,rfl,rfl,rfl,rfl⟩ ?_
  rintro l ih ts H ⟨i,ws,hi,hnd,hwl,hmem,g0,g1,t1,t5,t22,t23⟩
  refine FW.inLoop ?_;have q0:∀ X,(H++X)[0]?=some (.cells [I p,I q,I r,B s,B t,B u,B true]):=fun X=>by rw[zL (zAd g0)]; exact g0
  have q1:∀ X,(H++X)[1]?=some (.map (entsF ws) ws.length):=fun X=>by rw[zL (zAd g1)]; exact g1
  have hl2:=zAd g1
  by_cases hlt:i < 6
  ·obtain⟨x,hx⟩:∃ x,x=Wnt.rot i ⟨p,q,r,s,t,u,true⟩:=⟨_,rfl⟩;have hck:=Wnt.ck x;have hfl:=Wnt.fl x;have hih:∀(ts:Nat->AV) (H':List AO) (ws':List Wnt),ws'.Nodup->ws'.length<=i+1->(∀ y,y∈ws' ↔ y∈ws\/y=x)->H'[0]?=some (.cells [I p,I q,I r,B s,B t,B u,B true])->H'[1]?=some (.map (entsF ws') ws'.length) ->
     ts 1=.ptr 0 0->ts 5=.mp 1->ts 22=.agg [I 0,I 1,I 2,I 0,I 2,I 1,I 1,I 0,I 2,I 1,I 2,I 0,I 2,I 0,I 1,I 2,I 1,I 0]->ts 23=I ((i:Int)+1)->_:=fun ts H' ws' n1 n2 n3 n4 n5 n6 n7 n8 n9 =>
    ih (l - 1) (by omega) ts H' ⟨i+1,ws',by omega,n1,n2,fun y=>by
     rw[n3,hmem,hx]
     constructor
     ·rintro(⟨j,h1,h2⟩ | h2)
      ·exact⟨j,by omega,h2⟩
      ·exact⟨i,by omega,h2⟩
     ·rintro⟨j,h1,h2⟩
      rcases Nat.lt_or_ge j i with h3 | h3
      ·exact .inl ⟨j,h3,h2⟩
      ·have:j=i:=by omega
       subst this; exact .inr h2,n4,n5,n6,n7,n8,by rw[n9]; rfl⟩
   clear ih hmem
   by_cases hm:x∈ws
   ·obtain⟨j,hf,hkey,hset⟩:=ents_yes hm;have hfin:=fun ts H'=>hih ts H' ws hnd (by omega) (fun y=>⟨.inl,fun h=>h.elim id fun h=>h ▸ hm⟩)
    clear hih;obtain rfl | rfl | rfl | rfl | rfl | rfl:i=0\/i=1\/i=2\/i=3\/i=4\/i=5:=by omega
    all_goals
     subst hx;simp only[Wnt.rot,Wnt.av]at hf hkey hset hck hfl;refine goW zFj [14] 1 ?_;simp only[push_cast,seval,↓kw2,t1,t5,t22,t23,q0,q1,zAf,getA,setA,zAg];refine FW.walkG hmix (imp:=impT) (l:=ordT) (by kernel_rfl) (by kernel_rfl) ?_;simp only[ordT];simp only[push_cast,seval,↓kw2,zCx,zCw,zBj,↓zBi,impT,Bool.or_false,Bool.or_true,Bool.true_or,Bool.false_or,Bool.or_self,zBu,zEk,wat,clOf,zAf,getA,setA,zAg,q0,q1,t1,t5];refine goW zFj [14] 1 ?_;simp only[push_cast,seval,↓kw2,t1,t5,t22,t23,q0,q1,zAf,getA,setA,zAg];refine FW.walkG hmix (imp:=impT) (l:=ordT) (by kernel_rfl) (by kernel_rfl) ?_;simp only[ordT];simp only[push_cast,seval,↓kw2,zCx,zCw,zBj,↓zBi,impT,Bool.or_false,Bool.or_true,Bool.true_or,Bool.false_or,Bool.or_self,zBu,zEk,wat,clOf,zAf,getA,setA,zAg,q0,q1,t1,t5];refine goW zFj [14] 1 ?_;simp only[push_cast,seval,↓kw2,t1,t5,t22,t23,q0,q1,zAf,getA,setA,zAg];refine FW.walkG hmix (imp:=impT) (l:=ordT) (by kernel_rfl) (by kernel_rfl) ?_;simp only[ordT];simp only[push_cast,seval,↓kw2,zCx,zCw,zBj,↓zBi,impT,Bool.or_false,Bool.or_true,Bool.true_or,Bool.false_or,Bool.or_self,zBu,zEk,wat,clOf,zAf,getA,setA,zAg,q0,q1,t1,t5];refine goW zFj [14] 1 ?_;simp only[push_cast,seval,↓kw2,t1,t5,t22,t23,q0,q1,hf,hkey,hset,hck,hfl,zCy,zAf,getA,setA,zAg];exact hfin _ _ ((zQ (by omega)).trans (q0 _)) (zS (by first | (simp; done) | (simp; omega))) t1 t5 t22 rfl
   ·have hf:=ents_no hm;have hfin:=fun ts H'=>hih ts H' (ws++[x]) (List.nodup_append.2 ⟨hnd,by simp,fun a ha b hb=>by rw[List.mem_singleton]at hb; rw[hb]; exact fun e=>hm (e ▸ ha)⟩) (by simp; omega) (fun y=>by simp)
    rw[entsF_snoc,List.length_append,List.length_singleton]at hfin;clear hih;obtain rfl | rfl | rfl | rfl | rfl | rfl:i=0\/i=1\/i=2\/i=3\/i=4\/i=5:=by omega
    all_goals
     subst hx;simp only[Wnt.rot,Wnt.av]at hf hck hfl hfin;refine goW zFj [14] 1 ?_;simp only[push_cast,seval,↓kw2,t1,t5,t22,t23,q0,q1,zAf,getA,setA,zAg];refine FW.walkG hmix (imp:=impT) (l:=ordT) (by kernel_rfl) (by kernel_rfl) ?_;simp only[ordT];simp only[push_cast,seval,↓kw2,zCx,zCw,zBj,↓zBi,impT,Bool.or_false,Bool.or_true,Bool.true_or,Bool.false_or,Bool.or_self,zBu,zEk,wat,clOf,zAf,getA,setA,zAg,q0,q1,t1,t5];refine goW zFj [14] 1 ?_;simp only[push_cast,seval,↓kw2,t1,t5,t22,t23,q0,q1,zAf,getA,setA,zAg];refine FW.walkG hmix (imp:=impT) (l:=ordT) (by kernel_rfl) (by kernel_rfl) ?_;simp only[ordT];simp only[push_cast,seval,↓kw2,zCx,zCw,zBj,↓zBi,impT,Bool.or_false,Bool.or_true,Bool.true_or,Bool.false_or,Bool.or_self,zBu,zEk,wat,clOf,zAf,getA,setA,zAg,q0,q1,t1,t5];refine goW zFj [14] 1 ?_;simp only[push_cast,seval,↓kw2,t1,t5,t22,t23,q0,q1,zAf,getA,setA,zAg];refine FW.walkG hmix (imp:=impT) (l:=ordT) (by kernel_rfl) (by kernel_rfl) ?_;simp only[ordT];simp only[push_cast,seval,↓kw2,zCx,zCw,zBj,↓zBi,impT,Bool.or_false,Bool.or_true,Bool.true_or,Bool.false_or,Bool.or_self,zBu,zEk,wat,clOf,zAf,getA,setA,zAg,q0,q1,t1,t5];refine goW zFj [14] 1 ?_;simp only[push_cast,seval,↓kw2,t1,t5,t22,t23,q0,q1,hf,hck,hfl,zCy,zAf,getA,setA,zAg];exact hfin _ _ ((zQ (by omega)).trans (q0 _)) (zS (by first | (simp; done) | (simp; omega))) t1 t5 t22 rfl
  ·have hi6:i=6:=by omega
   subst hi6;have hw0:0 < ws.length:=List.length_pos_of_mem ((hmem (Wnt.rot 0 ⟨p,q,r,s,t,u,true⟩)).2 ⟨0,by omega,rfl⟩);refine goW zFj [14] 0 ?_;simp only[push_cast,seval,↓kw2,t1,t5,t22,t23,q0,q1];refine keys_ac ?_;refine goW zFj [14] 0 ?_;simp only[push_cast,seval,↓kw2,t1,t5];refine sortedW (k:=H.length) (m:=1) (ws:=ws) (by rw[zAf]; rfl) (q1 _) hw0 (by omega) ?_
   intro H' sl L hp hs hown
   refine goW zFj [14] 0 ?_;simp only[push_cast,seval,↓kw2,t1,t5];exact⟨_,rfl,sl,L,rfl,hown,by rw[hp.length_eq]; exact hw0,by rw[hp.length_eq]; exact hwl,hp.nodup_iff.2 hnd,fun x=>(hp.mem_iff).trans (hmem x),hs⟩
 refine Pur.of_alone ggp (by simp[AV.purL,Wnt.pur]) (key.mono fun v0 H0 h=>?_);obtain⟨sl,L,rfl,hown,hl0,hl6,hnd,hmem,hs⟩:=h;have hL:L=w.all:=Wnt.uniq (b:=true) (fun x hx=>by obtain⟨i,_,rfl⟩:=(hmem x).1 hx; rw[Wnt.rot_v,hv]) hnd hs (Wnt.all_nodup w) (Wnt.all_sorted w) fun x=>(hmem x).trans Wnt.all_mem.symm
 subst hL;obtain⟨n,hn⟩:=hown.done2 (v:=I 0) (zAc Wnt.av _ (fun _=>rfl)) rfl;rw[zFa (by rw[zM]; exact hl0)]at hn;exact⟨n,hn⟩
def Wnt.turns(w:Wnt):List Wnt:=if w.v=true then w.all else [w]
theorem Wnt.turns_len(w:Wnt):0 < w.turns.length/\w.turns.length<=6:=by
 unfold Wnt.turns
 split
 ·exact w.all_len
 ·simp
theorem turns0_pur(w:Wnt)(hw:okW w.p w.q w.r)(hv:w.v=false):Pur zP GG 39 [w.av] (.tup [.isl ([w].map Wnt.av),I 0]):=by
 obtain⟨p,q,r,s,t,u,v⟩:=w;simp only at hw hv;subst hv;have hck:wchk p q r=0:=by rw[wchk,if_pos hw]
 show Pur zP GG 39 [WT p q r s t u false] _;refine Pur.of_alone ggp rfl ?_;refine goE e39 zFj 0 ?_;simp(maxSteps:=2000000)only[push_cast,seval,↓kw2,hck];exact⟨_,rfl,3,rfl⟩
theorem turnsA_pur(w:Wnt)(hw:okW w.p w.q w.r):Pur zP GG 39 [w.av] (.tup [.isl (w.turns.map Wnt.av),I 0]):=by
 unfold Wnt.turns;cases hv:w.v
 ·rw[if_neg (by decide)]; exact turns0_pur w hw hv
 ·rw[if_pos rfl]; exact turns_pur w hw hv
def dwchk(a b c p q r:Int):Int:=if okD a b c then wchk p q r else 8
theorem e27:Ent zP 27 Tryz.f27 [] 2:=.mk Tryz.func27 rfl
attribute [push_cast] Tryz.f27
theorem schk12_pur(a b c p q r:Int)(s t u v:Bool):Pur zP GG 27 [.agg [I a,I b,I c],WT p q r s t u v] (I (dwchk a b c p q r)):=by
 refine goQ e27 zFj 0 ?_;simp(maxSteps:=2000000)only[push_cast,seval,↓kw2];unfold dwchk
 by_cases h:okD a b c
 ·simp only[chk,if_pos h];simp;exact zAa rfl rfl
 ·simp only[chk,if_neg h];simp;exact zAa rfl rfl
@[push_cast] def g27:List AV->Option (Prop × AV)
 | [.agg [(.c (.int .i64 a)),(.c (.int .i64 b)),(.c (.int .i64 c))],.agg [(.c (.int .i64 p)),(.c (.int .i64 q)),(.c (.int .i64 r)),(.c (.bool s)),(.c (.bool t)),(.c (.bool u)),(.c (.bool v))]]=>some (True,I (dwchk a b c p q r))
 | _=>none
theorem g27_ok:∀ args p,g27 args=some p->p.1->Pur zP GG 27 args p.2:=by
 intro args p hp hc
 unfold g27 at hp
 split at hp
 ·cases hp;exact schk12_pur _ _ _ _ _ _ _ _ _ _
 ·cases hp
@[push_cast] def S3:Tab:=Tab.ext S2 27 g27
theorem S3_ok:TOk zP GG S3:=TOk.ext zFj g27_ok
theorem gsK_var{b:Bool}{k:Bool->Bool->Prop}{sk:Bool->Prop}{e:Prop}:gsK (.c (.bool b)) k sk e=((b=true->k true true)/\(b=false->k true false)):=by cases b <;> simp[gsK]
def torV(s:Bool)(p:Int):Bool:=s&&decide (1 < p)
theorem e42:Ent zP 42 Tryz.f42 [] 1:=.mk Tryz.func42 rfl
attribute [push_cast] Tryz.f42
theorem tori_pur(p q r:Int)(s t u v:Bool):Pur zP GG 42 [WT p q r s t u v] (.agg [B (torV s p),B (torV t q),B (torV u r)]):=by
 refine goQ e42 S3_ok 4 ?_;simp(maxSteps:=2000000)only[push_cast,seval,↓kw2,zDc,gsK_var];unfold torV
 repeat' (first | apply And.intro | intro _)
 all_goals
  refine⟨_,rfl,zAa rfl ?_⟩;simp[*]
@[push_cast] def g42:List AV->Option (Prop × AV)
 | [.agg [(.c (.int .i64 p)),(.c (.int .i64 q)),(.c (.int .i64 r)),(.c (.bool s)),(.c (.bool t)),(.c (.bool u)),(.c (.bool v))]]=>some (True,.agg [B (torV s p),B (torV t q),B (torV u r)])
 | _=>none
theorem g42_ok:∀ args p,g42 args=some p->p.1->Pur zP GG 42 args p.2:=by
 intro args p hp hc
 unfold g42 at hp
 split at hp
 ·cases hp;exact tori_pur _ _ _ _ _ _ _
 ·cases hp
@[push_cast] def S4:Tab:=Tab.ext S3 42 g42
theorem S4_ok:TOk zP GG S4:=TOk.ext S3_ok g42_ok
attribute [push_cast] Tryz.f82
def Plc.keys(a b c:Int)(x:Plc):List Int:=[atV a b c x.x x.y x.z,x.p,x.q,x.r,bitV x.s,bitV x.t,bitV x.u]
def Plc.cmp(a b c:Int)(x y:Plc):Int:=orL (List.zipWith cmpV (x.keys a b c) (y.keys a b c))
attribute [push_cast] Tryz.f139
attribute [push_cast] Tryz.f84
theorem Tri3.zero:Tri3 0 0 0:=by unfold Tri3; omega
theorem Plc.cmp_eq(a b c:Int)(x y:Plc):Plc.cmp a b c x y=orV (cmpV (atV a b c x.x x.y x.z) (atV a b c y.x y.y y.z)) (orV (cmpV x.p y.p) (orV (cmpV x.q y.q) (orV (cmpV x.r y.r) (orV (cmpV (bitV x.s) (bitV y.s)) (orV (cmpV (bitV x.t) (bitV y.t)) (orV (cmpV (bitV x.u) (bitV y.u)) 0)))))):=rfl
theorem mul_inj_of{a x u x' u':Int}(h1:0<=x)(h2:x < a)(h3:0<=x')(h4:x' < a)(e:x+a*u=x'+a*u'):x=x'/\u=u':=by
 have e1:(x+a*u) / a=u:=by rw[Int.add_mul_ediv_left _ _ (by omega),Int.ediv_eq_zero_of_lt h1 h2]; omega
 have e2:(x'+a*u') / a=u':=by rw[Int.add_mul_ediv_left _ _ (by omega),Int.ediv_eq_zero_of_lt h3 h4]; omega
 have hu:u=u':=by rw[<- e1,<- e2,e]
 subst hu;exact⟨by omega,rfl⟩
theorem at_inj{a b c x y z x' y' z':Int}(hd:okD a b c)(h:okP a b c x y z)(h':okP a b c x' y' z')(e:atV a b c x y z=atV a b c x' y' z'):x=x'/\y=y'/\z=z':=by
 rw[atV,atV,if_pos ⟨hd,h⟩,if_pos ⟨hd,h'⟩]at e;unfold okP at h h';have e2:x+a*(y+b*z)=x'+a*(y'+b*z'):=by
  rw[Int.mul_add,Int.mul_add,<- Int.mul_assoc,<- Int.mul_assoc]; omega
 obtain⟨h1,h2⟩:=mul_inj_of (by omega) (by omega) (by omega) (by omega) e2;obtain⟨h3,h4⟩:=mul_inj_of (by omega) (by omega) (by omega) (by omega) h2;exact⟨h1,h3,h4⟩
def Plc.ok(a b c:Int)(x:Plc):Prop:=okPl a b c x.x x.y x.z x.p x.q x.r x.s x.t x.u
instance (a b c:Int) (x:Plc):Decidable (Plc.ok a b c x):=by unfold Plc.ok; infer_instance
theorem Plc.zero{a b c:Int}{x y:Plc}(hx:x.ok a b c)(hy:y.ok a b c)(h:Plc.cmp a b c x y=0):x=y:=by
 rw[Plc.cmp_eq,zDj,zDj,zDj,zDj,zDj,zDj,zDj,zCb,zCb,zCb,zCb,zCb,zCb,zCb]at h;obtain⟨h1,h2,h3,h4,h5,h6,h7,_⟩:=h;have b1:=hx.2.1;have b2:=hy.2.1;unfold okB ok1 at b1 b2;obtain⟨f1,f2,f3⟩:=at_inj hx.1 (by unfold okP; omega) (by unfold okP; omega) h1;obtain⟨x1,x2,x3,x4,x5,x6,x7,x8,x9⟩:=x;obtain⟨y1,y2,y3,y4,y5,y6,y7,y8,y9⟩:=y;simp only at f1 f2 f3 h2 h3 h4 h5 h6 h7;rw[f1,f2,f3,h2,h3,h4,bitV_inj h5,bitV_inj h6,bitV_inj h7]
theorem ok_pchk{a b c:Int}{x:Plc}(h:x.ok a b c):pchk a b c x.x x.y x.z x.p x.q x.r x.s x.t x.u=0:=okPl_pchk h
theorem nok_pchk{a b c:Int}{x:Plc}(h:¬x.ok a b c):¬pchk a b c x.x x.y x.z x.p x.q x.r x.s x.t x.u=0:=fun e=>by
 have h':¬okPl a b c x.x x.y x.z x.p x.q x.r x.s x.t x.u:=h
 by_cases hc:ckB a b c x.x x.y x.z x.p x.q x.r=0
 ·rw[pchk,if_pos hc,if_neg h']at e; omega
 ·rw[pchk,if_neg hc]at e; exact hc e
attribute [push_cast] Tryz.f135
attribute [push_cast] Tryz.f81
theorem avD(l:List Plc){i:Nat}(h:i < l.length):(l.map Plc.av).getD i .un=(l.getD i default).av:=zAe Plc.av l default h
attribute [push_cast] Tryz.f85
inductive SegP(H:List AO):AV->List Plc->Prop
 | nil:SegP H (.c (.slice none 0 0)) []
 | row {id n cap:Nat} {rs:List AV} {l:List Plc} (h:H[id]?=some (.arr 9 rs)) (hn:n=l.length) (hr:n<=rs.length) (hc:n<=cap) (ht:rs.take n=l.map Plc.av):SegP H (.sl id 0 n cap) l
theorem SegP.get{rs:List AV}{l:List Plc}{n:Nat}(hn:n=l.length)(ht:rs.take n=l.map Plc.av){j:Nat}(hj:j < n):rs.getD j .un=(l.getD j default).av:=by
 have h1:=avD l (by omega:j < l.length);rw[<- ht]at h1;rw[<- h1,List.getD_eq_getElem?_getD,List.getD_eq_getElem?_getD,List.getElem?_take_of_lt hj]
def Plc.enc(a:Plc):List Value:=[.int .i64 a.x,.int .i64 a.y,.int .i64 a.z,.int .i64 a.p,.int .i64 a.q,.int .i64 a.r,.bool a.s,.bool a.t,.bool a.u]
attribute [push_cast] Tryz.f31
end Go.Ab.Pd
