/- A text of this claim. -/
import Derived.Test.YtplmblgihfogjaaGreatDoorEv30
import Derived.Test.YtplmblgihfogjaaGreatDoorEv31
import Derived.Test.YtplmblgihfogjaaGreatDoorEv32
set_option maxHeartbeats 40000000
set_option maxRecDepth 400000
set_option linter.all false
namespace Go.Ab.Pd
open Go.Proofs
open Go.Proofs.Tryz renaming prog->zP
theorem e164:Ent zP 164 Tryz.f164 [] 2:=.mk Tryz.func164 rfl
theorem sortedW{ws:List Wnt}{k m:Nat}{H:List AO}(hk:H[k]?=some (.cells [.mp m]))(hm:H[m]?=some (.map (entsF ws) ws.length))(h0:0 < ws.length)(hsz:ws.length<=2^16){K:AV->List AO->Prop}
  (hK:∀ H' s (l:List Wnt),l.Perm ws->(∀ i j,i < j->j < l.length->¬ (l.getD j default).cmp (l.getD i default) < 0)->OwnK 7 H' s (l.map Wnt.av)->K s H') :
  AC zP GG 164 [.fn 228 [] [.ptr k 0],.fn 166 [] []] H K:=by
 refine goE e164 TOk.nil 0 ?_;simp only[push_cast,seval,↓kw2];refine collectW hk hm hsz ?_
 intro H1 s l hp hown
 refine goN ?_;simp only[push_cast,seval,↓kw2];have hl:=hp.length_eq
 generalize hes:l.map Wnt.av=es at hown
 cases hown with
 | nil =>
  have:l=[]:=by simpa using hes
  subst this;simp at hl;omega
 | row hid hl0 =>
  rename_i id;subst hes;refine AC.sortBy (α:=Wnt) callableSW sortsW Wnt.enc (fun _=>rfl) (fun x v hv=>?_) Wnt.cmp (n:=1) (caps:=[]) (caps':=[]) default hid (by simp) (by simpa using hl0) (Nat.le_refl _) (by simp; omega) rfl rfl ggp
   (fun x _=>by rw[Wnt.self]; omega) (fun x _ y _ z _ h1 h2=>(Wnt.tri x y z).1 h1 (by omega)) (fun x _ y _ z _ h1 h2=>by have:=Wnt.tri x y z; unfold Tri3 at this; omega) (fun x _ y _=>wcmp_pur x y) ?_
  ·simp only[Wnt.enc,List.mem_cons,List.not_mem_nil,or_false]at hv
   rcases hv with rfl | rfl | rfl | rfl | rfl | rfl | rfl <;> rfl
  ·intro l' hp' hs
   refine goN ?_;simp only[push_cast,seval,↓kw2];refine⟨_,rfl,hK _ _ l' (hp'.trans hp) hs ?_⟩;have h2:(H1.set id (.arr 7 (l'.map (enA Wnt.enc))))[id]?=some (.arr 7 (l'.map Wnt.av)):=zS (zAc hid);have:=OwnK.row h2 (by rw[zM,hp'.length_eq]; simpa using hl0)
   rwa [show(l'.map Wnt.av).length=(l.map Wnt.av).length by rw[zM,zM,hp'.length_eq]]at this
theorem Wnt.strict{L:List Wnt}{b:Bool}(hv:∀ x∈L,x.v=b)(hn:L.Nodup)(hs:∀ i j,i < j->j < L.length->¬ (L.getD j default).cmp (L.getD i default) < 0):L.Pairwise fun x y=>x.cmp y < 0:=by
 rw[List.pairwise_iff_getElem]
 intro i j hi hj hij
 have h1:=hs i j hij hj;have e:∀ q (h:q < L.length),L.getD q default=L[q]:=fun q h=>by simp[List.getD,h]
 rw[e j hj,e i hi]at h1;have h2:=Wnt.neg L[i] L[j];unfold Neg at h2
 rcases Int.lt_or_eq_of_le (show L[i].cmp L[j]<=0 by omega)with h3 | h3
 ·exact h3
 ·exfalso
  have h4:=Wnt.zero h3 ((hv _ (List.getElem_mem hi)).trans (hv _ (List.getElem_mem hj)).symm);have:=(List.nodup_iff_pairwise_ne.1 hn);rw[List.pairwise_iff_getElem]at this;exact this i j hi hj hij h4
theorem Wnt.uniq{L M:List Wnt}{b:Bool}(hv:∀ x∈L,x.v=b)(hn:L.Nodup)(hs:∀ i j,i < j->j < L.length->¬ (L.getD j default).cmp (L.getD i default) < 0)(hn':M.Nodup)(hs':∀ i j,i < j->j < M.length->¬ (M.getD j default).cmp (M.getD i default) < 0)(h:∀ x,x∈L ↔ x∈M):L=M :=
 sorted_ext (fun x y=>x.cmp y < 0) (fun x=>by rw[Wnt.self]; omega) (fun x _ y _ h1 h2=>by have:=Wnt.neg x y; unfold Neg at this; omega) (Wnt.strict hv hn hs) (Wnt.strict (fun x hx=>hv x ((h x).2 hx)) hn' hs') h
def Wnt.rot(o:Nat)(a:Wnt):Wnt:=match o with
 | 0=>⟨a.p,a.q,a.r,a.s,a.t,a.u,a.v⟩
 | 1=>⟨a.p,a.r,a.q,a.s,a.u,a.t,a.v⟩
 | 2=>⟨a.q,a.p,a.r,a.t,a.s,a.u,a.v⟩
 | 3=>⟨a.q,a.r,a.p,a.t,a.u,a.s,a.v⟩
 | 4=>⟨a.r,a.p,a.q,a.u,a.s,a.t,a.v⟩
 | _=>⟨a.r,a.q,a.p,a.u,a.t,a.s,a.v⟩
def impT:Nat->Bool:=fun i=>i==12
def ordT:List (Nat × Bool):=[(0,true),(1,true),(2,true),(3,true),(4,true),(5,true),(6,true),(7,true),(8,true),(9,true),(10,true),(11,true),(13,true),(12,false),(14,true),(15,false)]
theorem e165:Ent zP 165 Tryz.f165 [] 1:=.mk Tryz.func165 rfl
theorem keys_ac{m:Nat}{H:List AO}{K:AV->List AO->Prop}(hK:K (.fn 228 [] [.ptr H.length 0]) (H++[.cells [.mp m]])) :
  AC zP GG 165 [.mp m] H K:=by
 refine goE e165 TOk.nil 0 ?_;simp only[push_cast,seval,↓kw2];exact⟨_,rfl,hK⟩
theorem Wnt.rot_v(o:Nat)(w:Wnt):(w.rot o).v=w.v:=by unfold Wnt.rot; split <;> rfl
def ddW:List Wnt->List Wnt
 | []=>[]
 | x::l=>if x∈ddW l then ddW l else x::ddW l
theorem ddW_mem{x:Wnt}:∀ {l:List Wnt},x∈ddW l ↔ x∈l
 | []=>Iff.rfl
 | y::l=>by
  unfold ddW
  split
  ·rename_i h;rw[ddW_mem,List.mem_cons];exact⟨.inr,fun h'=>h'.elim (fun e=>e ▸ ddW_mem.1 h) id⟩
  ·rw[List.mem_cons,List.mem_cons,ddW_mem]
theorem ddW_nodup:∀ l:List Wnt,(ddW l).Nodup
 | []=>List.nodup_nil
 | y::l=>by
  unfold ddW
  split
  ·exact ddW_nodup l
  ·rename_i h;exact List.nodup_cons.2 ⟨h,ddW_nodup l⟩
theorem ddW_len:∀ l:List Wnt,(ddW l).length<=l.length
 | []=>Nat.le_refl _
 | y::l=>by
  have:=ddW_len l;unfold ddW
  split
  ·simp; omega
  ·simp; omega
def Wnt.all(w:Wnt):List Wnt:=(ddW ((List.range 6).map fun i=>w.rot i)).mergeSort fun a b=>decide (a.cmp b<=0)
theorem Wnt.all_mem{w x:Wnt}:x∈w.all ↔ ∃ i,i < 6/\x=w.rot i:=by
 unfold Wnt.all;rw[List.mem_mergeSort,ddW_mem,List.mem_map];exact⟨fun⟨i,h1,h2⟩=>⟨i,List.mem_range.1 h1,h2.symm⟩,fun⟨i,h1,h2⟩=>⟨i,List.mem_range.2 h1,h2.symm⟩⟩
theorem Wnt.all_nodup(w:Wnt):w.all.Nodup:=(List.mergeSort_perm _ _).nodup_iff.2 (ddW_nodup _)
theorem Wnt.all_sorted(w:Wnt):∀ i j,i < j->j < w.all.length->¬ (w.all.getD j default).cmp (w.all.getD i default) < 0:=by
 have hp:=List.pairwise_mergeSort (le:=fun a b:Wnt=>decide (a.cmp b<=0)) (fun a b c h1 h2=>by
  have h1':=of_decide_eq_true h1;have h2':=of_decide_eq_true h2;refine zT ?_;have:=Wnt.tri a b c;unfold Tri3 at this;omega) (fun a b=>by
  have:=Wnt.neg a b;unfold Neg at this
  by_cases h:a.cmp b<=0
  ·simp[h]
  ·have:b.cmp a<=0:=by omega
   simp[this]) (ddW ((List.range 6).map fun i=>w.rot i))
 intro i j hij hj
 change w.all.Pairwise _ at hp
 rw[List.pairwise_iff_getElem]at hp;have h1:=of_decide_eq_true (hp i j (by omega) hj hij);have e:∀ q (h:q < w.all.length),w.all.getD q default=w.all[q]:=fun q h=>by simp[List.getD,h]
 rw[e j hj,e i (by omega)];have:=Wnt.neg (w.all[i]) (w.all[j]);unfold Neg at this;omega
theorem Wnt.all_len(w:Wnt):0 < w.all.length/\w.all.length<=6:=by
 have h1:w.rot 0∈w.all:=Wnt.all_mem.2 ⟨0,by omega,rfl⟩;refine⟨List.length_pos_of_mem h1,?_⟩;unfold Wnt.all;rw[List.length_mergeSort];exact Nat.le_trans (ddW_len _) (by simp)
theorem e94:Ent zP 94 Tryz.f94 [14] 1:=.mk Tryz.func94 rfl
theorem turns_pur(w:Wnt)(hw:okW w.p w.q w.r)(hv:w.v=true):Pur zP GG 94 [w.av] (.tup [.isl (w.all.map Wnt.av),I 0]):=by
 have key:AC zP GG 94 [w.av] [] fun v0 H0=>∃(s:AV) (L:List Wnt),v0=.tup [s,I 0]/\OwnK 7 H0 s (L.map Wnt.av)/\0 < L.length/\L.length<=6/\L.Nodup/\(∀ x,x∈L ↔ ∃ i,i < 6/\x=w.rot i)/\(∀ i j,i < j->j < L.length->¬ (L.getD j default).cmp (L.getD i default) < 0):=by
  obtain⟨p,q,r,s,t,u,v⟩:=w;simp only at hw hv;subst hv;have hck:wchk p q r=0:=by rw[wchk,if_pos hw]
  show AC zP GG 94 [WT p q r s t u true] [] _;refine goE e94 S2_ok 0 ?_;simp only[push_cast,seval,↓kw2,hck];refine AC.pur orders_pur ?_;refine goW S2_ok [14] 0 ?_;simp only[push_cast,seval,↓kw2];refine FW.loopInv (fun l ts H=>∃(i:Nat) (ws:List Wnt),i+l=6/\ws.Nodup/\ws.length<=i/\(∀ x,x∈ws ↔ ∃ j,j < i/\x=Wnt.rot j ⟨p,q,r,s,t,u,true⟩)/\H[0]?=some (.cells [I p,I q,I r,B s,B t,B u,B true])/\H[1]?=some (.map (entsF ws) ws.length) /\
   ts 1=.ptr 0 0/\ts 5=.mp 1/\ts 22=.agg [I 0,I 1,I 2,I 0,I 2,I 1,I 1,I 0,I 2,I 1,I 2,I 0,I 2,I 0,I 1,I 2,I 1,I 0]/\ts 23=I (i:Int)) 6
   ⟨0,[],rfl,List.nodup_nil,by simp,by simp,rfl,rfl,rfl,rfl,rfl,rfl⟩ ?_
  rintro l ih ts H ⟨i,ws,hi,hnd,hwl,hmem,g0,g1,t1,t5,t22,t23⟩
  refine FW.inLoop ?_;have q0:∀ X,(H++X)[0]?=some (.cells [I p,I q,I r,B s,B t,B u,B true]):=fun X=>by rw[zL (zAc g0)]; exact g0
  have q1:∀ X,(H++X)[1]?=some (.map (entsF ws) ws.length):=fun X=>by rw[zL (zAc g1)]; exact g1
  have hl2:=zAc g1
  by_cases hlt:i < 6
  ·obtain⟨x,hx⟩:∃ x,x=Wnt.rot i ⟨p,q,r,s,t,u,true⟩:=⟨_,rfl⟩;have hck:=Wnt.ck x;have hfl:=Wnt.fl x;have hih:∀(ts:Nat->AV) (H':List AO) (ws':List Wnt),ws'.Nodup->ws'.length<=i+1->(∀ y,y∈ws' ↔ y∈ws\/y=x)->H'[0]?=some (.cells [I p,I q,I r,B s,B t,B u,B true])->H'[1]?=some (.map (entsF ws') ws'.length) ->
     ts 1=.ptr 0 0->ts 5=.mp 1->ts 22=.agg [I 0,I 1,I 2,I 0,I 2,I 1,I 1,I 0,I 2,I 1,I 2,I 0,I 2,I 0,I 1,I 2,I 1,I 0]->ts 23=I ((i:Int)+1)->_:=fun ts H' ws' n1 n2 n3 n4 n5 n6 n7 n8 n9 =>
    ih (l - 1) (by omega) ts H' ⟨i+1,ws',by omega,n1,n2,fun y=>by
     rw[n3,hmem,hx]
     constructor
     ·rintro(⟨j,h1,h2⟩ | h2)
      ·exact⟨j,by omega,h2⟩
      ·exact⟨i,by omega,h2⟩
     ·rintro⟨j,h1,h2⟩
      rcases Nat.lt_or_ge j i with h3 | h3
      ·exact .inl ⟨j,h3,h2⟩
      ·have:j=i:=by omega
       subst this; exact .inr h2,n4,n5,n6,n7,n8,by rw[n9]; rfl⟩
   clear ih hmem
   by_cases hm:x∈ws
   ·obtain⟨j,hf,hkey,hset⟩:=ents_yes hm;have hfin:=fun ts H'=>hih ts H' ws hnd (by omega) (fun y=>⟨.inl,fun h=>h.elim id fun h=>h ▸ hm⟩)
    clear hih;obtain rfl | rfl | rfl | rfl | rfl | rfl:i=0\/i=1\/i=2\/i=3\/i=4\/i=5:=by omega
    all_goals
     subst hx;simp only[Wnt.rot,Wnt.av]at hf hkey hset hck hfl;refine goW S2_ok [14] 1 ?_;simp only[push_cast,seval,↓kw2,t1,t5,t22,t23,q0,q1,zAd,getA,setA,zAe];refine FW.walkG hmix (imp:=impT) (l:=ordT) (by kernel_rfl) (by kernel_rfl) ?_;simp only[ordT];simp only[push_cast,seval,↓kw2,zBn,zBm,zAr,↓zAq,impT,Bool.or_false,Bool.or_true,Bool.true_or,Bool.false_or,Bool.or_self,zAx,zCq,wat,clOf,zAd,getA,setA,zAe,q0,q1,t1,t5];refine goW S2_ok [14] 1 ?_;simp only[push_cast,seval,↓kw2,t1,t5,t22,t23,q0,q1,zAd,getA,setA,zAe];refine FW.walkG hmix (imp:=impT) (l:=ordT) (by kernel_rfl) (by kernel_rfl) ?_;simp only[ordT];simp only[push_cast,seval,↓kw2,zBn,zBm,zAr,↓zAq,impT,Bool.or_false,Bool.or_true,Bool.true_or,Bool.false_or,Bool.or_self,zAx,zCq,wat,clOf,zAd,getA,setA,zAe,q0,q1,t1,t5];refine goW S2_ok [14] 1 ?_;simp only[push_cast,seval,↓kw2,t1,t5,t22,t23,q0,q1,zAd,getA,setA,zAe];refine FW.walkG hmix (imp:=impT) (l:=ordT) (by kernel_rfl) (by kernel_rfl) ?_;simp only[ordT];simp only[push_cast,seval,↓kw2,zBn,zBm,zAr,↓zAq,impT,Bool.or_false,Bool.or_true,Bool.true_or,Bool.false_or,Bool.or_self,zAx,zCq,wat,clOf,zAd,getA,setA,zAe,q0,q1,t1,t5];refine goW S2_ok [14] 1 ?_;simp only[push_cast,seval,↓kw2,t1,t5,t22,t23,q0,q1,hf,hkey,hset,hck,hfl,zDa,zAd,getA,setA,zAe];exact hfin _ _ ((zQ (by omega)).trans (q0 _)) (zS (by first | (simp; done) | (simp; omega))) t1 t5 t22 rfl
   ·have hf:=ents_no hm;have hfin:=fun ts H'=>hih ts H' (ws++[x]) (List.nodup_append.2 ⟨hnd,by simp,fun a ha b hb=>by rw[List.mem_singleton]at hb; rw[hb]; exact fun e=>hm (e ▸ ha)⟩) (by simp; omega) (fun y=>by simp)
    rw[entsF_snoc,List.length_append,List.length_singleton]at hfin;clear hih;obtain rfl | rfl | rfl | rfl | rfl | rfl:i=0\/i=1\/i=2\/i=3\/i=4\/i=5:=by omega
    all_goals
     subst hx;simp only[Wnt.rot,Wnt.av]at hf hck hfl hfin;refine goW S2_ok [14] 1 ?_;simp only[push_cast,seval,↓kw2,t1,t5,t22,t23,q0,q1,zAd,getA,setA,zAe];refine FW.walkG hmix (imp:=impT) (l:=ordT) (by kernel_rfl) (by kernel_rfl) ?_;simp only[ordT];simp only[push_cast,seval,↓kw2,zBn,zBm,zAr,↓zAq,impT,Bool.or_false,Bool.or_true,Bool.true_or,Bool.false_or,Bool.or_self,zAx,zCq,wat,clOf,zAd,getA,setA,zAe,q0,q1,t1,t5];refine goW S2_ok [14] 1 ?_;simp only[push_cast,seval,↓kw2,t1,t5,t22,t23,q0,q1,zAd,getA,setA,zAe];refine FW.walkG hmix (imp:=impT) (l:=ordT) (by kernel_rfl) (by kernel_rfl) ?_;simp only[ordT];simp only[push_cast,seval,↓kw2,zBn,zBm,zAr,↓zAq,impT,Bool.or_false,Bool.or_true,Bool.true_or,Bool.false_or,Bool.or_self,zAx,zCq,wat,clOf,zAd,getA,setA,zAe,q0,q1,t1,t5];refine goW S2_ok [14] 1 ?_;simp only[push_cast,seval,↓kw2,t1,t5,t22,t23,q0,q1,zAd,getA,setA,zAe];refine FW.walkG hmix (imp:=impT) (l:=ordT) (by kernel_rfl) (by kernel_rfl) ?_;simp only[ordT];simp only[push_cast,seval,↓kw2,zBn,zBm,zAr,↓zAq,impT,Bool.or_false,Bool.or_true,Bool.true_or,Bool.false_or,Bool.or_self,zAx,zCq,wat,clOf,zAd,getA,setA,zAe,q0,q1,t1,t5];refine goW S2_ok [14] 1 ?_;simp only[push_cast,seval,↓kw2,t1,t5,t22,t23,q0,q1,hf,hck,hfl,zDa,zAd,getA,setA,zAe];exact hfin _ _ ((zQ (by omega)).trans (q0 _)) (zS (by first | (simp; done) | (simp; omega))) t1 t5 t22 rfl
  ·have hi6:i=6:=by omega
   subst hi6;have hw0:0 < ws.length:=List.length_pos_of_mem ((hmem (Wnt.rot 0 ⟨p,q,r,s,t,u,true⟩)).2 ⟨0,by omega,rfl⟩);refine goW S2_ok [14] 0 ?_;simp only[push_cast,seval,↓kw2,t1,t5,t22,t23,q0,q1];refine keys_ac ?_;refine goW S2_ok [14] 0 ?_;simp only[push_cast,seval,↓kw2,t1,t5];refine sortedW (k:=H.length) (m:=1) (ws:=ws) (by rw[zAd]; rfl) (q1 _) hw0 (by omega) ?_
   intro H' sl L hp hs hown
   refine goW S2_ok [14] 0 ?_;simp only[push_cast,seval,↓kw2,t1,t5];exact⟨_,rfl,sl,L,rfl,hown,by rw[hp.length_eq]; exact hw0,by rw[hp.length_eq]; exact hwl,hp.nodup_iff.2 hnd,fun x=>(hp.mem_iff).trans (hmem x),hs⟩
 refine Pur.of_alone ggp (by simp[AV.purL,Wnt.pur]) (key.mono fun v0 H0 h=>?_);obtain⟨sl,L,rfl,hown,hl0,hl6,hnd,hmem,hs⟩:=h;have hL:L=w.all:=Wnt.uniq (b:=true) (fun x hx=>by obtain⟨i,_,rfl⟩:=(hmem x).1 hx; rw[Wnt.rot_v,hv]) hnd hs (Wnt.all_nodup w) (Wnt.all_sorted w) fun x=>(hmem x).trans Wnt.all_mem.symm
 subst hL;obtain⟨n,hn⟩:=hown.done2 (v:=I 0) (zAi Wnt.av _ (fun _=>rfl)) rfl;rw[frS_ne (by rw[zM]; exact hl0)]at hn;exact⟨n,hn⟩
def Wnt.turns(w:Wnt):List Wnt:=if w.v=true then w.all else [w]
theorem Wnt.turns_len(w:Wnt):0 < w.turns.length/\w.turns.length<=6:=by
 unfold Wnt.turns
 split
 ·exact w.all_len
 ·simp
theorem turns0_pur(w:Wnt)(hw:okW w.p w.q w.r)(hv:w.v=false):Pur zP GG 94 [w.av] (.tup [.isl ([w].map Wnt.av),I 0]):=by
 obtain⟨p,q,r,s,t,u,v⟩:=w;simp only at hw hv;subst hv;have hck:wchk p q r=0:=by rw[wchk,if_pos hw]
 show Pur zP GG 94 [WT p q r s t u false] _;refine Pur.of_alone ggp rfl ?_;refine goE e94 S2_ok 0 ?_;simp(maxSteps:=2000000)only[push_cast,seval,↓kw2,hck];exact⟨_,rfl,3,rfl⟩
theorem turnsA_pur(w:Wnt)(hw:okW w.p w.q w.r):Pur zP GG 94 [w.av] (.tup [.isl (w.turns.map Wnt.av),I 0]):=by
 unfold Wnt.turns;cases hv:w.v
 ·rw[if_neg (by decide)]; exact turns0_pur w hw hv
 ·rw[if_pos rfl]; exact turns_pur w hw hv
def dwchk(a b c p q r:Int):Int:=if okD a b c then wchk p q r else 8
theorem e93:Ent zP 93 Tryz.f93 [] 2:=.mk Tryz.func93 rfl
theorem schk12_pur(a b c p q r:Int)(s t u v:Bool):Pur zP GG 93 [.agg [I a,I b,I c],WT p q r s t u v] (I (dwchk a b c p q r)):=by
 refine goQ e93 S2_ok 0 ?_;simp(maxSteps:=2000000)only[push_cast,seval,↓kw2];unfold dwchk
 by_cases h:okD a b c
 ·simp only[chk,if_pos h];simp;exact zAa rfl rfl
 ·simp only[chk,if_neg h];simp;exact zAa rfl rfl
@[push_cast] def g93:List AV->Option (Prop × AV)
 | [.agg [(.c (.int .i64 a)),(.c (.int .i64 b)),(.c (.int .i64 c))],.agg [(.c (.int .i64 p)),(.c (.int .i64 q)),(.c (.int .i64 r)),(.c (.bool s)),(.c (.bool t)),(.c (.bool u)),(.c (.bool v))]]=>some (True,I (dwchk a b c p q r))
 | _=>none
theorem g93_ok:∀ args p,g93 args=some p->p.1->Pur zP GG 93 args p.2:=by
 intro args p hp hc
 unfold g93 at hp
 split at hp
 ·cases hp;exact schk12_pur _ _ _ _ _ _ _ _ _ _
 ·cases hp
@[push_cast] def S3:Tab:=Tab.ext S2 93 g93
theorem S3_ok:TOk zP GG S3:=TOk.ext S2_ok g93_ok
theorem gsK_var{b:Bool}{k:Bool->Bool->Prop}{sk:Bool->Prop}{e:Prop}:gsK (.c (.bool b)) k sk e=((b=true->k true true)/\(b=false->k true false)):=by cases b <;> simp[gsK]
def torV(s:Bool)(p:Int):Bool:=s&&decide (1 < p)
theorem e97:Ent zP 97 Tryz.f97 [] 1:=.mk Tryz.func97 rfl
theorem tori_pur(p q r:Int)(s t u v:Bool):Pur zP GG 97 [WT p q r s t u v] (.agg [B (torV s p),B (torV t q),B (torV u r)]):=by
 refine goQ e97 S3_ok 4 ?_;simp(maxSteps:=2000000)only[push_cast,seval,↓kw2,zDz,gsK_var];unfold torV
 repeat' (first | apply And.intro | intro _)
 all_goals
  refine⟨_,rfl,zAa rfl ?_⟩;simp[*]
@[push_cast] def g97:List AV->Option (Prop × AV)
 | [.agg [(.c (.int .i64 p)),(.c (.int .i64 q)),(.c (.int .i64 r)),(.c (.bool s)),(.c (.bool t)),(.c (.bool u)),(.c (.bool v))]]=>some (True,.agg [B (torV s p),B (torV t q),B (torV u r)])
 | _=>none
theorem g97_ok:∀ args p,g97 args=some p->p.1->Pur zP GG 97 args p.2:=by
 intro args p hp hc
 unfold g97 at hp
 split at hp
 ·cases hp;exact tori_pur _ _ _ _ _ _ _
 ·cases hp
@[push_cast] def S4:Tab:=Tab.ext S3 97 g97
theorem S4_ok:TOk zP GG S4:=TOk.ext S3_ok g97_ok
theorem e177:Ent zP 177 Tryz.f177 [] 2:=.mk Tryz.func177 rfl
theorem places_pur(a b c p q r:Int)(s t u v:Bool):Pur zP GG 177 [.agg [I a,I b,I c],WT p q r s t u v] (.fn 235 [] [.iptr [I a,I b,I c] 0,.iptr [I p,I q,I r,B s,B t,B u,B v] 0]):=by
 refine goQ e177 S4_ok 0 ?_;simp(maxSteps:=2000000)only[push_cast,seval,↓kw2];exact⟨_,rfl,3,rfl⟩
@[push_cast] def g177:List AV->Option (Prop × AV)
 | [.agg [(.c (.int .i64 a)),(.c (.int .i64 b)),(.c (.int .i64 c))],.agg [(.c (.int .i64 p)),(.c (.int .i64 q)),(.c (.int .i64 r)),(.c (.bool s)),(.c (.bool t)),(.c (.bool u)),(.c (.bool v))]]=>some (True,.fn 235 [] [.iptr [I a,I b,I c] 0,.iptr [I p,I q,I r,B s,B t,B u,B v] 0])
 | _=>none
theorem g177_ok:∀ args p,g177 args=some p->p.1->Pur zP GG 177 args p.2:=by
 intro args p hp hc
 unfold g177 at hp
 split at hp
 ·cases hp;exact places_pur _ _ _ _ _ _ _ _ _ _
 ·cases hp
@[push_cast] def S5:Tab:=Tab.ext S4 177 g177
theorem S5_ok:TOk zP GG S5:=TOk.ext S4_ok g177_ok
def Plc.keys(a b c:Int)(x:Plc):List Int:=[atV a b c x.x x.y x.z,x.p,x.q,x.r,bitV x.s,bitV x.t,bitV x.u]
def Plc.cmp(a b c:Int)(x y:Plc):Int:=orL (List.zipWith cmpV (x.keys a b c) (y.keys a b c))
theorem e238:Ent zP 238 Tryz.f238 [] 3:=.mk Tryz.func238 rfl
theorem pcmp_pur(a b c:Int)(x y:Plc):Pur zP GG 238 [x.av,y.av,.iptr [I a,I b,I c] 0] (I (Plc.cmp a b c x y)):=by
 obtain⟨x1,x2,x3,x4,x5,x6,x7,x8,x9⟩:=x;obtain⟨y1,y2,y3,y4,y5,y6,y7,y8,y9⟩:=y;show Pur zP GG 238 [PL x1 x2 x3 x4 x5 x6 x7 x8 x9,PL y1 y2 y3 y4 y5 y6 y7 y8 y9,.iptr [I a,I b,I c] 0] _;refine goQ e238 S5_ok 8 ?_;simp only[push_cast,seval,↓kw2,zBk,elsOf,zDf];refine orL_ac (cs:=[cmpV (atV a b c x1 x2 x3) (atV a b c y1 y2 y3),cmpV x4 y4,cmpV x5 y5,cmpV x6 y6,cmpV (bitV x7) (bitV y7),cmpV (bitV x8) (bitV y8),cmpV (bitV x9) (bitV y9)]) rfl (by simp) ?_;refine goW S5_ok [] 0 ?_;simp only[push_cast,seval,↓kw2];exact⟨_,rfl,zAa rfl rfl⟩
theorem e179:Ent zP 179 Tryz.f179 [] 1:=.mk Tryz.func179 rfl
theorem pcompare_pur(a b c:Int):Pur zP GG 179 [.agg [I a,I b,I c]] (.fn 238 [] [.iptr [I a,I b,I c] 0]):=by
 refine goQ e179 S5_ok 0 ?_;simp only[push_cast,seval,↓kw2];exact⟨_,rfl,3,rfl⟩
theorem Tri3.zero:Tri3 0 0 0:=by unfold Tri3; omega
theorem Plc.cmp_eq(a b c:Int)(x y:Plc):Plc.cmp a b c x y=orV (cmpV (atV a b c x.x x.y x.z) (atV a b c y.x y.y y.z)) (orV (cmpV x.p y.p) (orV (cmpV x.q y.q) (orV (cmpV x.r y.r) (orV (cmpV (bitV x.s) (bitV y.s)) (orV (cmpV (bitV x.t) (bitV y.t)) (orV (cmpV (bitV x.u) (bitV y.u)) 0)))))):=rfl
theorem Plc.tri(a b c:Int)(x y z:Plc):Tri3 (Plc.cmp a b c x y) (Plc.cmp a b c y z) (Plc.cmp a b c x z):=by
 rw[Plc.cmp_eq,Plc.cmp_eq,Plc.cmp_eq];exact(Tri3.cmp _ _ _).or ((Tri3.cmp _ _ _).or ((Tri3.cmp _ _ _).or ((Tri3.cmp _ _ _).or ((Tri3.cmp _ _ _).or ((Tri3.cmp _ _ _).or ((Tri3.cmp _ _ _).or Tri3.zero))))))
theorem Plc.neg(a b c:Int)(x y:Plc):Neg (Plc.cmp a b c x y) (Plc.cmp a b c y x):=by
 rw[Plc.cmp_eq,Plc.cmp_eq];exact(Neg.cmp _ _).or ((Neg.cmp _ _).or ((Neg.cmp _ _).or ((Neg.cmp _ _).or ((Neg.cmp _ _).or ((Neg.cmp _ _).or ((Neg.cmp _ _).or (by unfold Neg; rfl)))))))
theorem Plc.self(a b c:Int)(x:Plc):Plc.cmp a b c x x=0:=by
 rw[Plc.cmp_eq];simp[cmpV_self,orV]
theorem mul_inj_of{a x u x' u':Int}(h1:0<=x)(h2:x < a)(h3:0<=x')(h4:x' < a)(e:x+a*u=x'+a*u'):x=x'/\u=u':=by
 have e1:(x+a*u) / a=u:=by rw[Int.add_mul_ediv_left _ _ (by omega),Int.ediv_eq_zero_of_lt h1 h2]; omega
 have e2:(x'+a*u') / a=u':=by rw[Int.add_mul_ediv_left _ _ (by omega),Int.ediv_eq_zero_of_lt h3 h4]; omega
 have hu:u=u':=by rw[<- e1,<- e2,e]
 subst hu;exact⟨by omega,rfl⟩
theorem at_inj{a b c x y z x' y' z':Int}(hd:okD a b c)(h:okP a b c x y z)(h':okP a b c x' y' z')(e:atV a b c x y z=atV a b c x' y' z'):x=x'/\y=y'/\z=z':=by
 rw[atV,atV,if_pos ⟨hd,h⟩,if_pos ⟨hd,h'⟩]at e;unfold okP at h h';have e2:x+a*(y+b*z)=x'+a*(y'+b*z'):=by
  rw[Int.mul_add,Int.mul_add,<- Int.mul_assoc,<- Int.mul_assoc]; omega
 obtain⟨h1,h2⟩:=mul_inj_of (by omega) (by omega) (by omega) (by omega) e2;obtain⟨h3,h4⟩:=mul_inj_of (by omega) (by omega) (by omega) (by omega) h2;exact⟨h1,h3,h4⟩
def Plc.ok(a b c:Int)(x:Plc):Prop:=okPl a b c x.x x.y x.z x.p x.q x.r x.s x.t x.u
instance (a b c:Int) (x:Plc):Decidable (Plc.ok a b c x):=by unfold Plc.ok; infer_instance
theorem Plc.zero{a b c:Int}{x y:Plc}(hx:x.ok a b c)(hy:y.ok a b c)(h:Plc.cmp a b c x y=0):x=y:=by
 rw[Plc.cmp_eq,zCl,zCl,zCl,zCl,zCl,zCl,zCl,zBv,zBv,zBv,zBv,zBv,zBv,zBv]at h;obtain⟨h1,h2,h3,h4,h5,h6,h7,_⟩:=h;have b1:=hx.2.1;have b2:=hy.2.1;unfold okB ok1 at b1 b2;obtain⟨f1,f2,f3⟩:=at_inj hx.1 (by unfold okP; omega) (by unfold okP; omega) h1;obtain⟨x1,x2,x3,x4,x5,x6,x7,x8,x9⟩:=x;obtain⟨y1,y2,y3,y4,y5,y6,y7,y8,y9⟩:=y;simp only at f1 f2 f3 h2 h3 h4 h5 h6 h7;rw[f1,f2,f3,h2,h3,h4,bitV_inj h5,bitV_inj h6,bitV_inj h7]
def plOf(a b c:Int)(w:Wnt)(m:Int):Plc:=⟨ofX a b c m,ofY a b c m,ofZ a b c m,w.p,w.q,w.r,torV w.s w.p,torV w.t w.q,torV w.u w.r⟩
def plAt(a b c:Int)(w:Wnt)(m:Int):List Plc:=if (plOf a b c w m).ok a b c then [plOf a b c w m] else []
def plL(a b c:Int)(w:Wnt):List Plc:=upto (plAt a b c w) 0 (a*b*c).toNat
theorem ok_pchk{a b c:Int}{x:Plc}(h:x.ok a b c):pchk a b c x.x x.y x.z x.p x.q x.r x.s x.t x.u=0:=okPl_pchk h
theorem nok_pchk{a b c:Int}{x:Plc}(h:¬x.ok a b c):¬pchk a b c x.x x.y x.z x.p x.q x.r x.s x.t x.u=0:=fun e=>by
 have h':¬okPl a b c x.x x.y x.z x.p x.q x.r x.s x.t x.u:=h
 by_cases hc:ckB a b c x.x x.y x.z x.p x.q x.r=0
 ·rw[pchk,if_pos hc,if_neg h']at e; omega
 ·rw[pchk,if_neg hc]at e; exact hc e
theorem e235:Ent zP 235 Tryz.f235 [] 3:=.mk Tryz.func235 rfl
theorem places1{a b c:Int}(hd:okD a b c)(w:Wnt){id:Nat}{H:List AO}{K:AV->List AO->Prop}(J:List Plc->List AO->Prop)(h0:J [] H)(hal:∀ l H1 X,J l H1->J l (H1++[X]))
  (hstep:∀ x l H1,(∃ l',l++x::l'=plL a b c w)->J l H1->AY zP GG id [x.av] H1 fun v H2=>v=.c (.bool true)/\J (l++[x]) H2) (hend:∀ H1,J (plL a b c w) H1->K (.tup []) H1) :
  AC zP GG 235 [.yld id,.iptr [I a,I b,I c] 0,.iptr [I w.p,I w.q,I w.r,B w.s,B w.t,B w.u,B w.v] 0] H K:=by
 have hmv:zAf a b c=a*b*c:=by rw[zAf,if_pos hd]
 have hmu:=zBx hd;refine goE e235 S5_ok 0 ?_;simp only[push_cast,seval,↓kw2];refine FW.loopInv (fun l ts H1=>∃(i:Int) (es:List Plc),i+(l:Int)=a*b*c/\0<=i/\es++upto (plAt a b c w) i l=plL a b c w/\J es H1/\ts 0=.yld id/\ts 1=.iptr [I a,I b,I c] 0/\ts 2=.iptr [I w.p,I w.q,I w.r,B w.s,B w.t,B w.u,B w.v] 0 /\
  ts 15=I (a*b*c)/\ts 16=I i) (a*b*c).toNat
  ⟨0,[],by omega,by omega,rfl,h0,rfl,rfl,rfl,by rw[<- hmv]; rfl,rfl⟩ ?_
 rintro l ih ts H1 ⟨i,es,hi,hi0,hes,hJ,t0,t1,t2,t15,t16⟩
 refine FW.inLoop ?_
 by_cases hlt:i < a*b*c
 ·have hd1:decide (i < a*b*c)=true:=zT hlt;obtain⟨l,rfl⟩:∃ l',l=l'+1:=⟨l - 1,by omega⟩;rw[zDk]at hes;have hi1:=zAl (n:=i+1) (by omega) (by omega)
  by_cases hk:(plOf a b c w i).ok a b c
  ·have hpc:=ok_pchk hk;have hst:=hstep (plOf a b c w i) es;rw[plAt,if_pos hk]at hes;simp only[plOf]at hpc;refine goW S5_ok [] 0 ?_;simp only[push_cast,seval,↓kw2,t0,t1,t2,t15,t16,hd1,hpc,zAd,getA,setA,zAe];refine ACV.mono (callee:=.yld id) (hst _ ⟨_,by simpa using hes⟩ ?_) ?_
   ·have:=hal _ _ (AO.cells [I (ofX a b c i),I (ofY a b c i),I (ofZ a b c i),I w.p,I w.q,I w.r,B (torV w.s w.p),B (torV w.t w.q),B (torV w.u w.r)]) (hal _ _ (AO.cells [I (ofX a b c i),I (ofY a b c i),I (ofZ a b c i)]) hJ);rw[List.append_assoc]at this;exact this
   ·rintro v H2 ⟨rfl,hJ2⟩
    refine goW S5_ok [] 0 ?_;simp only[push_cast,seval,↓kw2,t16,hi1];exact ih l (by omega) _ _ ⟨i+1,es++[plOf a b c w i],by omega,by omega,by rw[<- hes]; simp,hJ2,t0,t1,t2,t15,rfl⟩
  ·have hpc:=nok_pchk hk;rw[plAt,if_neg hk,List.nil_append]at hes;simp only[plOf]at hpc;refine goW S5_ok [] 0 ?_;simp only[push_cast,seval,↓kw2,t0,t1,t2,t15,t16,hd1,hpc,zAd,getA,setA,zAe,hi1];refine ih l (by omega) _ _ ⟨i+1,es,by omega,by omega,hes,?_,t0,t1,t2,t15,rfl⟩;have:=hal _ _ (AO.cells [I (ofX a b c i),I (ofY a b c i),I (ofZ a b c i),I w.p,I w.q,I w.r,B (torV w.s w.p),B (torV w.t w.q),B (torV w.u w.r)]) (hal _ _ (AO.cells [I (ofX a b c i),I (ofY a b c i),I (ofZ a b c i)]) hJ);rw[List.append_assoc]at this;exact this
 ·have hd1:decide (i < a*b*c)=false:=zF hlt;have hl:l=0:=by omega
  subst hl;refine goW S5_ok [] 0 ?_;simp only[push_cast,seval,↓kw2,t15,t16,hd1];simp only[upto,List.append_nil]at hes;subst hes;exact⟨_,rfl,hend _ hJ⟩
theorem e176:Ent zP 176 Tryz.f176 [] 2:=.mk Tryz.func176 rfl
theorem appendP{a b c:Int}(hd:okD a b c)(w:Wnt){H:List AO}{s0:AV}{es:List Plc}(hown0:OwnK 9 H s0 (es.map Plc.av))(hsz:es.length+(plL a b c w).length<=2^16){K:AV->List AO->Prop}
  (hK:∀ H' s,OwnK 9 H' s ((es++plL a b c w).map Plc.av)->(∀ j,j < H.length->zAw s0≠some j->H'[j]?=H[j]?)->(s=s0\/∀ j,zAw s=some j->H.length<=j)->K s H') :
  AC zP GG 176 [s0,.fn 235 [] [.iptr [I a,I b,I c] 0,.iptr [I w.p,I w.q,I w.r,B w.s,B w.t,B w.u,B w.v] 0]] H K:=by
 obtain⟨k1,k2,k3⟩:=hown0.cell;refine goE e176 TOk.nil 0 ?_;simp only[push_cast,seval,↓kw2,k1,k2,k3];refine FW.rangeFunc ?_;simp only[push_cast,seval,↓kw2,ACV,List.append_assoc,List.length_append]
 generalize hal:AO.loop _=lo
 refine places1 hd w (fun l H1=>∃ s,H1[H.length+1]?=some lo/\H1[H.length]?=some (.cells [s])/\OwnK 9 H1 s ((es++l).map Plc.av)/\(s=s0\/∀ j,zAw s=some j->H.length+2<=j)/\∀ j,j < H.length->zAw s0≠some j->H1[j]?=H[j]?) ?_ ?_ ?_ ?_
 ·refine⟨s0,?_,?_,?_,.inl rfl,fun j hj _=>zL hj⟩
  ·rw[getA]; rfl
  ·rw[zAd]; rfl
  ·rw[List.append_nil]; exact hown0.append _
 ·rintro l H1 X ⟨s,h1,h2,h3,h4,h5⟩
  have hl1:=zAc h1;exact⟨s,by rw[zL (zAc h1)]; exact h1,by rw[zL (zAc h2)]; exact h2,h3.append _,h4,fun j hj hn=>by rw[zL (by omega)]; exact h5 j hj hn⟩
 ·rintro x l H1 ⟨l',hl'⟩ ⟨s,h1,hc,hown,hs,h5⟩
  rw[<- hal]at h1;refine AY.of_loop h1 rfl ?_;have hl2:=zAc h1;have hcl:=Plc.cells x;have hns:∀ j,j=H.length\/j=H.length+1->zAw s≠some j:=fun j hj e=>by
   rcases hs with rfl | hs
   ·have:=hown0.lt e; omega
   ·have:=hs j e; omega
  have hno:∀ j,j < H.length->zAw s0≠some j->zAw s≠some j:=fun j hj hn e=>by
   rcases hs with rfl | hs
   ·exact hn e
   ·have:=hs j e; omega
  refine goN ?_;simp only[push_cast,seval,↓kw2,parTs,Plc.av,zAd,zAe];have h1':(H1++[AO.cells [I x.x,I x.y,I x.z,I x.p,I x.q,I x.r,B x.s,B x.t,B x.u]])[H.length+1]?=H1[H.length+1]?:=zL hl2;have hlA:(H1++[AO.cells [I x.x,I x.y,I x.z,I x.p,I x.q,I x.r,B x.s,B x.t,B x.u]]).length=H1.length+1:=by simp
  have hgA:(H1++[AO.cells [I x.x,I x.y,I x.z,I x.p,I x.q,I x.r,B x.s,B x.t,B x.u]])[H1.length]?=some (AO.cells [I x.x,I x.y,I x.z,I x.p,I x.q,I x.r,B x.s,B x.t,B x.u]):=by rw[zAd]; rfl
  have hkA:∀ j,j < H1.length->(H1++[AO.cells [I x.x,I x.y,I x.z,I x.p,I x.q,I x.r,B x.s,B x.t,B x.u]])[j]?=H1[j]?:=fun j hj=>zL hj
  generalize H1++[AO.cells [I x.x,I x.y,I x.z,I x.p,I x.q,I x.r,B x.s,B x.t,B x.u]]=HA at h1' hlA hgA hkA
  have h1A:=h1'.trans h1;refine FW.beginRound h1A rfl ?_
  generalize hH2:HA.set (H.length+1) _=H2
  have hlen:H2.length=H1.length+1:=by rw[<- hH2,List.length_set,hlA]
  obtain⟨al2,hb,hal2⟩:∃ al2,H2[H.length+1]?=some (.loop al2)/\AO.loop { al2 with st:=.ready,pending:=none }=lo:=⟨_,by rw[<- hH2,zS (by omega)],hal⟩;have hk2:∀ j,j < H1.length->j≠H.length+1->H2[j]?=H1[j]?:=fun j h0 hj=>by rw[<- hH2,zQ (fun e=>hj e.symm),hkA j h0]
  have hg2:H2[H1.length]?=some (AO.cells [I x.x,I x.y,I x.z,I x.p,I x.q,I x.r,B x.s,B x.t,B x.u]):=by rw[<- hH2,zQ (by omega)]; exact hgA
  have hc2:H2[H.length]?=some (.cells [s]):=(hk2 _ (by omega) (by omega)).trans hc;have hown2:OwnK 9 H2 s ((es++l).map Plc.av):=hown.keep fun j hj=>hk2 j (hown.lt hj) (fun e=>hns j (.inr e) hj)
  have hap:=aAppK (P:=zP) (k:=9) un122 un122 ze37 rfl by37 hown2 x.av;have h30:=(zFt (k:=9) (es:=(es++l).map Plc.av) (v:=x.av) (zAc hc2) (hns H.length (.inl rfl))).trans hc2;have h31:=(zFt (k:=9) (es:=(es++l).map Plc.av) (v:=x.av) (zAc hb) (hns _ (.inr rfl))).trans hb;have h3k:∀ j,j < H.length->zAw s0≠some j->(apHk 9 H2 s ((es++l).map Plc.av) x.av)[j]?=H[j]?:=fun j hj h0=>by
   rw[zFt (by omega) (hno j hj h0),hk2 j (by omega) (by omega),h5 j hj h0]
  have hLen3:=apHk_length (k:=9) (H:=H2) (s:=s) (es:=(es++l).map Plc.av) (v:=x.av);have hown3:=apHk_own (k:=9) (H:=H2) (s:=s) (es:=(es++l).map Plc.av) (v:=x.av);rw[show(es++l).map Plc.av++[x.av]=(es++(l++[x])).map Plc.av by simp]at hown3
  generalize apHk 9 H2 s ((es++l).map Plc.av) x.av=H3 at hap h30 h31 h3k hLen3 hown3
  have hap':zBk zP 122 122 s (.sl H2.length 0 1 1) (H2++[AO.arr 9 [AV.agg [I x.x,I x.y,I x.z,I x.p,I x.q,I x.r,B x.s,B x.t,B x.u]]])=_:=hap;clear h1 hH2 h1A h1';have hll:=congrArg List.length hl';simp only[List.length_append,List.length_cons]at hll;refine goN ?_;simp only[push_cast,seval,↓kw2,hc2,hg2,hap',h30];refine⟨apC_of (by rw[zM,List.length_append]; omega) (by decide),rfl,al2,(zQ (by omega)).trans h31,rfl,_,?_,?_,hown3.keep fun j hj=>kgen ?_ ?_,.inr ?_,fun j hj hn=>?_⟩
  ·rw[zS (by rw[List.length_set]; omega)]; exact congrArg some hal2
  ·rw[zQ (by omega),zS (by omega)]
  ·cases hj; omega
  ·cases hj; omega
  ·intro j hj; cases hj; omega
  ·rw[kgen (by omega) (by omega),h3k j hj hn]
 ·rintro H1 ⟨s,h1,hc,hown,hs,h5⟩
  rw[<- hal]at h1;refine⟨_,h1,by simp,?_⟩;have hc2:(H1.set (H.length+1) .dead)[H.length]?=some (.cells [s]):=(zQ (by omega)).trans hc;obtain⟨c1,c2,c3⟩:=hown.cell;have hne:∀ j,zAw s=some j->j≠H.length+1:=fun j hj e=>by
   rcases hs with rfl | hs
   ·have:=hown0.lt hj; omega
   ·have:=hs j hj; omega
  refine goN ?_;simp only[push_cast,seval,↓kw2,hc2,c1,c2,c3];exact⟨_,rfl,hK _ _ (hown.keep fun j hj=>zQ (fun e=>hne j hj e.symm)) (fun j hj hn=>by rw[zQ (by omega)]; exact h5 j hj hn) (hs.imp id fun h j hj=>by have:=h j hj; omega)⟩
theorem avD(l:List Plc){i:Nat}(h:i < l.length):(l.map Plc.av).getD i .un=(l.getD i default).av:=zAj Plc.av l default h
theorem e180:Ent zP 180 Tryz.f180 [] 1:=.mk Tryz.func180 rfl
theorem compactP{l:List Plc}{H:List AO}{id:Nat}(hid:H[id]?=some (.arr 9 (l.map Plc.av)))(h0:0 < l.length)(hsz:l.length<=2^20){K:AV->List AO->Prop}
  (hK:∀ H' (rs:List AV) n cap,H'[id]?=some (.arr 9 rs)->rs.length=l.length->n=(zCz default l l.length).length->rs.take n=(zCz default l l.length).map Plc.av->n<=cap->(∀ j,j≠id->H'[j]?=H[j]?)->K (.sl id 0 n cap) H') :
  AC zP GG 180 [.sl id 0 l.length l.length] H K:=by
 have hidl:=zAc hid
 by_cases h1:l.length < 2
 ·have hd0:decide ((l.length:Int) < 2)=true:=zT (by omega);refine goE e180 TOk.nil 0 ?_;simp only[push_cast,seval,↓kw2,hd0];have hl1:l.length=1:=by omega
  have hc:zCz default l l.length=l:=by rw[hl1]; show l.take 1=l; rw[List.take_of_length_le (by omega)]
  exact⟨_,rfl,hK H _ _ _ hid (by simp) (by rw[hc]) (by rw[hc,List.take_of_length_le (by simp)]) (Nat.le_refl _) fun _ _=>rfl⟩
 ·have hd0:decide ((l.length:Int) < 2)=false:=zF (by omega);refine goE e180 TOk.nil 0 ?_;simp only[push_cast,seval,↓kw2,hd0];refine FW.loopInv (fun n ts H'=>∃ k:Nat,k+n=l.length/\1<=k/\(∀ j,0 < j->j < k->l.getD j default≠l.getD (j - 1) default)/\H'=H/\ts 0=.sl id 0 l.length l.length/\ts 3=I (k:Int)) (l.length - 1)
   ⟨1,by omega,by omega,fun j h1 h2=>by omega,rfl,rfl,rfl⟩ ?_
  rintro n ih ts H' ⟨k,hk,hk1,hne,rfl,t0,t3⟩
  refine FW.inLoop ?_
  by_cases hlt:k < l.length
  ·have hd1:decide ((k:Int) < (l.length:Int))=true:=by simp[hlt]
   have hg1:=avD l hlt;have hg2:=avD l (by omega:k - 1 < l.length);have hl1:k < (l.map Plc.av).length:=by simpa using hlt
   have hl2:k - 1 < (l.map Plc.av).length:=by simp; omega
   have hk':((k:Int) - 1).toNat=k - 1:=by omega
   have w1:=zAl (n:=(k:Int) - 1) (by omega) (by omega);have c1:=Plc.cells (l.getD k default);have c2:=Plc.cells (l.getD (k - 1) default);have heq:=Plc.eq (l.getD k default) (l.getD (k - 1) default)
   by_cases hsame:l.getD k default=l.getD (k - 1) default
   ·rw[zT hsame]at heq;simp only[Plc.av]at heq;refine goN ?_;simp only[push_cast,seval,↓kw2,t0,t3,hid,hd1,hg1,hg2,hl1,hl2,hk',w1,c1,c2,heq,Int.toNat_natCast,zAn,zCm,zBi,hlt]
    repeat (refine⟨by omega,?_⟩)
    clear heq hg1 hg2 hl1 hl2 c1 c2 ih;have hc0:zCz default l (k+1)=l.take k:=by
     obtain⟨k',rfl⟩:∃ k',k=k'+1:=⟨k - 1,by omega⟩;show(if l.getD (k'+1) default=l.getD k' default then zCz default l (k'+1) else _)=_;have hs':l.getD (k'+1) default=l.getD k' default:=hsame;rw[if_pos hs',compL_all default l (k'+1) (by omega) hne]
    refine FW.loopInv (fun n ts H1=>∃(m w:Nat) (rs:List AV),k+m+n=l.length/\1<=m/\w<=k+m - 1/\H1[id]?=some (.arr 9 rs)/\rs.length=l.length/\w=(zCz default l (k+m)).length/\rs.take w=(zCz default l (k+m)).map Plc.av /\
     (∀ j,w<=j->j < l.length->rs.getD j .un=(l.getD j default).av)/\(∀ j,j≠id->H1[j]?=H'[j]?)/\ts 0=.sl id 0 l.length l.length/\ts 3=I (w:Int)/\ts 4=.sl id k (l.length - k) (l.length - k)/\ts 5=I (m:Int)) (l.length - k - 1)
     ⟨1,k,l.map Plc.av,by omega,by omega,by omega,hid,by simp,by rw[hc0,List.length_take]; omega,by rw[hc0,<- List.map_take],fun j _ hj=>avD l hj,fun _ _=>rfl,t0,t3,rfl,rfl⟩ ?_
    clear t0 t3
    rintro n ih ts H1 ⟨m,w,rs,hn,hm1,hw,hr,hrl,hwl,hrt,hrd,hoth,t0,t3,t4,t5⟩
    refine FW.inLoop ?_
    by_cases hlt2:k+m < l.length
    ·have hd2:decide ((m:Int) < ((l.length - k:Nat):Int))=true:=zT (by omega);have g1:=hrd (k+m) (by omega) hlt2;have g2:=hrd (k+(m - 1)) (by omega) (by omega);have b1:k+m < rs.length:=by omega
     have b2:k+(m - 1) < rs.length:=by omega
     have hm':((m:Int) - 1).toNat=m - 1:=by omega
     have w1:=zAl (n:=(m:Int) - 1) (by omega) (by omega);have w2:=zAl (n:=(m:Int)+1) (by omega) (by omega);have w3:=zAl (n:=(w:Int)+1) (by omega) (by omega);have hcs:zCz default l (k+m+1)=if l.getD (k+m) default=l.getD (k+(m - 1)) default then zCz default l (k+m) else zCz default l (k+m)++[l.getD (k+m) default]:=by
      obtain⟨q,hq⟩:∃ q,k+m=q+1:=⟨k+m - 1,by omega⟩;rw[hq,show k+(m - 1)=q by omega];rfl
     have heq:=Plc.eq (l.getD (k+m) default) (l.getD (k+(m - 1)) default);have g3:=hrd w (Nat.le_refl _) (by omega);have b3:w < rs.length:=by omega
     generalize hx:l.getD (k+m) default=x at *
     generalize l.getD (k+(m - 1)) default=y at *
     generalize l.getD w default=z at g3
     have c1:=Plc.cells x;have c2:=Plc.cells y;have c3:=Plc.cells z
     by_cases hs2:x=y
     ·rw[zT hs2]at heq;rw[if_pos hs2]at hcs;simp only[Plc.av]at heq;refine goN ?_;simp only[push_cast,seval,↓kw2,t0,t3,t4,t5,hr,hd2,g1,g2,b1,b2,hm',w1,w2,c1,c2,heq,Int.toNat_natCast,zAn]
      repeat (refine⟨by omega,?_⟩)
      exact ih (n - 1) (by omega) _ _ ⟨m+1,w,rs,by omega,by omega,by omega,hr,hrl,by rw[<- Nat.add_assoc,hcs]; exact hwl,by rw[<- Nat.add_assoc,hcs]; exact hrt,hrd,hoth,t0,t3,t4,rfl⟩
     ·rw[zF hs2]at heq;rw[if_neg hs2]at hcs;simp only[Plc.av]at heq;refine goN ?_;simp only[push_cast,seval,↓kw2,t0,t3,t4,t5,hr,hd2,g1,g2,g3,b1,b2,b3,hm',w1,w2,w3,c1,c2,c3,heq,Int.toNat_natCast,zAn,Plc.av]
      repeat (refine⟨by omega,?_⟩)
      exact ih (n - 1) (by omega) _ _ ⟨m+1,w+1,rs.set w x.av,by omega,by omega,by omega,zS (zAc hr),by rw[List.length_set]; exact hrl,by rw[<- Nat.add_assoc,hcs,List.length_append,List.length_singleton,<- hwl],
       by
        rw[<- Nat.add_assoc,hcs,List.map_append,<- hrt,List.take_add_one,zS b3,List.take_set_of_le (Nat.le_refl _)];rfl,
       fun j h1 h2=>by
        rw[List.getD_eq_getElem?_getD,zQ (by omega),<- List.getD_eq_getElem?_getD];exact hrd j (by omega) h2,
       fun j hj=>by rw[zQ (fun e=>hj e.symm)]; exact hoth j hj,t0,rfl,t4,rfl⟩
    ·have hd2:decide ((m:Int) < ((l.length - k:Nat):Int))=false:=zF (by omega);have hkm:k+m=l.length:=by omega
     rw[hkm]at hwl hrt;have b4:w+(l.length - w)<=rs.length:=by omega
     have b5:0 < l.length - w:=by omega
     have hset:∀ X,(H1.set id X)[id]?=some X:=fun X=>zS (zAc hr)
     have hwl':w<=l.length:=by omega
     refine goN ?_;simp only[push_cast,seval,↓kw2,t0,t3,t4,t5,hr,hd2,Int.toNat_natCast,zCm,zBi,aClear,b4,b5,hset]
     repeat (refine⟨by omega,?_⟩)
     refine⟨_,rfl,hK _ _ w l.length (hset _) ?_ hwl ?_ hwl' fun j hj=>by rw[zQ (fun e=>hj e.symm)]; exact hoth j hj⟩
     ·simp only[List.length_append,List.length_take,List.length_replicate,List.length_drop]; omega
     ·rw[List.take_append_of_le_length (by rw[List.length_take]; omega),List.take_take,Nat.min_self]; exact hrt
   ·rw[zF hsame]at heq;simp only[Plc.av]at heq;refine goN ?_;simp only[push_cast,seval,↓kw2,t0,t3,hid,hd1,hg1,hg2,hl1,hl2,hk',w1,c1,c2,heq,Int.toNat_natCast,zAn,hlt]
    repeat (refine⟨by omega,?_⟩)
    rw[zAl (n:=(k:Int)+1) (by omega) (by omega)];refine ih (n - 1) (by omega) _ _ ⟨k+1,by omega,by omega,fun j h1 h2=>?_,rfl,t0,rfl⟩
    rcases Nat.lt_or_ge j k with h3 | h3
    ·exact hne j h1 h3
    ·have:j=k:=by omega
     subst this; exact hsame
  ·have hd1:decide ((k:Int) < (l.length:Int))=false:=by simp; omega
   refine goN ?_;simp only[push_cast,seval,↓kw2,t0,t3,hd1];have hc:=compL_all default l l.length (Nat.le_refl _) fun j a b=>hne j a (by omega)
   exact⟨_,rfl,hK H' _ _ _ hid (by simp) (by rw[hc]; simp) (by rw[hc,<- List.map_take]) (Nat.le_refl _) fun _ _=>rfl⟩
inductive SegP(H:List AO):AV->List Plc->Prop
 | nil:SegP H (.c (.slice none 0 0)) []
 | row {id n cap:Nat} {rs:List AV} {l:List Plc} (h:H[id]?=some (.arr 9 rs)) (hn:n=l.length) (hr:n<=rs.length) (hc:n<=cap) (ht:rs.take n=l.map Plc.av):SegP H (.sl id 0 n cap) l
theorem SegP.get{rs:List AV}{l:List Plc}{n:Nat}(hn:n=l.length)(ht:rs.take n=l.map Plc.av){j:Nat}(hj:j < n):rs.getD j .un=(l.getD j default).av:=by
 have h1:=avD l (by omega:j < l.length);rw[<- ht]at h1;rw[<- h1,List.getD_eq_getElem?_getD,List.getD_eq_getElem?_getD,List.getElem?_take_of_lt hj]
def rawL(a b c:Int)(w:Wnt):List Plc:=w.turns.flatMap (plL a b c)
theorem plAt_le(a b c:Int)(w:Wnt)(m:Int):(plAt a b c w m).length<=1:=by unfold plAt; split <;> simp
theorem plL_le{a b c:Int}(hd:okD a b c)(w:Wnt):(plL a b c w).length<=4096:=by
 have h1:=upto_le (plAt a b c w) 1 (a*b*c).toNat 0 (fun m _ _=>plAt_le a b c w m);have h2:=zBx hd;unfold plL;omega
theorem plL_ok{a b c:Int}{w:Wnt}{x:Plc}(h:x∈plL a b c w):x.ok a b c:=by
 obtain⟨m,_,_,hm⟩:=mem_upto h;unfold plAt at hm
 split at hm
 ·rename_i hk;rw[List.mem_singleton]at hm;rw[hm]; exact hk
 ·simp at hm
theorem raw_ok{a b c:Int}{w:Wnt}{x:Plc}(h:x∈rawL a b c w):x.ok a b c:=by
 obtain⟨t,_,ht⟩:=List.mem_flatMap.1 h;exact plL_ok ht
def Rises(a b c:Int)(l:List Plc):Prop:=l.Pairwise fun x y=>Plc.cmp a b c x y < 0
theorem comp_rises{a b c:Int}{l:List Plc}(hok:∀ x∈l,x.ok a b c)(hs:∀ i j,i < j->j < l.length->¬ Plc.cmp a b c (l.getD j default) (l.getD i default) < 0):Rises a b c (zCz default l l.length) :=
 (compL_sorted default l (fun x y=>Plc.cmp a b c x y < 0) hs (fun x hx y hy h1 h2=>Plc.zero (hok x hx) (hok y hy) (by have:=Plc.neg a b c x y; unfold Neg at this; omega))
  (fun x _ y _ z _ h1 h2=>by have h3:=Plc.tri a b c x y z; have h4:=Plc.neg a b c y z; unfold Tri3 at h3; unfold Neg at h4; omega) l.length (Nat.le_refl _)).1
theorem Rises.ext{a b c:Int}{l m:List Plc}(h1:Rises a b c l)(h2:Rises a b c m)(h:∀ x,x∈l ↔ x∈m):l=m :=
 sorted_ext (fun x y=>Plc.cmp a b c x y < 0) (fun x=>by rw[Plc.self]; omega) (fun x _ y _ h3 h4=>by have:=Plc.neg a b c x y; unfold Neg at this; omega) h1 h2 h
def wholeL(a b c:Int)(w:Wnt):List Plc :=
 let l:=(rawL a b c w).mergeSort fun x y=>decide (Plc.cmp a b c x y<=0)
 zCz default l l.length
theorem whole_mem{a b c:Int}{w:Wnt}{x:Plc}:x∈wholeL a b c w ↔ x∈rawL a b c w:=by
 unfold wholeL;rw[compL_mem _ _ _ (Nat.le_refl _),List.take_length,List.mem_mergeSort]
theorem whole_rises(a b c:Int)(w:Wnt):Rises a b c (wholeL a b c w):=by
 unfold wholeL;refine comp_rises (fun x hx=>raw_ok (List.mem_mergeSort.1 hx)) ?_;have hp:=List.pairwise_mergeSort (le:=fun x y:Plc=>decide (Plc.cmp a b c x y<=0)) (fun x y z h1 h2=>by
  have h1':=of_decide_eq_true h1;have h2':=of_decide_eq_true h2;refine zT ?_;have:=Plc.tri a b c x y z;unfold Tri3 at this;omega) (fun x y=>by
  have:=Plc.neg a b c x y;unfold Neg at this
  by_cases h:Plc.cmp a b c x y<=0
  ·simp[h]
  ·have:Plc.cmp a b c y x<=0:=by omega
   simp[this]) (rawL a b c w)
 intro i j hij hj
 rw[List.pairwise_iff_getElem]at hp;have h1:=of_decide_eq_true (hp i j (by omega) hj hij);have e:∀ {l:List Plc} q (h:q < l.length),l.getD q default=l[q]:=fun q h=>by simp[List.getD,h]
 rw[e j hj,e i (by omega)];have:=Plc.neg a b c (((rawL a b c w).mergeSort fun x y=>decide (Plc.cmp a b c x y<=0))[i]) (((rawL a b c w).mergeSort fun x y=>decide (Plc.cmp a b c x y<=0))[j]);unfold Neg at this;omega
def Plc.enc(a:Plc):List Value:=[.int .i64 a.x,.int .i64 a.y,.int .i64 a.z,.int .i64 a.p,.int .i64 a.q,.int .i64 a.r,.bool a.s,.bool a.t,.bool a.u]
theorem callableSP:zDv zP 178:=⟨_,Tryz.func178,rfl,by decide⟩
theorem compactN{H:List AO}{K:AV->List AO->Prop}(hK:K (.c (.slice none 0 0)) H):AC zP GG 180 [.c (.slice none 0 0)] H K:=by
 refine goE e180 TOk.nil 0 ?_;simp only[push_cast,seval,↓kw2];exact⟨_,rfl,hK⟩
theorem e109:Ent zP 109 Tryz.f109 [] 2:=.mk Tryz.func109 rfl
theorem whole_ac{a b c:Int}(hd:okD a b c)(w:Wnt)(hw:okW w.p w.q w.r){H:List AO}{K:AV->List AO->Prop}(hK:∀ H' s,SegP H' s (wholeL a b c w)->(wholeL a b c w=[]->s=.c (.slice none 0 0))->(∀ j,j < H.length->H'[j]?=H[j]?)->(∀ j,zAw s=some j->H.length<=j)->K s H') :
  AC zP GG 109 [.agg [I a,I b,I c],w.av] H K:=by
 have hT:=turnsA_pur w hw;have hTl:=w.turns_len;show AC zP GG 109 [.agg [I a,I b,I c],WT w.p w.q w.r w.s w.t w.u w.v] H K;refine goE e109 S5_ok 0 ?_;simp only[push_cast,seval,↓kw2,zAd,getA,setA,zAe];refine AC.pur hT ?_;refine goW S5_ok [] 0 ?_;simp only[push_cast,seval,↓kw2,zAd,getA];refine FW.loopInv (fun l ts H1=>∃(i:Nat) (es:List Plc) (s:AV),i+l=w.turns.length/\es++(w.turns.drop i).flatMap (plL a b c)=rawL a b c w/\es.length<=i*4096/\OwnK 9 H1 s (es.map Plc.av)/\(∀ j,zAw s=some j->H.length+2<=j)/\(∀ j,j < H.length->H1[j]?=H[j]?) /\
  H1[H.length]?=some (.cells [I a,I b,I c])/\H1[H.length+1]?=some (.cells [I w.p,I w.q,I w.r,B w.s,B w.t,B w.u,B w.v])/\ts 2=.ptr H.length 0/\ts 3=.ptr (H.length+1) 0/\ts 5=s/\ts 15=.isl (w.turns.map Wnt.av)/\ts 16=I (w.turns.length:Int)/\ts 17=I (i:Int)) w.turns.length
  ⟨0,[],.c (.slice none 0 0),by omega,rfl,by simp,.nil,(fun j hj=>(by cases hj)),(fun j hj=>zL hj),(by rw[zAd]; rfl),(by rw[getA]; rfl),rfl,rfl,rfl,rfl,(by rw[<- zM (f:=Wnt.av)]; rfl),rfl⟩ ?_
 rintro l ih ts H1 ⟨i,es,s,hi,hes,hel,hown,hs,hoth,g0,g1,t2,t3,t5,t15,t16,t17⟩
 refine FW.inLoop ?_;have hl0:=zAc g1
 by_cases hlt:i < w.turns.length
 ·have hd1:decide ((i:Int) < (w.turns.length:Int))=true:=by simp[hlt]
  have hgd:(w.turns.map Wnt.av).getD i .un=(w.turns.getD i default).av:=zAj Wnt.av w.turns default hlt;rw[zBa default hlt,List.flatMap_cons]at hes;have hi1:=zAl (n:=(i:Int)+1) (by omega) (by omega)
  generalize w.turns.getD i default=x at hgd hes
  have hcl:=Wnt.cells x;have hp4:=plL_le hd x;have q0:∀ X,(H1++X)[H.length]?=some (.cells [I a,I b,I c]):=fun X=>by rw[zL (by omega)]; exact g0
  refine goW S5_ok [] 0 ?_;simp only[push_cast,seval,↓kw2,t2,t3,t5,t15,t16,t17,hd1,hgd,hcl,q0,zM,Int.toNat_natCast,zAd,getA,setA,zAe]
  repeat (refine⟨by omega,?_⟩)
  refine appendP hd x (es:=es) (hown.append _) (by omega) ?_
  intro H2 s2 hown2 hoth2 hs2
  simp only[List.length_append,List.length_singleton]at hoth2 hs2;have hns:∀ j,j < H.length+2->zAw s≠some j:=fun j hj e=>by have:=hs j e; omega
  have hk2:∀ j,j < H.length+2->H2[j]?=H1[j]?:=fun j hj=>by rw[hoth2 j (by omega) (hns j hj),zL (by omega)]
  refine goW S5_ok [] 0 ?_;simp only[push_cast,seval,↓kw2,t17,hi1];exact ih (l - 1) (by omega) _ _ ⟨i+1,es++plL a b c x,s2,by omega,by rw[<- hes]; simp,by rw[List.length_append,Nat.succ_mul]; omega,hown2,fun j hj=>by
   rcases hs2 with rfl | hs2
   ·exact hs j hj
   ·have:=hs2 j hj; omega,fun j hj=>(hk2 j (by omega)).trans (hoth j hj),(hk2 _ (by omega)).trans g0,(hk2 _ (by omega)).trans g1,t2,t3,rfl,t15,t16,rfl⟩
 ·have hd1:decide ((i:Int) < (w.turns.length:Int))=false:=by simp; omega
  rw[List.drop_eq_nil_of_le (by omega),List.flatMap_nil,List.append_nil]at hes;subst hes;refine goW S5_ok [] 0 ?_;simp only[push_cast,seval,↓kw2,t2,t3,t5,t16,t17,hd1,g0];refine AC.pur (pcompare_pur a b c) ?_;refine goW S5_ok [] 0 ?_;simp only[push_cast,seval,↓kw2,t5];have hok:=fun x (hx:x∈rawL a b c w)=>raw_ok hx
  generalize hees:(rawL a b c w).map Plc.av=ees at hown
  cases hown with
  | nil =>
   have hr0:rawL a b c w=[]:=by simpa using hees
   refine AC.sortNone callableSP sortsNoneP ?_;refine goW S5_ok [] 0 ?_;simp only[push_cast,seval,↓kw2,t5];refine compactN ?_;refine goW S5_ok [] 0 ?_;simp only[push_cast,seval,↓kw2];have hw0:wholeL a b c w=[]:=by unfold wholeL; rw[hr0]; simp[zCz]
   exact⟨_,rfl,hK _ _ (by rw[hw0]; exact .nil) (fun _=>rfl) hoth (fun j hj=>(by cases hj))⟩
  | row hid hl1 =>
   rename_i id;subst hees;rw[zM]at hl1;refine AC.sortBy (α:=Plc) callableSP sortsP Plc.enc (fun _=>rfl) (fun x v hv=>?_) (Plc.cmp a b c) (n:=1) (caps:=[.iptr [I a,I b,I c] 0]) (caps':=[.iptr [I a,I b,I c] 0]) default hid (by simp) (by simpa using hl1) (Nat.le_refl _) (by simp; omega) rfl rfl ggp
    (fun x _=>by rw[Plc.self]; omega) (fun x _ y _ z _ h1 h2=>(Plc.tri a b c x y z).1 h1 (by omega)) (fun x _ y _ z _ h1 h2=>by have:=Plc.tri a b c x y z; unfold Tri3 at this; omega) (fun x _ y _=>pcmp_pur a b c x y) ?_
   ·simp only[Plc.enc,List.mem_cons,List.not_mem_nil,or_false]at hv
    rcases hv with rfl | rfl | rfl | rfl | rfl | rfl | rfl | rfl | rfl <;> rfl
   ·intro l' hp' hs'
    refine goW S5_ok [] 0 ?_;simp only[push_cast,seval,↓kw2,t5];have hid2:(H1.set id (.arr 9 (l'.map (enA Plc.enc))))[id]?=some (.arr 9 (l'.map Plc.av)):=zS (zAc hid);have hle:=hp'.length_eq;have hil:=hs id rfl;rw[zM,<- hle];refine compactP hid2 (by omega) (by omega) ?_
    intro H3 rs n cap h3 hrl hn hrt hcap hoth3
    refine goW S5_ok [] 0 ?_;simp only[push_cast,seval,↓kw2];have hwhole:zCz default l' l'.length=wholeL a b c w:=Rises.ext (comp_rises (fun x hx=>hok x (hp'.mem_iff.1 hx)) hs') (whole_rises a b c w) fun x=>by
     rw[compL_mem _ _ _ (Nat.le_refl _),List.take_length,whole_mem]; exact hp'.mem_iff
    have hcl:=compL_le default l' l'.length;rw[hwhole]at hn hrt hcl;exact⟨_,rfl,hK _ _ (.row h3 hn (by omega) hcap hrt) (fun h0=>(by
     have hx:(rawL a b c w).getD 0 default∈rawL a b c w:=by simp[List.getD,hl1]
     have:=whole_mem.2 hx;rw[h0]at this;simp at this)) (fun j hj=>by rw[hoth3 j (by omega),zQ (by omega)]; exact hoth j hj) (fun j hj=>by cases hj; omega)⟩
def jnL(f:Int->Int->Int)(xs ys:List Int)(i:Nat):List Int:=List.zipWith f (xs.take i) (ys.take i)++xs.drop i
theorem jnL_length{f:Int->Int->Int}{xs ys:List Int}(h:xs.length=ys.length){i:Nat}:(jnL f xs ys i).length=xs.length:=by
 unfold jnL;rw[List.length_append,List.length_zipWith,List.length_take,List.length_take,List.length_drop]; omega
theorem jnL_step{f:Int->Int->Int}{xs ys:List Int}(h:xs.length=ys.length){i:Nat}(hi:i < xs.length):(jnL f xs ys i).getD i 0=xs.getD i 0/\(jnL f xs ys i).set i (f (xs.getD i 0) (ys.getD i 0))=jnL f xs ys (i+1):=by
 have hl:(List.zipWith f (xs.take i) (ys.take i)).length=i:=by rw[List.length_zipWith,List.length_take,List.length_take]; omega
 have hd:=zBa 0 hi
 constructor
 ·unfold jnL;rw[List.getD_eq_getElem?_getD,List.getElem?_append_right (by omega),hl,Nat.sub_self,hd];rfl
 ·unfold jnL;rw[List.set_append_right _ _ (by omega),hl,Nat.sub_self,hd,List.set_cons_zero,zCf 0 hi,zCf 0 (by omega:i < ys.length),List.zipWith_append (by rw[List.length_take,List.length_take]; omega)];simp
theorem jnL_all{f:Int->Int->Int}{xs ys:List Int}(h:xs.length=ys.length):jnL f xs ys ys.length=List.zipWith f xs ys:=by
 unfold jnL;rw[List.take_of_length_le (by omega),List.take_of_length_le (by omega),List.drop_eq_nil_of_le (by omega),List.append_nil]
theorem joined_ok(n:Int){g:Nat}{f:Int->Int->Int}(hg:∀ x y,Pur zP GG g [U x,U y] (U (f x y))){xs ys:List Int}(hx:∀ w∈xs,inU w)(hy:∀ w∈ys,inU w)(hlen:xs.length=ys.length)(h0:0 < xs.length)(hl:xs.length<=2^16)
  (p1:Pur zP GG 107 [I n,.isl (xs.map U)] (I 0)) (p2:Pur zP GG 107 [I n,.isl (ys.map U)] (I 0)) :
  Pur zP GG 105 [I n,.isl (xs.map U),.isl (ys.map U),.fn g [] []] (.tup [.isl ((List.zipWith f xs ys).map U),I 0]):=by
 refine goQ e105 TOk.nil 0 ?_ (by simp[AV.purL,AV.pur,zAi U _ (fun _=>rfl)]);simp only[push_cast,seval,↓kw2];refine checked_ac p1 p2 (IsSet.isl hx) (IsSet.isl hy) rfl ?_;rw[if_pos rfl];refine goN ?_;simp only[push_cast,seval,↓kw2];refine clone_fresh h0 hl _ _ ?_;refine goN ?_;simp only[push_cast,seval,↓kw2];refine FW.loopInv (fun l ts H=>∃(i:Nat),i+l=ys.length/\H=[.arr 1 [.isl (xs.map U),.isl (ys.map U)],.arr 1 ((jnL f xs ys i).map U)]/\ts 3=.fn g [] [] /\
  ts 11=.sl 1 0 (xs.map U).length (xs.map U).length/\ts 24=.isl (ys.map U)/\ts 25=I (ys.map U).length/\ts 26=I (i:Int)) ys.length
  ⟨0,by omega,rfl,rfl,rfl,rfl,rfl,rfl⟩ ?_
 rintro l ih ts H ⟨i,hi,rfl,t3,t11,t24,t25,t26⟩
 rw[zM]at t25 t11;refine FW.inLoop ?_
 by_cases hlt:i < ys.length
 ·have hd1:decide ((i:Int) < (ys.length:Int))=true:=by simp[hlt]
  have hjl:=jnL_length (f:=f) hlen (i:=i);obtain⟨hs1,hs2⟩:=jnL_step (f:=f) hlen (by omega:i < xs.length);have hiw:i < (jnL f xs ys i).length:=by omega
  have hgy:=zAj U ys 0 hlt;have hgw:=zAj U (jnL f xs ys i) 0 hiw;rw[hs1]at hgw;have hset:((jnL f xs ys i).map U).set i (U (f (xs.getD i 0) (ys.getD i 0)))=(jnL f xs ys (i+1)).map U:=by rw[<- hs2,List.map_set]
  obtain⟨l,rfl⟩:∃ l',l=l'+1:=⟨l - 1,by omega⟩
  generalize hA:jnL f xs ys i=A at hjl hiw hgw hset
  refine goN ?_;simp only[push_cast,seval,↓kw2,t3,t11,t24,t25,t26,hd1,hiw,hgy,hgw,zM,Int.toNat_natCast]
  repeat (refine⟨by omega,?_⟩)
  refine AC.pur (hg _ _) ?_;refine goN ?_;simp only[push_cast,seval,↓kw2,t11,t26,hiw,hgw,zM,Int.toNat_natCast,hset];rw[zAl (n:=(i:Int)+1) (by omega) (by omega)]
  repeat (refine⟨by omega,?_⟩)
  exact ih l (by omega) _ _ ⟨i+1,by omega,rfl,t3,by rw[zM]; exact t11,t24,by rw[zM]; exact t25,rfl⟩
 ·have hd1:decide ((i:Int) < (ys.length:Int))=false:=by simp; omega
  have hl:i=ys.length:=by omega
  subst hl;refine goN ?_;simp only[push_cast,seval,↓kw2,t11,t25,t26,hd1];rw[jnL_all hlen];have hzl:(List.zipWith f xs ys).length=xs.length:=by rw[List.length_zipWith]; omega
  have hown:Own [.arr 1 [.isl (xs.map U),.isl (ys.map U)],.arr 1 ((List.zipWith f xs ys).map U)] (.sl 1 0 xs.length xs.length) ((List.zipWith f xs ys).map U):=by
   have:=Own.row (H:=[.arr 1 [.isl (xs.map U),.isl (ys.map U)],.arr 1 ((List.zipWith f xs ys).map U)]) (id:=1) (es:=(List.zipWith f xs ys).map U) rfl (by rw[zM]; omega);rw[zM,hzl]at this;exact this
  obtain⟨m',hm'⟩:=hown.done2 (v:=I 0) (zAi U _ (fun _=>rfl)) rfl;exact⟨_,rfl,m',by rw[hm',frS_ne (by rw[zM]; omega)]⟩
theorem zCo{f:Int->Int->Int}(hf:∀ x y,inU (f x y))(xs ys:List Int):∀ w∈List.zipWith f xs ys,inU w:=by
 intro w hw
 rw[List.zipWith_eq_zipWith_take_min]at hw;obtain⟨i,hi,rfl⟩:=List.getElem_of_mem hw;rw[List.getElem_zipWith];exact hf _ _
theorem e62:Ent zP 62 Tryz.f62 [] 3:=.mk Tryz.func62 rfl
theorem and_ok(n:Int){xs ys:List Int}(hx:∀ w∈xs,inU w)(hy:∀ w∈ys,inU w)(hlen:xs.length=ys.length)(h0:0 < xs.length)(hl:xs.length<=2^16)
  (p1:Pur zP GG 107 [I n,.isl (xs.map U)] (I 0)) (p2:Pur zP GG 107 [I n,.isl (ys.map U)] (I 0)) :
  Pur zP GG 62 [I n,.isl (xs.map U),.isl (ys.map U)] (.tup [.isl ((List.zipWith andW xs ys).map U),I 0]):=by
 refine goQ e62 TOk.nil 0 ?_ (by simp[AV.purL,AV.pur,zAi U _ (fun _=>rfl)]);simp only[push_cast,seval,↓kw2];refine AC.pur (joined_ok n andw_pur hx hy hlen h0 hl p1 p2) ?_;refine goN ?_;simp only[push_cast,seval,↓kw2];have hz:=zAi U (List.zipWith andW xs ys) (fun _=>rfl);exact⟨_,rfl,zAa (by simp only[AV.pur,AV.purL,hz,Bool.and_true]) rfl⟩
noncomputable def manyW (ws:List Int):Int:=ws.foldl addV 0
theorem smany_ok(n:Int){ws:List Int}(lw:ws.length<=2^16)(p:Pur zP GG 107 [I n,.isl (ws.map U)] (I 0)):Pur zP GG 183 [I n,.isl (ws.map U)] (.tup [I (manyW ws),I 0]):=by
 refine goQ e183 zCi 0 ?_ (by simp[AV.purL,AV.pur,zAi U _ (fun _=>rfl)]);simp only[push_cast,seval,↓kw2];refine AC.pur p ?_;refine goW zCi [] 0 ?_;simp only[push_cast,seval,↓kw2];refine FW.loopInv (fun l ts H=>∃(i:Nat) (acc:Int),i+l=ws.length/\(ws.drop i).foldl addV acc=manyW ws/\ts 4=I acc/\ts 5=I 0/\ts 13=.isl (ws.map U)/\ts 14=I (ws.map U).length/\ts 15=I (i:Int)) ws.length
  ⟨0,0,by omega,rfl,rfl,rfl,rfl,rfl,rfl⟩ ?_
 rintro l ih ts H ⟨i,acc,hi,hes,t4,t5,t13,t14,t15⟩
 rw[zM]at t14;refine FW.inLoop ?_
 by_cases hlt:i < ws.length
 ·have hd1:decide ((i:Int) < (ws.length:Int))=true:=by simp[hlt]
  have hgd:=zAj U ws 0 hlt;obtain⟨l,rfl⟩:∃ l',l=l'+1:=⟨l - 1,by omega⟩;rw[zBa 0 hlt]at hes
  generalize ws.getD i 0=w at hgd hes
  refine goW zCi [] 0 ?_;simp only[push_cast,seval,↓kw2,t4,t5,t13,t14,t15,hd1,hgd,zM,Int.toNat_natCast];refine⟨by omega,?_⟩;refine AC.pur (onesV_pur w) ?_;refine goW zCi [] 0 ?_;simp only[push_cast,seval,↓kw2,t15];rw[zAl (n:=(i:Int)+1) (by omega) (by omega)];exact ih l (by omega) _ _ ⟨i+1,addV acc w,by omega,by rw[<- hes]; rfl,rfl,t5,t13,by rw[zM]; exact t14,rfl⟩
 ·have hd1:decide ((i:Int) < (ws.length:Int))=false:=by simp; omega
  refine goW zCi [] 0 ?_;simp only[push_cast,seval,↓kw2,t4,t5,t14,t15,hd1];rw[List.drop_eq_nil_of_le (by omega)]at hes;have hes':acc=manyW ws:=hes;exact⟨_,rfl,zAa rfl (by rw[hes'])⟩
end Go.Ab.Pd
