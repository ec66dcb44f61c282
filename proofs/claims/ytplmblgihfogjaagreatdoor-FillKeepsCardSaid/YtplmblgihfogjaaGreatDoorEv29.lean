/- A text of this claim. -/
import Derived.Test.YtplmblgihfogjaaGreatDoorEv21
import Derived.Test.YtplmblgihfogjaaGreatDoorEv16
import Derived.Shelf.SlSortCmp.NoneTotal
set_option maxHeartbeats 40000000
set_option maxRecDepth 400000
set_option linter.all false
namespace Go.Ab
open Go.Sort Go.Proofs Go.RowKit
def SortsBy(P:Program)(f:FuncId)(k:Nat):Prop :=
 ∀(α:Type) [Inhabited α] (enc:α->List Value) (_:∀ x,(enc x).length=k) (_:∀ x,∀ v∈enc x,v.oneCell'=true) (cf:α->α->Int) (_:SWO (ltOf cf)) (g:Nat) (cb:Array Value) (blk off cap:Nat) (d:Array α) (w:World)
  (_:∀ args w,(callFunc g args).run P w=.ok (.enter g args) w) (_:CmpLays P g cb enc k cf blk off d.size w) (_:HoldsK enc k w blk off d) (_:blk < w.heap.size) (_:d.size < 4611686018427387904),
  Calls P f #[.slice (some ⟨blk,off,none⟩) d.size cap,.func (.func g) #[] cb] w fun e w' =>
   e=.returned (.tuple #[])/\∃ d' n os,PermIn 0 d.size d d'/\SortedIn (ltOf cf) 0 d.size d'/\w'=sortWorldK enc k w blk off n d' os
theorem plain_oneCell{v:Value}(h:plain v=true):v.oneCell'=true:=by
 cases v <;> simp_all [plain,Value.oneCell']
variable {P:Program} {G:Gl} {α:Type}
abbrev enA(enc:α->List Value)(x:α):AV:=.agg ((enc x).map .c)
theorem callable_enters{g:FuncId}(h:zDv P g):∀ args w,(callFunc g args).run P w=.ok (.enter g args) w:=by
 obtain⟨fn,h1,h2,h3⟩:=h;obtain⟨b,hb⟩:=Option.isSome_iff_exists.1 h2;exact enters_of h1 h3 hb
theorem grow_of{w w':World}{H H':List AO}{E E':En}(hg:Grow [] E w H' E' w'):∃ q os,w'=grow (w.drewN q) os:=by
 have hnl:∀ b,¬ Live [] E b:=by rintro b ⟨id,o,l,ho,_⟩; simp at ho
 refine⟨w'.drawn - w.drawn,w'.heap.extract w.heap.size w'.heap.size,?_⟩;obtain⟨heap,tape,drawn,os,output⟩:=w';obtain⟨heap0,tape0,drawn0,os0,output0⟩:=w;have h1:=hg.os;have h2:=hg.tape;have h3:=hg.output.out;have h4:=hg.output.drawn;have h5:=hg.size;have h6:=fun b hb=>hg.same b hb (hnl b)
 simp only at h1 h2 h3 h4 h5 h6;subst h1 h2 h3;unfold grow World.drewN;simp only[World.mk.injEq,true_and,and_true];refine⟨?_,by omega⟩;apply Array.ext_getElem?
 intro b
 rcases Nat.lt_or_ge b heap0.size with hb | hb
 ·rw[h6 b hb,Array.getElem?_append_left hb]
 ·rw[Array.getElem?_append_right hb,Array.getElem?_extract]
  by_cases hb2:b < heap.size
  ·rw[if_pos (by omega)]
   congr 1; omega
  ·rw[if_neg (by omega),Array.getElem?_eq_none (by omega)]
theorem AC.sortBy0[Inhabited α]{f g:FuncId}(hf:zDv P f){k:Nat}(hS:SortsBy P f k)(enc:α->List Value)(hk:∀ x,(enc x).length=k)(hpl:∀ x,∀ v∈enc x,plain v=true)(cf:α->α->Int)(hO:SWO (ltOf cf))
  {H:List AO} {id cap len n:Nat} {caps caps':List AV} {l:List α} (hid:H[id]?=some (.arr k (l.map (enA enc)))) (hl:l.length=len) (h0:0 < len) (hc:len<=cap) (hsz:len < 4611686018427387904)
  (hcb:mapO (frz n (H.set id .dead)) caps=some caps') (hpc:AV.purL caps'=true) (hGp:GPure G)
  (hcmp:∀ x y,Pur P G g ([enA enc x,enA enc y]++caps') (.c (.int .i64 (cf x y))))
  {K:AV->List AO->Prop} (hK:∀ l':List α,l'.Perm l->(∀ i j,i < j->j < l'.length->ltOf cf (l'.getD j default) (l'.getD i default)=false)->K (.tup []) (H.set id (.arr k (l'.map (enA enc))))) :
  AC P G f [.sl id 0 len cap,.fn g [] caps] H K:=by
 refine⟨hf,fun E w vargs hH hA cs=>?_⟩;obtain⟨hn,hA⟩:=hA;have hv:=hA 0 (by simp);have hv2:=hA 1 (by simp);have hvs:vargs=#[vargs.getD 0 undef,vargs.getD 1 undef]:=by
  have h1:vargs.size=2:=hn;apply Array.ext
  ·simpa using h1
  ·intro i h2 h3
   have:i=0\/i=1:=by simp at h3; omega
   rcases this with rfl | rfl <;> simp[Array.getD,h1]
 rw[hvs]
 generalize vargs.getD 0 undef=x at hv
 generalize vargs.getD 1 undef=y at hv2
 simp only[List.getD,List.getElem?_cons_zero,List.getElem?_cons_succ,Option.getD_some]at hv hv2;cases hv2 with
 | fn q1 q2 q3 q4 =>
 rename_i vs us;have hvs0:vs=#[]:=by simpa using q1
 subst hvs0;cases hv with
 | sl hloc g1 g2 g3 =>
  rename_i lo ad cc;obtain⟨rfl,nn,hrow,hle⟩:=g3 (by omega);obtain⟨l',hl',hszl,c,t,hcell,hs,hr⟩:=hH.obj id _ hid rfl;rw[hloc]at hl'; cases hl';have hszl0:=hszl;rw[hszl]at hle ⊢;simp only[Nat.zero_mul,Nat.add_zero,zM]at hle hs hr ⊢;have hblk:lo.b < w.heap.size:=zBg hcell;subst hl;have hk0:0 < k\/k=0:=by omega
  have hval:∀ i j,i < l.length->j < k->c.getD (lo.base+i*k+j) undef=(enc (l.getD i default)).getD j undef:=fun i j hi hj=>by
   have h1:=((hr i hi).2.2 j hj).2;have e:(l.map (enA enc)).getD i .un=enA enc (l.getD i default):=zAj (enA enc) l default hi;rw[e]at h1;have hj':j < (enc (l.getD i default)).length:=by rw[hk]; exact hj
   have e2:((enA enc (l.getD i default)).cells).getD j .un=.c ((enc (l.getD i default)).getD j undef):=zAj AV.c _ undef hj';rw[e2]at h1;exact h1.c_inv
  have hflat:∀(d:Array α) (q:Nat),q < d.size*k->(flatK enc k d)[q]! = (enc d[q / k]!).getD (q % k) undef:=fun d q hq=>by
   rw[get_flatK enc k d q hq];have k0:0 < k:=(Nat.eq_zero_or_pos k).elim (fun h=>by subst h; simp at hq) (fun h=>h);have:q % k < (enc d[q / k]!).length:=by rw[hk]; exact Nat.mod_lt _ k0
   simp[List.getD,this]
  have hdiv:∀ q,q < l.length*k->q / k < l.length/\q % k < k:=fun q hq=>by
   have k0:0 < k:=(Nat.eq_zero_or_pos k).elim (fun h=>by subst h; simp at hq) (fun h=>h);exact⟨Nat.div_lt_of_lt_mul (by rwa [Nat.mul_comm]at hq),Nat.mod_lt _ k0⟩
  have hH0:HoldsK enc k w lo.b lo.base l.toArray:=fun q hq=>by
   have hq':q < l.length*k:=by simpa using hq
   obtain⟨h1,h2⟩:=hdiv q hq';refine⟨?_,by simp[World.frozen?,hcell]⟩;have hd:=Nat.div_add_mod q k;rw[Nat.mul_comm]at hd;have hb:lo.base+q < c.size:=by omega
   rw[cell?_row' hcell hb,show lo.base+q=lo.base+q / k*k+q % k by omega,hval _ _ h1 h2];have:=hflat l.toArray q (by simpa using hq');rw[id_eq,this];simp[List.getD,h1]
  let E0:En:={ loc:=fun _=>none,fro:=fun b=>E.fro b\/LiveC (H.set id .dead) E b }
  have hdrop:=rel_drop hH id;have hne:∀ b,E0.fro b->b≠lo.b/\∃ c t f,w.heap[b]?=some (.cells c t f):=by
   intro b hb
   have hlv:Live H E lo.b:=⟨id,_,lo,hid,rfl,hloc,rfl⟩
   rcases hb with hb | ⟨j,o,lj,hj,ho,hlj,rfl⟩
   ·exact⟨fun e=>hH.sep b hb (e ▸ hlv),hH.frob b hb⟩
   ·have hjid:j≠id:=fun e=>by
     subst e;rw[zS (List.getElem?_eq_some_iff.1 hid).1]at hj;cases hj; simp[AO.isRow]at ho
    rw[zQ (fun e=>hjid e.symm)]at hj;have hlive:o.live=true:=by cases o <;> first | rfl | (simp[AO.isRow]at ho)
    refine⟨fun e=>hjid (hH.inj j id o _ lj lo hj hlive hid rfl hlj hloc e),?_⟩;obtain⟨l2,hl2,hro⟩:=hH.obj j o hj hlive;rw[hlj]at hl2; cases hl2;cases o with
    | cells cs=>obtain⟨c2,t2,hc2,_⟩:=hro; exact⟨c2,t2,_,hc2⟩
    | arr sz es=>obtain⟨_,c2,t2,hc2,_⟩:=hro; exact⟨c2,t2,_,hc2⟩
    | map es clock=>simp[AO.isRow]at ho
    | mit mid since seen stepped=>simp[AO.isRow]at ho
    | loop al=>simp[AO.isRow]at ho
    | dead=>simp[AO.isRow]at ho
  have hcl:CmpLays P g us enc k cf lo.b lo.base l.toArray.size w:=by
   intro m os dk hdk x y
   have hrowk:(sortWorldK enc k w lo.b lo.base m dk os).heap[lo.b]?=some (.cells (putCells _root_.id lo.base (flatK enc k dk) c) t (0,0)):=by
    unfold sortWorldK grow putRowK putRow mapBlock Sort.ahead;simp only;rw[Array.getElem?_append_left (by simpa using hblk),Array.getElem?_modify,if_pos rfl,hcell];rfl
   have hsame:∀ b,b < w.heap.size->b≠lo.b->(sortWorldK enc k w lo.b lo.base m dk os).heap[b]?=w.heap[b]?:=fun b hb hne'=>by
    unfold sortWorldK grow putRowK putRow mapBlock Sort.ahead;simp only;rw[Array.getElem?_append_left (by simpa using hb),Array.getElem?_modify,if_neg (fun e=>hne' e.symm)]
   have hm:Mono w E0 (sortWorldK enc k w lo.b lo.base m dk os) E0:=⟨fun _ h=>h,fun b hb=>by
     obtain⟨h1,c2,t2,f2,h2⟩:=hne b hb;exact hsame b (zBg h2) h1,fun _ _ h=>h,fun b n' hn'=>by
     by_cases hb:b=lo.b
     ·subst hb;simp only[zAu,hcell]at hn';simp only[zAu,hrowk];simpa[putCells]using hn'
     ·have hbl:b < w.heap.size:=by
       unfold zAu at hn'
       split at hn'
       ·rename_i hh; exact zBg hh
       ·cases hn'
      unfold zAu at *;rw[hsame b hbl hb]; exact hn'⟩
   have hR:RelH G (sortWorldK enc k w lo.b lo.base m dk os) E0 []:=⟨fun i o ho=>by simp at ho,fun i i' o o' l l' ho=>by simp at ho,fun b hb=>by
     obtain⟨h1,c2,t2,f2,h2⟩:=hne b hb;exact⟨c2,t2,f2,(hsame b (zBg h2) h1).trans h2⟩,fun b hb hl=>by
     obtain⟨i,o,l,ho,_⟩:=hl;simp at ho,fun i l hl=>by simp[E0]at hl,fun g' cs' hg=>(RepV.pure (E:=E) (E':=E0) (fun _ h=>.inl h) (hH.gl g' cs' hg) (by simpa[AV.pur]using hGp g' cs' hg)).mono hm⟩
   have hcaps:RepL (sortWorldK enc k w lo.b lo.base m dk os) E0 caps' us:=by
    obtain⟨e1,e2⟩:=zEf hcb;refine⟨by rw[e1]; exact q2,fun i hi=>?_⟩;have hi':i < caps.length:=by omega
    exact(zDh (E':=E0) hdrop.1 (fun _ h=>.inl h) (fun b hb=>.inr hb) n (q4 i hi') (e2 i hi')).mono hm
   have hargs:RepL (sortWorldK enc k w lo.b lo.base m dk os) E0 ([enA enc x,enA enc y]++caps') (#[.agg (enc x).toArray,.agg (enc y).toArray]++us):=by
    have a1:RepV (sortWorldK enc k w lo.b lo.base m dk os) E0 (enA enc x) (.agg (enc x).toArray):=rep_flat (fun v hv=>hpl x v (by simpa using hv));have a2:RepV (sortWorldK enc k w lo.b lo.base m dk os) E0 (enA enc y) (.agg (enc y).toArray):=rep_flat (fun v hv=>hpl y v (by simpa using hv));have hus:us.toList.toArray=us:=by simp
    have:=RepL.cons a1 (vs:=.agg (enc y).toArray::us.toList) (RepL.cons a2 (vs:=us.toList) (by rw[hus]; exact hcaps));rw[show(#[.agg (enc x).toArray,.agg (enc y).toArray]++us:Array Value)=(.agg (enc x).toArray::.agg (enc y).toArray::us.toList).toArray by simp];exact this
   have hp:=hcmp x y [] (fun v _=>v=.c (.int .i64 (cf x y))) rfl
   intro cs'
   obtain⟨v,H',E',w',r,fr,hv,k1,k2,k3,k4,k5,k6⟩:=hp.2 E0 _ _ hR hargs cs';subst hv;have hr':=k3.c_inv;subst hr';exact⟨_,w',fr,⟨rfl,grow_of (H:=[]) k2⟩,k4,k5,k6⟩
  obtain⟨e,w',fr,⟨rfl,d',m,os,hperm,hsorted,rfl⟩,h3,h4,h5⟩:=hS α enc hk (fun x v hv=>plain_oneCell (hpl x v hv)) cf hO g us lo.b lo.base cc l.toArray w (fun args w=>by
   obtain⟨hg,_⟩:=hcmp default default [] (fun _ _=>True) trivial;exact callable_enters hg args w) hcl hH0 hblk (by simpa using hsz) cs
  obtain⟨hsize,_,hpm⟩:=hperm;have hdl:d'.toList.length=l.length:=by simpa using hsize
  have hpm':d'.toList.Perm l:=by
   have e1:d'.extract 0 l.toArray.size=d':=by rw[<- hsize]; exact Array.extract_size
   rw[e1,Array.extract_size]at hpm;simpa using hpm
  have hgd:∀ i,i < d'.toList.length->d'[i]! = d'.toList.getD i default:=fun i hi=>by
   have:i < d'.size:=by simpa using hi
   simp[List.getD,this]
  have hKd:=hK d'.toList hpm' (fun i j hij hj=>by
   have:=hsorted i j (Nat.zero_le _) hij (by simpa[hdl]using(hdl ▸ hj));rw[hgd j hj,hgd i (by omega)]at this;exact this)
  have hA1:=zFk (w':=Sort.ahead w m) hH rfl;have hG1:Grow H E w H E (Sort.ahead w m):=⟨hA1.2,Nat.le_refl _,fun _ _ _=>rfl,fun _ h=>.inl h,fun _ h=>.inl h,rfl,rfl,⟨rfl,Nat.le_add_right _ _⟩⟩;have hpr:(putRowK enc k (Sort.ahead w m) lo.b lo.base d').heap[lo.b]?=some (.cells (putCells _root_.id lo.base (flatK enc k d') c) t (0,0)):=by
   simp[putRowK,putRow,mapBlock,Sort.ahead,Array.getElem?_modify,hcell,onCells]
  have hW:=zBw (w':=putRowK enc k (Sort.ahead w m) lo.b lo.base d') hA1.1 hid rfl hloc (.arr k (d'.toList.map (enA enc))) (by simp[putRowK,Sort.ahead]) (fun b hb=>by
    simp[putRowK,putRow,mapBlock,Array.getElem?_modify,fun e=>hb (Eq.symm e)]
    intro e; exact absurd e.symm hb) (fun n' hn'=>by
    simp only[zAu,hpr];have:(Sort.ahead w m).heap[lo.b]?=some (.cells c t (0,0)):=hcell;simp only[zAu,this]at hn';simpa[putCells]using hn') rfl rfl ⟨rfl,Nat.le_refl _⟩ (fun hm=>⟨hszl0,_,t,hpr,by simp only[zM,putCells,Array.size_mapIdx]; rw[hdl]; exact hs,fun i hi=>by
    have hi':i < d'.toList.length:=by simpa using hi
    have e:(d'.toList.map (enA enc)).getD i .un=enA enc (d'.toList.getD i default):=zAj (enA enc) d'.toList default hi';rw[e];refine⟨rfl,by simp[AV.cells,hk],fun j hj=>?_⟩;have hj':j < (enc (d'.toList.getD i default)).length:=by rw[hk]; exact hj
    have e1:((enA enc (d'.toList.getD i default)).cells).getD j .un=.c ((enc (d'.toList.getD i default)).getD j undef):=zAj AV.c _ undef hj';rw[e1];refine⟨rfl,?_⟩;have hik:i*k+j < l.length*k:=by
     have:(i+1)*k<=l.length*k:=Nat.mul_le_mul_right k (by omega);rw[Nat.add_mul,Nat.one_mul]at this; omega
    have hlt:lo.base+i*k+j < c.size:=by omega
    have e2:(putCells _root_.id lo.base (flatK enc k d') c).getD (lo.base+i*k+j) undef=(enc (d'.toList.getD i default)).getD j undef:=by
     have hq:=hflat d' (i*k+j) (by rw[hsize]; simpa using hik);have hdm:(i*k+j) / k=i:=by
      rw[Nat.add_comm,Nat.add_mul_div_right _ _ (by omega:0 < k),Nat.div_eq_of_lt hj,Nat.zero_add]
     have hmm:(i*k+j) % k=j:=by
      rw[Nat.add_comm,Nat.add_mul_mod_self_right,Nat.mod_eq_of_lt hj]
     rw[hdm,hmm,hgd i hi']at hq;rw[Array.getD_eq_getD_getElem?,putCells,Array.getElem?_mapIdx,Array.getElem?_eq_getElem hlt,Option.map_some,Option.getD_some,if_pos ⟨by omega,by simp[hsize]; omega⟩];rw[show lo.base+i*k+j - lo.base=i*k+j by omega,id_eq,hq]
    rw[e2];refine .c (hpl (d'.toList.getD i default) _ ?_)
    generalize d'.toList.getD i default=zz at hj'
    have e9:(enc zz).getD j undef=(enc zz)[j]:=by rw[List.getD_eq_getElem?_getD,List.getElem?_eq_getElem hj',Option.getD_some]
    rw[e9];exact List.getElem_mem hj'⟩)
  have hg:=rel_grow os.toList hW.1;rw[show os.toList.toArray=os by simp]at hg;exact⟨_,_,E,_,_,fr,hKd,hg.1,(hG1.trans hW.2).trans hg.2,.tup rfl (fun i hi=>by simp at hi),h3,h4,h5⟩
theorem AC.sortBy{f g:FuncId}(hf:zDv P f){k:Nat}(hS:SortsBy P f k)(enc:α->List Value)(hk:∀ x,(enc x).length=k)(hpl:∀ x,∀ v∈enc x,plain v=true)(cf:α->α->Int)
  {H:List AO} {id cap len n:Nat} {caps caps':List AV} {l:List α} (d0:α) (hid:H[id]?=some (.arr k (l.map (enA enc)))) (hl:l.length=len) (h0:0 < len) (hc:len<=cap) (hsz:len < 4611686018427387904)
  (hcb:mapO (frz n (H.set id .dead)) caps=some caps') (hpc:AV.purL caps'=true) (hGp:GPure G)
  (hI:∀ x∈l,¬ cf x x < 0) (hT:∀ x∈l,∀ y∈l,∀ z∈l,cf x y < 0->cf y z < 0->cf x z < 0) (hN:∀ x∈l,∀ y∈l,∀ z∈l,¬ cf x y < 0->¬ cf y z < 0->¬ cf x z < 0)
  (hcmp:∀ x∈l,∀ y∈l,Pur P G g ([enA enc x,enA enc y]++caps') (.c (.int .i64 (cf x y))))
  {K:AV->List AO->Prop} (hK:∀ l':List α,l'.Perm l->(∀ i j,i < j->j < l'.length->¬ cf (l'.getD j d0) (l'.getD i d0) < 0)->K (.tup []) (H.set id (.arr k (l'.map (enA enc))))) :
  AC P G f [.sl id 0 len cap,.fn g [] caps] H K:=by
 have hx0:0 < l.length:=by omega
 let β:={x:α // x∈l}
 let x0:β:=⟨l[0],List.getElem_mem hx0⟩
 have:Inhabited β:=⟨x0⟩;have hm:l.attach.map (fun x:β=>enA enc x.1)=l.map (enA enc):=by
  have h1:l.attach.map (fun x:β=>enA enc x.1)=(l.attach.map (fun x:β=>x.1)).map (enA enc):=by rw[List.map_map]; rfl
  rw[h1];exact congrArg (List.map (enA enc)) (List.attach_map_subtype_val l)
 refine AC.sortBy0 (α:=β) hf hS (fun x=>enc x.1) (fun x=>hk x.1) (fun x=>hpl x.1) (fun x y=>cf x.1 y.1) ⟨fun x=>?_,fun x y z h1 h2=>?_,fun x y z h1 h2=>?_⟩ (l:=l.attach) (by rw[hid]; exact congrArg (fun q=>some (AO.arr k q)) hm.symm) (List.length_attach.trans hl) h0 hc hsz hcb hpc hGp (fun x y=>hcmp x.1 x.2 y.1 y.2) ?_
 ·exact zF (hI x.1 x.2)
 ·exact zT (hT x.1 x.2 y.1 y.2 z.1 z.2 (of_decide_eq_true h1) (of_decide_eq_true h2))
 ·exact zF (hN x.1 x.2 y.1 y.2 z.1 z.2 (of_decide_eq_false h1) (of_decide_eq_false h2))
 ·intro l' hp hs
  have hp':(l'.map (fun x:β=>x.1)).Perm l:=by
   have:=hp.map (fun x:β=>x.1)
   rwa [List.attach_map_subtype_val]at this
  have:=hK (l'.map (fun x:β=>x.1)) hp' (fun i j hij hj=>by
   have hj':j < l'.length:=by simpa using hj
   have h1:=of_decide_eq_false (hs i j hij hj');have e:∀ q,q < l'.length->(l'.map (fun x:β=>x.1)).getD q d0=(l'.getD q default).1:=fun q hq=>by
    simp[List.getD,hq]
   rw[e j hj',e i (by omega)];exact h1)
  rw[List.map_map]at this;exact this
theorem AC.sortNone{f:FuncId}(hf:zDv P f)(hS:∀(p:Option Addr) (cap:Nat) (fv:Value) (w:World),Calls P f #[.slice p 0 cap,fv] w fun e w'=>e=.returned (.tuple #[])/\w'=w){g:AV}{H:List AO}{K:AV->List AO->Prop}(hK:K (.tup []) H) :
  AC P G f [.c (.slice none 0 0),g] H K:=by
 refine⟨hf,fun E w vargs hH hA cs=>?_⟩;obtain⟨hn,hA⟩:=hA;have hv:=hA 0 (by simp);have hvs:vargs=#[vargs.getD 0 undef,vargs.getD 1 undef]:=by
  have h1:vargs.size=2:=hn;apply Array.ext
  ·simpa using h1
  ·intro i h2 h3
   have:i=0\/i=1:=by simp at h3; omega
   rcases this with rfl | rfl <;> simp[Array.getD,h1]
 rw[hvs];simp only[List.getD,List.getElem?_cons_zero,Option.getD_some]at hv;have hx:=hv.c_inv;rw[hx];obtain⟨e,w',fr,⟨rfl,rfl⟩,h3,h4,h5⟩:=hS none 0 (vargs.getD 1 undef) w cs;exact⟨_,_,E,_,_,fr,hK,hH,Grow.refl _ _ _,.tup rfl (fun i hi=>by simp at hi),h3,h4,h5⟩
end Go.Ab
