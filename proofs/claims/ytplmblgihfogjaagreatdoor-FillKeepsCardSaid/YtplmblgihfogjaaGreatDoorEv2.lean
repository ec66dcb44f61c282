/- A text of this claim. -/
import Derived.Test.YtplmblgihfogjaaGreatDoorEv1
import Derived.Laws.Slices
set_option maxHeartbeats 40000000
set_option maxRecDepth 400000
set_option linter.all false
namespace Go.Ab
def aggT(P:Program)(t:TypeId):Option Bool :=
 match P.underlying t with
 | some (.struct _)=>some true
 | some (.array _ _)=>some true
 | some _=>some false
 | none=>none
def szT(P:Program)(t:TypeId):Option Nat:=(P.info? t).map (·.size)
def rdCells(G:Gl)(H:List AO):AV->Nat->Option (List AV)
 | .ptr id off,m=>match H[id]? with
  | some (.cells cs)=>if off+m<=cs.length then some ((cs.drop off).take m) else none
  | _=>none
 | .eptr id i off,m=>match H[id]? with
  | some (.arr sz es)=>if i < es.length/\off+m<=sz then some (((es.getD i .un).cells.drop off).take m) else none
  | _=>none
 | .iptr cs off,m=>if off+m<=cs.length then some ((cs.drop off).take m) else none
 | .gp g off,m=>match G g with
  | some cs=>if off+m<=cs.length then some ((cs.drop off).take m) else none
  | none=>none
 | _,_=>none
theorem zBq{α:Type}(l:List α)(d:α)(off m j:Nat)(hj:j < m)(h:off+m<=l.length):((l.drop off).take m).getD j d=l.getD (off+j) d:=by
 simp only[List.getD,List.getElem?_take,List.getElem?_drop];rw[if_pos hj]
theorem cell?_row{w:World}{b:Nat}{c:Array Value}{t:TypeId}{fz:Nat × Nat}(h:w.heap[b]?=some (.cells c t fz))(o:Nat):w.cell? ⟨b,o,none⟩=c[o]?:=by
 simp[World.cell?,h]
theorem cell?_row'{w:World}{b:Nat}{c:Array Value}{t:TypeId}{fz:Nat × Nat}(h:w.heap[b]?=some (.cells c t fz)){o:Nat}(ho:o < c.size):w.cell? ⟨b,o,none⟩=some (c.getD o undef):=by
 rw[cell?_row h]; simp[Array.getD,ho]
theorem rd_sound{G:Gl}{w:World}{E:En}{H:List AO}(hH:RelH G w E H){a:AV}{p:Value}(ha:RepV w E a p){m:Nat}{cs:List AV}(h:rdCells G H a m=some cs) :
  cs.length=m/\∃ b o,p=.pointer (some ⟨b,o,none⟩)/\∀ j,j < m->∃ v,w.cell? ⟨b,o+j,none⟩=some v/\(cs.getD j .un).isCell=true/\RepV w E (cs.getD j .un) v:=by
 cases ha <;> simp only[rdCells]at h
 case ptr id off l hl =>
  cases ho:H[id]? with
  | none=>rw[ho]at h; simp at h
  | some o =>
   rw[ho]at h;cases o <;> simp only at h <;> try (cases h; done)
   rename_i ds
   split at h
   ·rename_i hle;cases h;obtain⟨l',hl',c,t,hc,hs,hr⟩:=hH.obj id _ ho rfl;rw[hl]at hl'; cases hl';refine⟨by simp; omega,l.b,l.base+off,rfl,fun j hj=>⟨c.getD (l.base+off+j) undef,?_,?_⟩⟩
    ·exact cell?_row' hc (by omega)
    ·rw[zBq _ _ _ _ _ hj hle];have:=hr (off+j) (by omega);rw[show l.base+off+j=l.base+(off+j) by omega];exact this
   ·cases h
 case eptr id i off l hl =>
  cases ho:H[id]? with
  | none=>rw[ho]at h; simp at h
  | some o =>
   rw[ho]at h;cases o <;> simp only at h <;> try (cases h; done)
   rename_i sz es
   split at h
   ·rename_i hle;cases h;obtain⟨l',hl',hsz,c,t,hc,hs,hr⟩:=hH.obj id _ ho rfl;rw[hl]at hl'; cases hl';obtain⟨h1,h2,h3⟩:=hr i hle.1;have hb:i*sz+sz<=es.length*sz:=by
     have:=Nat.mul_le_mul_right sz hle.1;rw[Nat.succ_mul]at this; exact this
    refine⟨by rw[List.length_take,List.length_drop,h2]; omega,l.b,l.base+i*l.sz+off,rfl,fun j hj=>⟨c.getD (l.base+i*l.sz+off+j) undef,?_,?_⟩⟩
    ·exact cell?_row' hc (by rw[hsz]; omega)
    ·rw[zBq _ _ _ _ _ hj (by rw[h2]; exact hle.2)];have:=h3 (off+j) (by omega);rw[hsz,show l.base+i*sz+off+j=l.base+i*sz+(off+j) by omega];exact this
   ·cases h
 case iptr cs0 off b o f hf hcell hc hr =>
  split at h
  ·rename_i hle;cases h;refine⟨by simp; omega,b,o+off,rfl,fun j hj=>⟨f (off+j),?_,?_⟩⟩
   ·rw[show o+off+j=o+(off+j) by omega]; exact hcell (off+j) (by omega)
   ·rw[zBq _ _ _ _ _ hj hle];exact⟨hc _ (by omega),hr _ (by omega)⟩
  ·cases h
 case gp g off =>
  cases hg:G g with
  | none=>rw[hg]at h; cases h
  | some cs0 =>
   rw[hg]at h;simp only at h
   split at h
   ·rename_i hle;cases h;have hgl:=hH.gl g cs0 hg
    generalize hp:Value.pointer (some ⟨g,0,none⟩)=p at hgl
    cases hgl with
    | iptr hf hcell hc hr =>
     rename_i b o f
     injection hp with hp; injection hp with hp; injection hp with h1 h2 h3
     subst h1;have ho:o=0:=by omega
     subst ho;refine⟨by simp; omega,g,off,rfl,fun j hj=>⟨f (off+j),?_,?_⟩⟩
     ·have:=hcell (off+j) (by omega);simpa using this
     ·rw[zBq _ _ _ _ _ hj hle];exact⟨hc (off+j) (by omega),hr (off+j) (by omega)⟩
   ·cases h
 all_goals cases h
def aload(P:Program)(G:Gl)(t:TypeId)(a:AV)(H:List AO):Option AV :=
 match aggT P t,szT P t with
 | some true,some m=>(rdCells G H a m).map .agg
 | some false,_=>match rdCells G H a 1 with
  | some [x]=>some x
  | _=>none
 | _,_=>none
theorem aggT_run{P:Program}{t:TypeId}{g:Bool}(h:aggT P t=some g)(w:World):(isAgg t).run P w=.ok g w:=by
 unfold aggT at h;cases hu:P.underlying t with
 | none=>rw[hu]at h; cases h
 | some d =>
  unfold isAgg;rw[Sem.run_bind,run_underlying hu w];rw[hu]at h;cases d <;> simp_all [Result.andThen]
theorem zBd{P:Program}{t:TypeId}{m:Nat}(h:szT P t=some m)(w:World):(sizeOf t).run P w=.ok m w:=by
 unfold szT at h;cases hi:P.info? t with
 | none=>rw[hi]at h; cases h
 | some i=>rw[hi]at h; simp at h; simp[sizeOf,typeInfo,hi,h]
theorem zCp(b o j:Nat):(⟨b,o,none⟩:Addr).add j=⟨b,o+j,none⟩:=by
 unfold Addr.add; split
 ·subst_vars; rfl
 ·rfl
theorem aload_sound{P:Program}{G:Gl}{t:TypeId}{a v:AV}{H:List AO}(h:aload P G t a H=some v){w:World}{E:En}(hH:RelH G w E H){p:Value}(ha:RepV w E a p) :
  ∃ ad r,p=.pointer (some ad)/\(loadVar t ad).run P w=.ok r w/\RepV w E v r:=by
 unfold aload at h
 split at h
 ·rename_i m hg hs;cases hr:rdCells G H a m with
  | none=>rw[hr]at h; cases h
  | some cs =>
   rw[hr]at h; simp at h; subst h;obtain⟨hlen,b,o,rfl,hcells⟩:=rd_sound hH ha hr;have hl:=run_loadCells (P:=P) w ⟨b,o,none⟩ m (fun j=>(w.cell? ⟨b,o+j,none⟩).getD undef) (fun j hj=>by
    obtain⟨x,hx,_⟩:=hcells j hj;rw[zCp,hx]; rfl)
   refine⟨⟨b,o,none⟩,.agg ((List.range m).map (fun j=>(w.cell? ⟨b,o+j,none⟩).getD undef)).toArray,rfl,?_,?_⟩
   ·simp[loadVar,Sem.run_bind,aggT_run hg,zBd hs,hl,Result.andThen]
   ·refine .agg (by simp[hlen]) (fun i hi=>?_) (fun i hi=>?_)
    ·obtain⟨x,hx,h1,h2⟩:=hcells i (by omega); exact h1
    ·obtain⟨x,hx,h1,h2⟩:=hcells i (by omega);have hi':i < m:=by omega
     have e:((List.range m).map (fun j=>(w.cell? ⟨b,o+j,none⟩).getD undef)).toArray.getD i undef=x:=by
      simp[Array.getD,hi',hx]
     rw[e]; exact h2
 ·rename_i hg
  split at h
  ·rename_i x hr;cases h;obtain⟨hlen,b,o,rfl,hcells⟩:=rd_sound hH ha hr;obtain⟨x',hx,h1,h2⟩:=hcells 0 (by omega);refine⟨⟨b,o,none⟩,x',rfl,?_,h2⟩;have hx':w.cell? ⟨b,o,none⟩=some x':=hx;simp[loadVar,Sem.run_bind,aggT_run hg,Result.andThen,load,Sem.run,hx']
  ·cases h
 ·cases h
def zEo{α:Type}(l:List α)(off:Nat)(news:List α):List α:=l.take off++news++l.drop (off+news.length)
theorem zEi{α:Type}(l:List α)(off:Nat)(news:List α)(h:off+news.length<=l.length):(zEo l off news).length=l.length:=by
 simp[zEo]; omega
theorem getD_splice{α:Type}(l:List α)(d:α)(off:Nat)(news:List α)(h:off+news.length<=l.length)(p:Nat) :
  (zEo l off news).getD p d=if off<=p/\p < off+news.length then news.getD (p - off) d else l.getD p d:=by
 simp only[List.getD,zEo]
 by_cases h1:p < off
 ·rw[if_neg (by omega),List.append_assoc,zL (by simp; omega),List.getElem?_take,if_pos h1]
 ·by_cases h2:p < off+news.length
  ·rw[if_pos ⟨by omega,h2⟩,List.append_assoc,List.getElem?_append_right (by simp; omega),zL (by simp; omega)]
   congr 2
   simp; omega
  ·rw[if_neg (by omega),List.getElem?_append_right (by simp; omega),List.getElem?_drop]
   congr 2
   simp; omega
def reEl(e:AV)(cs:List AV):AV :=
 match e with
 | .agg _=>.agg cs
 | _=>cs.getD 0 .un
def wrCells(H:List AO):AV->List AV->Option (List AO)
 | .ptr id off,news=>match H[id]? with
  | some (.cells cs)=>if off+news.length<=cs.length then some (H.set id (.cells (zEo cs off news))) else none
  | _=>none
 | .eptr id i off,news=>match H[id]? with
  | some (.arr sz es)=>if i < es.length/\off+news.length<=sz then some (H.set id (.arr sz (es.set i (reEl (es.getD i .un) (zEo (es.getD i .un).cells off news))))) else none
  | _=>none
 | _,_=>none
theorem zBy{P:Program}(b:Nat)(t:TypeId):∀(vs:List Value) (o i:Nat) (w:World) (c:Array Value),w.heap[b]?=some (.cells c t (0,0))->o+i+vs.length<=c.size->(∀ v,v∈vs->v.oneCell'=true) ->
  ∃ w' c',(storeCells ⟨b,o,none⟩ vs i).run P w=.ok () w'/\w'.heap[b]?=some (.cells c' t (0,0))/\c'.size=c.size/\w'.heap.size=w.heap.size/\(∀ b',b'≠b->w'.heap[b']?=w.heap[b']?) /\
   w'.os=w.os/\w'.tape=w.tape/\OutOk w w'/\∀ p,c'.getD p undef=if o+i<=p/\p < o+i+vs.length then vs.getD (p - (o+i)) undef else c.getD p undef
 | [],o,i,w,c,hb,hs,h1=>⟨w,c,by simp[storeCells],hb,rfl,rfl,fun _ _=>rfl,rfl,rfl,OutOk.refl _,fun p=>by rw[if_neg (by simp)]⟩
 | v::rest,o,i,w,c,hb,hs,h1=>by
  simp only[List.length_cons]at hs;have hcell:w.cell? ⟨b,o+i,none⟩=some (c.getD (o+i) undef):=cell?_row' hb (by omega);have hfz:w.frozen? ⟨b,o+i,none⟩=false:=by simp[World.frozen?,hb]
  have hst:(store ⟨b,o+i,none⟩ v).run P w=.ok () (w.setCell ⟨b,o+i,none⟩ v):=by
   rw[run_store P w _ _ _ (h1 v (by simp))]; simp[stored,hcell,hfz]
  have hb1:(w.setCell ⟨b,o+i,none⟩ v).heap[b]?=some (.cells (c.setIfInBounds (o+i) v) t (0,0)):=by
   simp[World.setCell,Array.getElem?_modify,hb]
  obtain⟨w',c',h2,h3,h4,h5,h6,h7,h8,h9,h10⟩:=zBy (P:=P) b t rest o (i+1) (w.setCell ⟨b,o+i,none⟩ v) _ hb1 (by simp; omega) (fun x hx=>h1 x (by simp[hx]));refine⟨w',c',?_,h3,by simpa using h4,by simpa using h5,fun b' hb'=>?_,h7,h8,⟨h9.out,h9.drawn⟩,fun p=>?_⟩
  ·simp only[storeCells,zCp,Sem.run_bind,hst,Result.andThen_ok,h2]
  ·rw[h6 b' hb']; simp[World.setCell,Array.getElem?_modify,fun e=>hb' (Eq.symm e)]
   intro e; exact absurd e.symm hb'
  ·rw[h10 p];simp only[List.length_cons]
   by_cases e1:o+(i+1)<=p/\p < o+(i+1)+rest.length
   ·rw[if_pos e1,if_pos (by omega)];rw[show p - (o+i)=(p - (o+(i+1)))+1 by omega]; simp[List.getD]
   ·rw[if_neg e1]
    by_cases e2:p=o+i
    ·subst e2;rw[if_pos (by omega)];have:o+i < c.size:=by omega
     simp[Array.getD,this,List.getD]
    ·rw[if_neg (by omega),Array.getD_eq_getD_getElem?,Array.getD_eq_getD_getElem?,Array.getElem?_setIfInBounds_ne (fun h=>e2 h.symm)]
theorem splice_mem_of{cs:List AV}{off:Nat}{news:List AV}(h:off+news.length<=cs.length){i:Nat}(Pr:AV->Prop)(h1:∀ j,j < news.length->Pr (news.getD j .un))(h2:Pr (cs.getD i .un)) :
  Pr ((zEo cs off news).getD i .un):=by
 rw[getD_splice cs .un off news h]
 split
 ·exact h1 _ (by omega)
 ·exact h2
theorem zBc{v:AV}(h:v.isCell=true):v.cells=[v]:=by cases v <;> first | rfl | (simp[AV.isCell]at h)
theorem zEt{v:AV}(h:v.isCell=true):v.isEl=true:=by cases v <;> first | rfl | (simp[AV.isCell]at h)
theorem el_cases{v:AV}(h:v.isEl=true):v.isCell=true\/∃ cs,v=.agg cs:=by
 cases v <;> first | exact .inl rfl | (simp[AV.isEl]at h; done) | exact .inr ⟨_,rfl⟩
theorem rcells_of_oneCell{r:Value}(h:r.oneCell'=true):r.cells=#[r]:=by cases r <;> first | rfl | (simp[Value.oneCell']at h)
theorem reEl_ok(e:AV)(cs:List AV)(h1:e.isEl=true)(hl:e.cells.length=cs.length)(hc:∀ j,j < cs.length->(cs.getD j .un).isCell=true):(reEl e cs).cells=cs/\(reEl e cs).isEl=true:=by
 rcases el_cases h1 with h | ⟨ds,rfl⟩
 ·rw[zBc h]at hl;have e2:reEl e cs=cs.getD 0 .un:=by cases e <;> first | rfl | (simp[AV.isCell]at h)
  match cs,hl with
  | [x],_ =>
   have h0:x.isCell=true:=hc 0 (by simp);rw[e2];exact⟨zBc h0,zEt h0⟩
 ·exact⟨rfl,rfl⟩
theorem wr_sound{P:Program}{G:Gl}{w:World}{E:En}{H H':List AO}(hH:RelH G w E H){a:AV}{p:Value}(ha:RepV w E a p){news:List AV}(h:wrCells H a news=some H')
  {vs:List Value} (hvl:vs.length=news.length) (hvs:∀ j,j < news.length->(news.getD j .un).isCell=true/\RepV w E (news.getD j .un) (vs.getD j undef)) :
  ∃ ad w',p=.pointer (some ad)/\(storeCells ad vs).run P w=.ok () w'/\RelH G w' E H'/\Grow H E w H' E w':=by
 have h1c:∀ v,v∈vs->v.oneCell'=true:=by
  intro v hv
  obtain⟨j,hj,rfl⟩:=List.getElem_of_mem hv;have:=hvs j (by omega);have e:vs.getD j undef=vs[j]:=by simp[List.getD,hj]
  rw[e]at this;exact this.2.oneCell this.1
 cases ha <;> simp only[wrCells]at h
 case ptr id off l hl =>
  cases ho:H[id]? with
  | none=>rw[ho]at h; simp at h
  | some o =>
   rw[ho]at h;cases o <;> simp only at h <;> try (cases h; done)
   rename_i ds
   split at h
   ·rename_i hle;cases h;obtain⟨l',hl',c,t,hc,hs,hr⟩:=hH.obj id _ ho rfl;rw[hl]at hl'; cases hl';obtain⟨w',c',g1,g2,g3,g4,g5,g6,g7,g8,g9⟩:=zBy (P:=P) l.b t vs (l.base+off) 0 w c hc (by omega) h1c;have hres:=zBw hH ho rfl hl (.cells (zEo ds off news)) g4 g5 (fun n hn=>by
     simp only[zAu,hc,g2]at *; rw[g3]; exact hn) g6 g7 g8 (fun hm=>⟨c',t,g2,by rw[zEi _ _ _ hle]; omega,fun i hi=>by
      rw[zEi _ _ _ hle]at hi;rw[getD_splice ds .un off news hle,g9 (l.base+i)]
      by_cases hin:off<=i/\i < off+news.length
      ·rw[if_pos hin,if_pos (by omega)];have:=hvs (i - off) (by omega);rw[show l.base+i - (l.base+off+0)=i - off by omega];exact⟨this.1,this.2.mono hm⟩
      ·rw[if_neg hin,if_neg (by omega)];exact⟨(hr i hi).1,(hr i hi).2.mono hm⟩⟩)
    exact⟨_,w',rfl,g1,hres.1,hres.2⟩
   ·cases h
 case eptr id i off l hl =>
  cases ho:H[id]? with
  | none=>rw[ho]at h; simp at h
  | some o =>
   rw[ho]at h;cases o <;> simp only at h <;> try (cases h; done)
   rename_i sz es
   split at h
   ·rename_i hle;cases h;obtain⟨l',hl',hsz,c,t,hc,hs,hr⟩:=hH.obj id _ ho rfl;rw[hl]at hl'; cases hl';obtain⟨k1,k2,k3⟩:=hr i hle.1;have hb:i*sz+sz<=es.length*sz:=by
     have:=Nat.mul_le_mul_right sz hle.1;rw[Nat.succ_mul]at this; exact this
    obtain⟨w',c',g1,g2,g3,g4,g5,g6,g7,g8,g9⟩:=zBy (P:=P) l.b t vs (l.base+i*l.sz+off) 0 w c hc (by rw[hsz]; omega) h1c;have hle2:off+news.length<=(es.getD i .un).cells.length:=by rw[k2]; exact hle.2
    have hspl:(zEo (es.getD i .un).cells off news).length=sz:=by rw[zEi _ _ _ hle2,k2]
    have hcells:∀ j,j < sz->((zEo (es.getD i .un).cells off news).getD j .un).isCell=true:=fun j hj =>
     splice_mem_of hle2 (fun x=>x.isCell=true) (fun j hj=>(hvs j hj).1) (k3 j hj).1
    have hre:=reEl_ok (es.getD i .un) (zEo (es.getD i .un).cells off news) k1 (by rw[k2,hspl]) (fun j hj=>hcells j (by rw[hspl]at hj; exact hj));have hres:=zBw hH ho rfl hl (.arr sz (es.set i (reEl (es.getD i .un) (zEo (es.getD i .un).cells off news)))) g4 g5 (fun n hn=>by
     simp only[zAu,hc,g2]at *; rw[g3]; exact hn) g6 g7 g8 (fun hm=>⟨hsz,c',t,g2,by rw[List.length_set]; omega,fun i' hi'=>by
      rw[List.length_set]at hi'
      by_cases ei:i'=i
      ·subst ei;have eg:(es.set i' (reEl (es.getD i' .un) (zEo (es.getD i' .un).cells off news))).getD i' .un=reEl (es.getD i' .un) (zEo (es.getD i' .un).cells off news):=by
        simp[List.getD,hle.1]
       rw[eg,hre.1];refine⟨hre.2,hspl,fun j hj=>⟨hcells j hj,?_⟩⟩;rw[getD_splice _ .un off news hle2,g9]
       by_cases hin:off<=j/\j < off+news.length
       ·rw[if_pos hin,if_pos (by rw[hsz]; omega)];have:=hvs (j - off) (by omega);rw[show l.base+i'*sz+j - (l.base+i'*l.sz+off+0)=j - off by rw[hsz]; omega];exact this.2.mono hm
       ·rw[if_neg hin,if_neg (by rw[hsz]; omega)];exact(k3 j hj).2.mono hm
      ·have eg:(es.set i (reEl (es.getD i .un) (zEo (es.getD i .un).cells off news))).getD i' .un=es.getD i' .un:=by
        simp only[List.getD]; rw[zQ (fun h=>ei h.symm)]
       rw[eg];obtain⟨q1,q2,q3⟩:=hr i' hi';refine⟨q1,q2,fun j hj=>⟨(q3 j hj).1,?_⟩⟩;rw[g9,if_neg]
       ·exact(q3 j hj).2.mono hm
       ·rw[hsz]
        rcases Nat.lt_or_ge i' i with hlt | hge
        ·have:=Nat.mul_le_mul_right sz (Nat.succ_le_of_lt hlt);rw[Nat.succ_mul]at this;omega
        ·have:=Nat.mul_le_mul_right sz (Nat.succ_le_of_lt (Nat.lt_of_le_of_ne hge (fun h=>ei h.symm)));rw[Nat.succ_mul]at this;have:=hle.2;omega⟩)
    exact⟨_,w',rfl,g1,hres.1,hres.2⟩
   ·cases h
 all_goals cases h
def astore(P:Program)(t:TypeId)(a v:AV)(H:List AO):Option (List AO) :=
 if v.isEl=true/\szT P t=some v.cells.length then wrCells H a v.cells else none
theorem zEz{w:World}{E:En}{v:AV}{r:Value}(h:RepV w E v r)(he:v.isEl=true) :
  r.cells.size=v.cells.length/\∀ j,j < v.cells.length->(v.cells.getD j .un).isCell=true/\RepV w E (v.cells.getD j .un) (r.cells.toList.getD j undef):=by
 rcases el_cases he with hc | ⟨cs,rfl⟩
 ·rw[zBc hc,rcells_of_oneCell (h.oneCell hc)];refine⟨rfl,fun j hj=>?_⟩;simp only[List.length_singleton]at hj;obtain rfl:j=0:=by omega
  exact⟨hc,h⟩
 ·cases h with
  | agg hl hc h =>
   rename_i vs;refine⟨hl,fun j hj=>⟨hc j hj,?_⟩⟩;have:=h j hj;simp only[AV.cells,Value.cells];rw[show vs.toList.getD j undef=vs.getD j undef by simp[List.getD,Array.getD_eq_getD_getElem?]];exact this
theorem astore_sound{P:Program}{G:Gl}{t:TypeId}{a v:AV}{H H':List AO}(h:astore P t a v H=some H'){w:World}{E:En}(hH:RelH G w E H){p r:Value}(ha:RepV w E a p)(hv:RepV w E v r) :
  ∃ ad w',p=.pointer (some ad)/\(storeVar t ad r).run P w=.ok () w'/\RelH G w' E H'/\Grow H E w H' E w':=by
 unfold astore at h
 split at h
 ·rename_i hc;obtain⟨hs,hcells⟩:=zEz hv hc.1;obtain⟨ad,w',h1,h2,h3⟩:=wr_sound (P:=P) hH ha h (vs:=r.cells.toList) (by simpa using hs) hcells;refine⟨ad,w',h1,?_,h3⟩;unfold storeVar;rw[Sem.run_bind,zBd hc.2 w];simp only[Result.andThen_ok];rw[if_neg (by rw[hs]; simp)];simpa using h2
 ·cases h
theorem new_sound{P:Program}{G:Gl}{w:World}{E:En}{H:List AO}(hH:RelH G w E H)(t:TypeId){cs:List AV}{vs:Array Value}(hl:vs.size=cs.length)
  (hcs:∀ j,j < cs.length->(cs.getD j .un).isCell=true/\RepV w E (cs.getD j .un) (vs.getD j undef)) :
  ∃ E',(newRow t vs).run P w=.ok ⟨w.heap.size,0,none⟩ (w.alloc (.cells vs t))/\RelH G (w.alloc (.cells vs t)) E' (H++[.cells cs])/\Grow H E w (H++[.cells cs]) E' (w.alloc (.cells vs t)) /\
   E'.loc H.length=some ⟨w.heap.size,0,1⟩:=by
 have:=zFq hH (.cells vs t) (.cells cs) ⟨w.heap.size,0,1⟩ rfl (fun E' hm hl'=>⟨vs,t,getElem?_alloc_new w _,by simp[hl],fun i hi=>⟨(hcs i hi).1,by
  simp only[Nat.zero_add];exact(hcs i hi).2.mono hm⟩⟩)
 refine⟨E.put H.length ⟨w.heap.size,0,1⟩,?_,this.1,this.2.1,this.2.2⟩;rfl
theorem newArr_sound{P:Program}{G:Gl}{w:World}{E:En}{H:List AO}(hH:RelH G w E H)(t:TypeId){sz:Nat}{es:List AV}{vs:Array Value}(hl:es.length*sz<=vs.size)
  (hes:∀ i,i < es.length->(es.getD i .un).isEl=true/\(es.getD i .un).cells.length=sz/\∀ j,j < sz->((es.getD i .un).cells.getD j .un).isCell=true/\RepV w E ((es.getD i .un).cells.getD j .un) (vs.getD (i*sz+j) undef)) :
  ∃ E',(newRow t vs).run P w=.ok ⟨w.heap.size,0,none⟩ (w.alloc (.cells vs t))/\RelH G (w.alloc (.cells vs t)) E' (H++[.arr sz es])/\Grow H E w (H++[.arr sz es]) E' (w.alloc (.cells vs t)) /\
   E'.loc H.length=some ⟨w.heap.size,0,sz⟩/\zAu (w.alloc (.cells vs t)) w.heap.size=some vs.size:=by
 have:=zFq hH (.cells vs t) (.arr sz es) ⟨w.heap.size,0,sz⟩ rfl (fun E' hm hl'=>⟨rfl,vs,t,getElem?_alloc_new w _,by simpa using hl,fun i hi=>⟨(hes i hi).1,(hes i hi).2.1,fun j hj=>⟨((hes i hi).2.2 j hj).1,by
  simp only[Nat.zero_add];exact((hes i hi).2.2 j hj).2.mono hm⟩⟩⟩)
 refine⟨E.put H.length ⟨w.heap.size,0,sz⟩,?_,this.1,this.2.1,this.2.2,by unfold zAu; rw[getElem?_alloc_new]⟩;rfl
end Go.Ab
