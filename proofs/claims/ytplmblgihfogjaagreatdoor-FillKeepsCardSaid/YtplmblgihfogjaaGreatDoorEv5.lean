/- A text of this claim. -/
import Derived.Test.YtplmblgihfogjaaGreatDoorEv4
import Derived.Laws.Strings
set_option maxHeartbeats 40000000
set_option maxRecDepth 400000
set_option linter.all false
namespace Go.Ab
section
variable {P:Program} {G:Gl} {n:Nat} {o:Oper} {ts:Nat->AV} {H H':List AO} {v:AV} {C:Prop}
theorem arr_getD_some{vs:Array Value}{i:Nat}(h:i < vs.size):vs[i]?=some (vs.getD i undef):=by
 rw[Array.getD_eq_getD_getElem?,Array.getElem?_eq_getElem h]; rfl
theorem arr_getD_set{vs:Array Value}{i:Nat}(h:i < vs.size)(x:Value):(vs.setIfInBounds i x).getD i undef=x:=by
 rw[Array.getD_eq_getD_getElem?,Array.getElem?_setIfInBounds_self_of_lt h]; rfl
theorem zDg{t:TypeId}{cs:List AV}{off:Nat}(h:aPart P t cs off=some v){w:World}{E:En}{vs:Array Value}(ha:RepV w E (.agg cs) (.agg vs)) :
  ∃ r,(part t vs off).run P w=.ok r w/\RepV w E v r:=by
 cases ha with
 | agg hl hc hr =>
 unfold aPart at h
 split at h
 ·rename_i m hg hs
  split at h
  ·rename_i hle;cases h;refine⟨.agg (vs.extract off (off+m)),by simp[part,Sem.run_bind,aggT_run hg,zBd hs,Result.andThen],.agg (by simp; omega) (fun i hi=>?_) (fun i hi=>?_)⟩
   ·have hi':i < m:=by simp at hi; omega
    rw[zBq _ _ _ _ _ hi' hle];exact hc _ (by omega)
   ·have hi':i < m:=by simp at hi; omega
    rw[zBq _ _ _ _ _ hi' hle];have e:(vs.extract off (off+m)).getD i undef=vs.getD (off+i) undef:=by
     rw[Array.getD_eq_getD_getElem?,Array.getD_eq_getD_getElem?,Array.getElem?_extract];rw[if_pos (by omega)]
    rw[e]; exact hr _ (by omega)
  ·cases h
 ·rename_i hg;have hlt:off < cs.length:=by
   rcases Nat.lt_or_ge off cs.length with h' | h'
   ·exact h'
   ·simp[List.getElem?_eq_none h']at h
  refine⟨vs.getD off undef,?_,?_⟩
  ·have e:vs[off]?=some (vs.getD off undef):=arr_getD_some (by omega);simp only[part,Sem.run_bind,aggT_run hg,Result.andThen_ok,e];rfl
  ·have:=hr off hlt;have e:cs.getD off .un=v:=by simp[List.getD,h]
   rwa [e]at this
 ·cases h
theorem agg_inv{w:World}{E:En}{cs:List AV}{r:Value}(h:RepV w E (.agg cs) r):∃ vs,r=.agg vs/\vs.size=cs.length:=by
 cases h with
 | agg hl _ _=>exact⟨_,rfl,hl⟩
theorem bytes_get(s:ByteArray)(n:Nat):s[n]?=s.data.toList[n]?:=by
 by_cases h:n < s.size
 ·rw[ByteArray.getElem?_lt' s n h];have h':n < s.data.size:=h;simp only[Array.getElem?_toList];rw[Array.getElem?_eq_getElem h'];rfl
 ·rw[ByteArray.getElem?_ge' s n h];have h':¬ n < s.data.size:=h;simp only[Array.getElem?_toList];rw[Array.getElem?_eq_none (by omega)]
theorem opv_index{t:TypeId}{x i:Operand}(ho:o.op=.index t x i){k:IntKind}{q:Int}(hi:aInt (ev ts i)=some (k,q))(h:aIdx P t (ev ts x) q=some (C,v))(hC:C):OpV P G n o ts H v H :=
 OpV.pure fun E w tmps hH hT hok D=>by
  obtain⟨q1,q2⟩:=opd2 (by rw[ho]; rfl) hok;have hx:=zAv hT q1 D;have hi':=zFf (zAv hT q2 D) hi;unfold aIdx at h
  split at h
  ·rename_i len elem cs hu e;rw[e]at hx;obtain⟨vs,e2,_⟩:=agg_inv hx;rw[e2]at hx
   split at h
   ·rename_i sz hs;cases hp:aPart P elem cs (q.toNat*sz)with
    | none=>rw[hp]at h; cases h
    | some v' =>
     rw[hp]at h; simp only[Option.map_some,Option.some.injEq,Prod.mk.injEq]at h;obtain⟨rfl,rfl⟩:=h;obtain⟨r,h1,h2⟩:=zDg hp hx;refine⟨r,h2,?_⟩;simp[execOp,ho,e2,hi',Instr.index,asIntOf,run_underlying hu,Sem.run_bind,Result.andThen,hC,zBd hs,h1]
   ·cases h
  ·rename_i s hu e;rw[e]at hx;have hx':=hx.c_inv
   split at h
   ·rename_i b hb;cases h;refine⟨_,.c rfl,?_⟩;have h2:s[q.toNat]?=some b:=by rw[bytes_get]; exact hb
    simp[execOp,ho,hx',hi',Instr.index,asIntOf,run_underlying hu,Sem.run_bind,Result.andThen,hC,h2]
   ·cases h
  ·cases h
theorem opv_field{t:TypeId}{x:Operand}{f:Nat}(ho:o.op=.field t x f)(h:aField P t (ev ts x) f=some v):OpV P G n o ts H v H :=
 OpV.pure fun E w tmps hH hT hok D=>by
  have hx:=zAv hT (opd1 (by rw[ho]; rfl) hok) D;unfold aField at h
  split at h
  ·rename_i fields cs hu e;rw[e]at hx;obtain⟨vs,e2,_⟩:=agg_inv hx;rw[e2]at hx
   split at h
   ·rename_i fl hf;obtain⟨r,h1,h2⟩:=zDg h hx;exact⟨r,h2,by simp[execOp,ho,e2,Instr.field,asAgg,run_underlying hu,Sem.run_bind,Result.andThen,hf,h1]⟩
   ·cases h
  ·cases h
theorem opv_extract{x:Operand}{i:Nat}(ho:o.op=.extract x i){vs:List AV}(he:ev ts x=.tup vs)(h:vs[i]?=some v):OpV P G n o ts H v H :=
 OpV.pure fun E w tmps hH hT hok D=>by
  have hx:=zAv hT (opd1 (by rw[ho]; rfl) hok) D;rw[he]at hx
  generalize hr0:Act.eval ⟨tmps,D⟩ x=r0 at hx
  cases hx with
  | tup hl hr =>
   rename_i us;have hlt:i < vs.length:=by
    rcases Nat.lt_or_ge i vs.length with h' | h'
    ·exact h'
    ·simp[List.getElem?_eq_none h']at h
   have e:us[i]?=some (us.getD i undef):=arr_getD_some (by omega);have e2:vs.getD i .un=v:=by simp[List.getD,h]
   refine⟨us.getD i undef,by rw[<- e2]; exact hr i hlt,by simp only[execOp,ho,hr0,Instr.extract,e]; rfl⟩
def RepC(w:World)(E:En)(cs:List AV)(vs:Array Value):Prop:=vs.size=cs.length/\∀ j,j < cs.length->(cs.getD j .un).isCell=true/\RepV w E (cs.getD j .un) (vs.getD j undef)
theorem zFg(off:Nat):∀(xs:List Value) (k:Nat) (cs:Array Value),off+k+xs.length<=cs.size ->
  ((xs.zipIdx k).foldl (fun(cs:Array Value) (p:Value × Nat)=>cs.setIfInBounds (off+p.2) p.1) cs).size=cs.size /\
  ∀ p,((xs.zipIdx k).foldl (fun(cs:Array Value) (p:Value × Nat)=>cs.setIfInBounds (off+p.2) p.1) cs).getD p undef=if off+k<=p/\p < off+k+xs.length then xs.getD (p - (off+k)) undef else cs.getD p undef
 | [],k,cs,h=>⟨rfl,fun p=>by rw[if_neg (by simp)]; rfl⟩
 | x::xs,k,cs,h=>by
  simp only[List.length_cons]at h;simp only[List.zipIdx_cons,List.foldl_cons];obtain⟨h1,h2⟩:=zFg off xs (k+1) (cs.setIfInBounds (off+k) x) (by simp; omega);refine⟨by rw[h1]; simp,fun p=>?_⟩;rw[h2 p];simp only[List.length_cons]
  by_cases e1:off+(k+1)<=p/\p < off+(k+1)+xs.length
  ·rw[if_pos e1,if_pos (by omega)];rw[show p - (off+k)=(p - (off+(k+1)))+1 by omega]; simp[List.getD]
  ·rw[if_neg e1]
   by_cases e2:p=off+k
   ·subst e2;rw[if_pos (by omega)];rw[arr_getD_set (by omega)];simp
   ·rw[if_neg (by omega),Array.getD_eq_getD_getElem?,Array.getD_eq_getD_getElem?,Array.getElem?_setIfInBounds_ne (fun h=>e2 h.symm)]
theorem array_zipIdx_foldl(v:Array Value)(off:Nat)(cs:Array Value) :
  v.zipIdx.foldl (fun cs (p:Value × Nat)=>cs.setIfInBounds (off+p.2) p.1) cs=(v.toList.zipIdx 0).foldl (fun(cs:Array Value) (p:Value × Nat)=>cs.setIfInBounds (off+p.2) p.1) cs:=by
 rw[<- Array.foldl_toList,Array.toList_zipIdx]
theorem repC_splice{w:World}{E:En}{cs:List AV}{vs:Array Value}(h:RepC w E cs vs){a:AV}{r:Value}(ha:RepV w E a r)(he:a.isEl=true){off:Nat}(hle:off+a.cells.length<=cs.length) :
  RepC w E (zEo cs off a.cells) (r.cells.zipIdx.foldl (fun cs (p:Value × Nat)=>cs.setIfInBounds (off+p.2) p.1) vs):=by
 obtain⟨h1,h2⟩:=zEz ha he;rw[array_zipIdx_foldl];obtain⟨g1,g2⟩:=zFg off r.cells.toList 0 vs (by simp[h1,h.1]; omega);refine⟨by rw[g1,h.1,zEi _ _ _ hle],fun j hj=>?_⟩;rw[zEi _ _ _ hle]at hj;rw[getD_splice _ .un off _ hle,g2 j];simp only[Array.length_toList,h1,Nat.add_zero]
 by_cases hin:off<=j/\j < off+a.cells.length
 ·rw[if_pos hin,if_pos hin];exact h2 (j - off) (by omega)
 ·rw[if_neg hin,if_neg hin];exact h.2 j hj
theorem aFill_sound{w:World}{E:En}{place:Nat->Option (Nat × Nat)}:∀(parts:List (Nat × AV)) (rs:List (Nat × Value)) (cs cs':List AV) (vs:Array Value),parts.map (·.1)=rs.map (·.1)->parts.length=rs.length ->
  (∀ i,i < parts.length->RepV w E (parts.getD i default).2 (rs.getD i default).2)->RepC w E cs vs->aFill place cs parts=some cs'->∃ vs',Instr.fill place vs rs=some vs'/\RepC w E cs' vs'
 | [],[],cs,cs',vs,_,_,_,hc,h=>by simp only[aFill]at h; cases h; exact⟨vs,rfl,hc⟩
 | [],_::_,_,_,_,_,hl,_,_,_=>by simp at hl
 | _::_,[],_,_,_,_,hl,_,_,_=>by simp at hl
 | (i,a)::parts,(i',r)::rs,cs,cs',vs,hi,hl,hr,hc,h=>by
  simp only[List.map_cons,List.cons.injEq]at hi;obtain⟨rfl,hi⟩:=hi;simp only[aFill]at h;cases hp:place i with
  | none=>rw[hp]at h; cases h
  | some q =>
   obtain⟨off,size⟩:=q;rw[hp]at h;simp only at h
   split at h
   ·rename_i hc2;have ha:RepV w E a r:=by simpa[List.getD]using hr 0 (by simp)
    obtain⟨h1,h2⟩:=zEz ha hc2.1;have hle:off+a.cells.length<=cs.length:=by rw[hc2.2.1]; exact hc2.2.2
    obtain⟨vs',g1,g2⟩:=aFill_sound parts rs _ cs' _ hi (by simpa using hl) (fun j hj=>by simpa[List.getD]using hr (j+1) (by simpa using hj)) (repC_splice hc ha hc2.1 hle) h;refine⟨vs',?_,g2⟩;simp only[Instr.fill,hp];have:¬ (r.cells.size≠size||off+r.cells.size > vs.size)=true:=by
     rw[h1,hc2.2.1,hc.1]; simp; exact hc2.2.2
    rw[if_neg this];exact g1
   ·cases h
theorem fieldPlaces_eq{fields:Array Field}(hall:fields.all (fun f=>(szT P f.type).isSome)=true)(w:World) :
  ∃ places:Array (Nat × Nat),(fields.mapM (m:=Sem) fun(f:Field)=>do pure (f.offset,<- sizeOf f.type)).run P w=.ok places w/\∀ i,places[i]?=zAg P fields i:=by
 have key:∀ l:List Field,l.all (fun(f:Field)=>(szT P f.type).isSome)=true->∃ ps:List (Nat × Nat),(l.mapM (m:=Sem) fun(f:Field)=>do pure (f.offset,<- sizeOf f.type)).run P w=Result.ok ps w /\
   ∀ i:Nat,ps[i]?=(match l[i]? with | some (f:Field)=>(szT P f.type).map fun m=>(f.offset,m) | none=>none):=by
  intro l
  induction l with
  | nil=>intro _; exact⟨[],rfl,fun i=>by simp⟩
  | cons f l ih =>
   intro h
   simp only[List.all_cons,zA]at h;obtain⟨m,hm⟩:=Option.isSome_iff_exists.1 h.1;obtain⟨ps,h1,h2⟩:=ih h.2;refine⟨(f.offset,m)::ps,?_,fun i=>?_⟩
   ·simp only[List.mapM_cons,Sem.run_bind,zBd hm,Result.andThen_ok,Sem.run_pure,h1]
   ·cases i with
    | zero=>simp[hm]
    | succ i=>simpa using h2 i
 obtain⟨ps,h1,h2⟩:=key fields.toList (by simpa using hall);refine⟨ps.toArray,?_,fun i=>?_⟩
 ·rw[Array.mapM_eq_mapM_toList];simp only[map_eq_pure_bind,Sem.run_bind,h1,Result.andThen_ok,Sem.run_pure]
 ·rw[List.getElem?_toArray,h2 i];unfold zAg;rw[Array.getElem?_toList];cases fields[i]? <;> rfl
theorem zCe{t:TypeId}{z:Value}(h:(P.info? t).bind (·.zero)=some z)(w:World):(zeroValue t).run P w=.ok z w:=by
 cases hi:P.info? t with
 | none=>rw[hi]at h; cases h
 | some i =>
  rw[hi]at h;simp only[Option.bind_some]at h;simp[zeroValue,typeInfo,hi,h]
theorem parts_rep{w:World}{E:En}{tmps:Array Value}(hT:RepT w E n ts tmps){parts:Array (Nat × Operand)}(hp:∀ p,p∈parts.toList->zDi n p.2=true)(D:List Deferred) :
  (parts.toList.map fun p=>(p.1,ev ts p.2)).map (·.1)=(parts.map fun(p:Nat × Operand)=>(p.1,Act.eval ⟨tmps,D⟩ p.2)).toList.map (·.1) /\
  (parts.toList.map fun p=>(p.1,ev ts p.2)).length=(parts.map fun(p:Nat × Operand)=>(p.1,Act.eval ⟨tmps,D⟩ p.2)).toList.length /\
  ∀ i,i < (parts.toList.map fun p=>(p.1,ev ts p.2)).length->RepV w E ((parts.toList.map fun p=>(p.1,ev ts p.2)).getD i default).2 ((parts.map fun(p:Nat × Operand)=>(p.1,Act.eval ⟨tmps,D⟩ p.2)).toList.getD i default).2:=by
 refine⟨by simp,by simp,fun i hi=>?_⟩;have hi':i < parts.toList.length:=by simpa using hi
 have e1:(parts.toList.map fun p=>(p.1,ev ts p.2)).getD i default=(parts.toList[i].1,ev ts parts.toList[i].2):=by
  simp only[List.getD,List.getElem?_map,List.getElem?_eq_getElem hi']; rfl
 have e2:(parts.map fun(p:Nat × Operand)=>(p.1,Act.eval ⟨tmps,D⟩ p.2)).toList.getD i default=(parts.toList[i].1,Act.eval ⟨tmps,D⟩ parts.toList[i].2):=by
  simp only[List.getD,Array.toList_map,List.getElem?_map,List.getElem?_eq_getElem hi']; rfl
 rw[e1,e2];exact zAv hT (hp _ (List.getElem_mem hi')) D
theorem parts_ok{parts:Array (Nat × Operand)}(ho:o.op.operands=(parts.toList.map (·.2)).toArray)(hok:zBj n o=true):∀ p,p∈parts.toList->zDi n p.2=true:=by
 intro p hp
 simp only[zBj,ho,zA]at hok;have h2:=hok.2;rw[Array.all_eq_true']at h2;exact h2 p.2 (by simp; exact⟨p.1,by simpa using hp⟩)
theorem opv_build{t:TypeId}{parts:Array (Nat × Operand)}(ho:o.op=.build t parts)(h:aBuild P t (parts.toList.map fun p=>(p.1,ev ts p.2))=some v):OpV P G n o ts H v H :=
 OpV.pure fun E w tmps hH hT hok D=>by
  obtain⟨p1,p2,p3⟩:=parts_rep hT (parts_ok (by rw[ho]; rfl) hok) D;unfold aBuild at h
  split at h
  ·cases h
  ·rename_i zc hz;unfold zeroCells at hz
   split at hz
   ·rename_i z hzz
    split at hz
    ·rename_i hzc;cases hz;have hz0:=zEj hzc w E;have hzr:=zCe (P:=P) hzz w
     split at h
     ·rename_i fields hu
      split at h
      ·rename_i hall;obtain⟨places,hp1,hp2⟩:=fieldPlaces_eq (P:=P) hall w;cases hf:aFill (zAg P fields) (ofV z).cells (parts.toList.map fun p=>(p.1,ev ts p.2))with
       | none=>rw[hf]at h; cases h
       | some cs' =>
        rw[hf]at h; simp only[Option.map_some,Option.some.injEq]at h; subst h;obtain⟨vs',g1,g2⟩:=aFill_sound (w:=w) (E:=E) _ _ _ _ z.cells p1 p2 p3 hz0 hf;refine⟨.agg vs',.agg g2.1 (fun i hi=>(g2.2 i hi).1) (fun i hi=>(g2.2 i hi).2),?_⟩;have hpe:(fun i=>places[i]?)=zAg P fields:=funext hp2;simp only[execOp,ho,Instr.build,Sem.run_bind,hzr,Result.andThen_ok,run_underlying hu,hp1];rw[hpe,g1];rfl
      ·cases h
     ·rename_i len elem hu
      split at h
      ·rename_i sz hs;cases hf:aFill (fun i=>some (i*sz,sz)) (ofV z).cells (parts.toList.map fun p=>(p.1,ev ts p.2))with
       | none=>rw[hf]at h; cases h
       | some cs' =>
        rw[hf]at h; simp only[Option.map_some,Option.some.injEq]at h; subst h;obtain⟨vs',g1,g2⟩:=aFill_sound (w:=w) (E:=E) _ _ _ _ z.cells p1 p2 p3 hz0 hf;refine⟨.agg vs',.agg g2.1 (fun i hi=>(g2.2 i hi).1) (fun i hi=>(g2.2 i hi).2),?_⟩;simp only[execOp,ho,Instr.build,Sem.run_bind,hzr,Result.andThen_ok,run_underlying hu,zBd hs];rw[g1];rfl
      ·cases h
     ·cases h
    ·cases hz
   ·cases hz
theorem mod_row{z:Array Value}(m i j:Nat)(hj:j < z.size)(hi:i < m):((Array.range (m*z.size)).map (fun q=>z[q % z.size]!)).getD (i*z.size+j) undef=z.getD j undef:=by
 have hlt:i*z.size+j < m*z.size:=by
  have:=Nat.mul_le_mul_right z.size (Nat.succ_le_of_lt hi);rw[Nat.succ_mul]at this; omega
 have e:(i*z.size+j) % z.size=j:=by
  rw[Nat.mul_comm,Nat.mul_add_mod,Nat.mod_eq_of_lt hj]
 rw[Array.getD_eq_getD_getElem?,Array.getElem?_map,Array.getElem?_range];rw[if_pos hlt];simp only[Option.map_some,Option.getD_some,e];rw[getElem!_pos z j hj,Array.getD_eq_getD_getElem?,Array.getElem?_eq_getElem hj];rfl
def RepR(w:World)(E:En)(sz:Nat)(es:List AV)(vs:Array Value):Prop:=vs.size=es.length*sz/\∀ i,i < es.length->(es.getD i .un).isEl=true/\(es.getD i .un).cells.length=sz /\
 ∀ j,j < sz->((es.getD i .un).cells.getD j .un).isCell=true/\RepV w E ((es.getD i .un).cells.getD j .un) (vs.getD (i*sz+j) undef)
theorem repR_zero{z:Value}(hz:constOk z=true/\(ofV z).isEl=true)(w:World)(E:En)(m:Nat) :
  RepR w E (ofV z).cells.length (List.replicate m (ofV z)) ((Array.range (m*z.cells.size)).map (fun q=>z.cells[q % z.cells.size]!)):=by
 obtain⟨h1,h2⟩:=zEj hz w E;refine⟨by simp[h1],fun i hi=>?_⟩;have hi':i < m:=by simpa using hi
 have e:(List.replicate m (ofV z)).getD i .un=ofV z:=by simp[List.getD,List.getElem?_replicate,hi']
 rw[e];refine⟨hz.2,rfl,fun j hj=>⟨(h2 j hj).1,?_⟩⟩;rw[<- h1,mod_row m i j (by rw[h1]; exact hj) hi'];exact(h2 j hj).2
theorem repR_set{w:World}{E:En}{sz:Nat}{es:List AV}{vs:Array Value}(h:RepR w E sz es vs){a:AV}{r:Value}(ha:RepV w E a r)(he:a.isEl=true)(hs:a.cells.length=sz){i:Nat}(hi:i < es.length) :
  RepR w E sz (es.set i a) (r.cells.zipIdx.foldl (fun cs (p:Value × Nat)=>cs.setIfInBounds (i*sz+p.2) p.1) vs):=by
 obtain⟨h1,h2⟩:=zEz ha he;have hb:i*sz+sz<=es.length*sz:=by
  have:=Nat.mul_le_mul_right sz (Nat.succ_le_of_lt hi);rw[Nat.succ_mul]at this; exact this
 rw[array_zipIdx_foldl];obtain⟨g1,g2⟩:=zFg (i*sz) r.cells.toList 0 vs (by simp[h1,hs,h.1]; omega);refine⟨by rw[g1,h.1,List.length_set],fun i' hi'=>?_⟩;rw[List.length_set]at hi'
 by_cases e:i'=i
 ·subst e;have eg:(es.set i' a).getD i' .un=a:=by simp[List.getD,hi]
  rw[eg];refine⟨he,hs,fun j hj=>?_⟩;rw[g2,if_pos (by simp[h1,hs]; omega)];rw[show i'*sz+j - (i'*sz+0)=j by omega];exact h2 j (by rw[hs]; exact hj)
 ·have eg:(es.set i a).getD i' .un=es.getD i' .un:=by
   simp only[List.getD]; rw[zQ (fun h=>e h.symm)]
  rw[eg];obtain⟨k1,k2,k3⟩:=h.2 i' hi';refine⟨k1,k2,fun j hj=>⟨(k3 j hj).1,?_⟩⟩;rw[g2,if_neg]
  ·exact(k3 j hj).2
  ·simp only[Array.length_toList,h1,hs,Nat.add_zero]
   rcases Nat.lt_or_ge i' i with hlt | hge
   ·have:=Nat.mul_le_mul_right sz (Nat.succ_le_of_lt hlt);rw[Nat.succ_mul]at this;omega
   ·have:=Nat.mul_le_mul_right sz (Nat.succ_le_of_lt (Nat.lt_of_le_of_ne hge (fun h=>e h.symm)));rw[Nat.succ_mul]at this;omega
theorem aFillEs_sound{w:World}{E:En}{len sz:Nat}:∀(parts:List (Nat × AV)) (rs:List (Nat × Value)) (es es':List AV) (vs:Array Value),es.length=len->parts.map (·.1)=rs.map (·.1)->parts.length=rs.length ->
  (∀ i,i < parts.length->RepV w E (parts.getD i default).2 (rs.getD i default).2)->RepR w E sz es vs->aFillEs len sz es parts=some es' ->
  ∃ vs',Instr.fill (fun i=>some (i*sz,sz)) vs rs=some vs'/\RepR w E sz es' vs'/\es'.length=len
 | [],[],es,es',vs,hlen,_,_,_,hc,h=>by simp only[aFillEs]at h; cases h; exact⟨vs,rfl,hc,hlen⟩
 | [],_::_,_,_,_,_,_,hl,_,_,_=>by simp at hl
 | _::_,[],_,_,_,_,_,hl,_,_,_=>by simp at hl
 | (i,a)::parts,(i',r)::rs,es,es',vs,hlen,hi,hl,hr,hc,h=>by
  simp only[List.map_cons,List.cons.injEq]at hi;obtain⟨rfl,hi⟩:=hi;simp only[aFillEs]at h
  split at h
  ·rename_i hc2;have ha:RepV w E a r:=by simpa[List.getD]using hr 0 (by simp)
   obtain⟨h1,h2⟩:=zEz ha hc2.1;obtain⟨vs',g1,g2,g3⟩:=aFillEs_sound parts rs _ es' _ (by rw[List.length_set,hlen]) hi (by simpa using hl) (fun j hj=>by simpa[List.getD]using hr (j+1) (by simpa using hj)) (repR_set hc ha hc2.1 hc2.2.1 (by rw[hlen]; exact hc2.2.2)) h;refine⟨vs',?_,g2,g3⟩;simp only[Instr.fill];have hb:i*sz+sz<=len*sz:=by
    have:=Nat.mul_le_mul_right sz (Nat.succ_le_of_lt hc2.2.2);rw[Nat.succ_mul]at this; exact this
   have:¬ (r.cells.size≠sz||i*sz+r.cells.size > vs.size)=true:=by
    rw[h1,hc2.2.1,hc.1,hlen]; simp; exact hb
   rw[if_neg this];exact g1
  ·cases h
theorem zDb{t:TypeId}{z:AV}(h:zBo P t=some z):∃ zv,(P.info? t).bind (·.zero)=some zv/\(constOk zv=true/\(ofV zv).isEl=true)/\z=ofV zv/\szT P t=some z.cells.length/\0 < z.cells.length:=by
 unfold zBo at h
 split at h
 ·rename_i zv hz
  split at h
  ·rename_i hc;cases h;exact⟨zv,hz,⟨hc.1,hc.2.1⟩,rfl,hc.2.2.1,hc.2.2.2⟩
  ·cases h
 ·cases h
theorem newRow_rep{G:Gl}{w:World}{E:En}(hH:RelH G w E H)(t:TypeId){sz:Nat}{es:List AV}{vs:Array Value}(h:RepR w E sz es vs)(hsz:0 < sz)(n:Nat)(hn:n=es.length) :
  ∃ E',(newRow t vs).run P w=.ok ⟨w.heap.size,0,none⟩ (w.alloc (.cells vs t))/\RelH G (w.alloc (.cells vs t)) E' (H++[.arr sz es])/\Grow H E w (H++[.arr sz es]) E' (w.alloc (.cells vs t)) /\
   RepV (w.alloc (.cells vs t)) E' (.sl H.length 0 n n) (.slice (some ⟨w.heap.size,0,none⟩) n n):=by
 obtain⟨E',g1,g2,g3,g4,g5⟩:=newArr_sound (P:=P) hH t (Nat.le_of_eq h.1.symm) h.2;refine⟨E',g1,g2,g3,.sl g4 (Nat.le_refl _) (Nat.le_refl _) (fun _=>⟨by simp,vs.size,g5,?_⟩)⟩;simp[h.1,hn]
theorem opv_buildSlice{t:TypeId}{len:Nat}{parts:Array (Nat × Operand)}(ho:o.op=.buildSlice t len parts){elem:TypeId}(hu:P.underlying t=some (.slice elem)){z:AV}(hz:zBo P elem=some z)
  (hle:len*z.cells.length<=2^24) {es:List AV} (h:aFillEs len z.cells.length (List.replicate len z) (parts.toList.map fun p=>(p.1,ev ts p.2))=some es) :
  OpV P G n o ts H (slv H.length len) (H++[.arr z.cells.length es]):=by
 intro E w tmps hH hT hok D
 obtain⟨p1,p2,p3⟩:=parts_rep hT (parts_ok (by rw[ho]; rfl) hok) D;obtain⟨zv,hzv,hzc,rfl,hs,hpos⟩:=zDb hz;obtain⟨h1,_⟩:=zEj hzc w E;obtain⟨vs',g1,g2,g3⟩:=aFillEs_sound _ _ _ _ _ (by simp) p1 p2 p3 (repR_zero hzc w E len) h;obtain⟨E',q1,q2,q3,q4⟩:=newRow_rep (P:=P) hH elem g2 hpos len g3.symm;have q5:RepV (w.alloc (.cells vs' elem)) E' (slv H.length len) (.slice (some ⟨w.heap.size,0,none⟩) len len):=by
  cases len with
  | zero=>exact .zs
  | succ m=>exact q4
 refine⟨E',_,_,q2,q3,q5,.inl ?_⟩;rw[h1]at g1;have hzr:=zCe (P:=P) hzv w;have hnot:¬ len*(ofV zv).cells.length > 2^24:=by omega
 by_cases h0:len=0
 ·subst h0;have e0:((Array.range (0*(ofV zv).cells.length)).map (fun q=>zv.cells[q % (ofV zv).cells.length]!))=#[]:=by simp
  have e1:((Array.range (0*(ofV zv).cells.length)).map (fun q=>(#[]:Array Value)[q % 0]!))=#[]:=by simp
  simp only[execOp,ho,Instr.buildSlice,Sem.run_bind,run_underlying hu,Result.andThen_ok,zBd hs,if_neg hnot];rw[e0]at g1;simp only[Nat.zero_mul,if_true,Sem.run_pure,Result.andThen_ok,Array.range_zero',List.size_toArray,List.length_nil,Array.map_empty];rw[g1];simp only[Sem.run_bind,q1,Result.andThen_ok,Sem.run_pure]
 ·have hne:¬ len*(ofV zv).cells.length=0:=by
   have:=Nat.mul_pos (Nat.pos_of_ne_zero h0) hpos; omega
  simp only[execOp,ho,Instr.buildSlice,Sem.run_bind,run_underlying hu,Result.andThen_ok,zBd hs,if_neg hnot,if_neg hne,hzr,Sem.run_pure];rw[h1,g1];simp only[Sem.run_bind,q1,Result.andThen_ok,Sem.run_pure]
end
section
variable {P:Program} {G:Gl} {n:Nat} {o:Oper} {ts:Nat->AV} {H H':List AO} {v:AV} {C:Prop}
theorem wrap_i64{x:Int}(h1:-9223372036854775808<=x)(h2:x < 9223372036854775808):IntKind.i64.wrap x=x:=by
 have e1:(2:Int)^IntKind.i64.bits=18446744073709551616:=rfl;have e2:(2:Int)^(IntKind.i64.bits - 1)=9223372036854775808:=rfl;have e3:IntKind.i64.signed=true:=rfl;unfold IntKind.wrap;simp only[e1,e2,e3,Bool.true_and,decide_eq_true_eq]
 split <;> omega
theorem bytesT_run{t:TypeId}{m:Nat}(h:zCr P t=some m)(w:World):∃ i,(typeInfo t).run P w=.ok i w/\i.bytes=m:=by
 unfold zCr at h;cases hi:P.info? t with
 | none=>rw[hi]at h; cases h
 | some i=>rw[hi]at h; simp at h; exact⟨i,by simp[typeInfo,hi],h⟩
theorem askRoom_run(k:Nat)(w:World):(askRoom k).run P w=.ok () w:=by
 unfold askRoom
 split <;> rfl
theorem opv_makeSlice{t:TypeId}{l c:Operand}(ho:o.op=.makeSlice t l c){elem:TypeId}(hu:P.underlying t=some (.slice elem)){k1 k2:IntKind}{m q:Int}(hl:aInt (ev ts l)=some (k1,m))(hc:aInt (ev ts c)=some (k2,q))
  {z:AV} (hz:zBo P elem=some z) {by':Nat} (hb:zCr P elem=some by') (hC:0<=m/\m=q/\by'*m<=2^40/\m<=2^40) :
  OpV P G n o ts H (slv H.length m.toNat) (H++[.arr z.cells.length (List.replicate m.toNat z)]):=by
 intro E w tmps hH hT hok D
 obtain⟨q1,q2⟩:=opd2 (by rw[ho]; rfl) hok;have hl':=zFf (zAv hT q1 D) hl;have hc':=zFf (zAv hT q2 D) hc;obtain⟨h0,rfl,hb1,hb2⟩:=hC;obtain⟨zv,hzv,hzc,rfl,hs,hpos⟩:=zDb hz;obtain⟨h1,_⟩:=zEj hzc w E;obtain⟨E',g1,g2,g3,g4⟩:=newRow_rep (P:=P) hH elem (repR_zero hzc w E m.toNat) hpos m.toNat (by simp);have g4':RepV (w.alloc (.cells ((Array.range (m.toNat*zv.cells.size)).map (fun q=>zv.cells[q % zv.cells.size]!)) elem)) E' (slv H.length m.toNat) (.slice (some ⟨w.heap.size,0,none⟩) m.toNat m.toNat):=by
  cases hm:m.toNat with
  | zero=>exact .zs
  | succ j=>rw[hm]at g4; exact g4
 refine⟨E',_,_,g2,g3,g4',.inl ?_⟩;obtain⟨info,hi,hib⟩:=bytesT_run (P:=P) hb w;have hw:IntKind.i64.wrap m=m:=wrap_i64 (by omega) (by omega);have hzr:=zCe (P:=P) hzv w;have hbig:¬ ((by':Int)*m > 2^48):=by omega
 rw[h1]at g1
 by_cases h00:m.toNat=0
 ·have e:((Array.range (m.toNat*(ofV zv).cells.length)).map (fun q=>zv.cells[q % (ofV zv).cells.length]!))=#[]:=by simp[h00]
  rw[e]at g1;simp only[execOp,ho,hl',hc',Instr.makeSlice,Sem.run_bind,run_underlying hu,Result.andThen_ok,asInt,asIntOf,Sem.run_pure,hi,hib,hw];rw[if_neg (by simp[hbig]; omega)];simp only[Sem.run_bind,askRoom_run,Result.andThen_ok,zBd hs];rw[if_pos (by simp[h00])];simp only[Sem.run_pure,Result.andThen_ok,h00,Nat.zero_mul];have e2:∀ z:Array Value,((Array.range 0).map (fun q=>z[q % z.size]!))=#[]:=fun z=>by simp
  simp only[Sem.run_bind,Sem.run_pure,Result.andThen_ok,e2,g1]
 ·have hne:¬ m.toNat*(ofV zv).cells.length=0:=by
   have:=Nat.mul_pos (Nat.pos_of_ne_zero h00) hpos; omega
  simp only[execOp,ho,hl',hc',Instr.makeSlice,Sem.run_bind,run_underlying hu,Result.andThen_ok,asInt,asIntOf,Sem.run_pure,hi,hib,hw];rw[if_neg (by simp[hbig]; omega)];simp only[Sem.run_bind,askRoom_run,Result.andThen_ok,zBd hs];rw[if_neg hne];simp only[Sem.run_bind,hzr,Result.andThen_ok,Sem.run_pure,h1,g1]
theorem aBound_run{w:World}{E:En}{d:Nat}{c:Prop}{m:Nat}:∀ {x:Option AV} {r:Option Value},zBi d x=some (c,m)->c->(∀ v,x=some v->∃ u,r=some u/\RepV w E v u)->(x=none->r=none) ->
  (r=none/\m=d)\/(∃ k i,r=some (.int k i)/\0<=i/\m=i.toNat)
 | none,r,h,hc,h1,h2=>by simp only[zBi]at h; cases h; exact .inl ⟨h2 rfl,rfl⟩
 | some v,r,h,hc,h1,h2=>by
  simp only[zBi]at h;obtain⟨u,rfl,hu⟩:=h1 v rfl;cases hi:aInt v with
  | none=>rw[hi]at h; cases h
  | some p =>
   obtain⟨k,i⟩:=p;rw[hi]at h;simp only[Option.some.injEq,Prod.mk.injEq]at h;obtain⟨rfl,rfl⟩:=h;exact .inr ⟨k,i,by rw[zFf hu hi],hc,rfl⟩
theorem zEh{lo hi:Option Value}{d l h cap:Nat}(hlo:(lo=none/\l=0)\/(∃ k i,lo=some (.int k i)/\0<=i/\l=i.toNat))(hhi:(hi=none/\h=d)\/(∃ k i,hi=some (.int k i)/\0<=i/\h=i.toNat))
  (h1:l<=h) (h2:h<=cap) (w:World):(Instr.sliceBounds true d cap lo hi none).run P w=.ok (l,h,cap) w:=by
 have hb:∀(k:IntKind) (i:Int) (y:Nat) (cd:BoundsCode),0<=i->i.toNat<=y->(Instr.sliceBound (.int k i) y cd).run P w=.ok i.toNat w:=by
  intro k i y cd h0 hy
  have:0<=i/\i<=y:=by omega
  simp only[Instr.sliceBound,asIntOf,Sem.run_bind,Sem.run_pure,Result.andThen_ok];rw[if_pos this];rfl
 rcases hlo with ⟨rfl,rfl⟩ | ⟨k,i,rfl,hi0,rfl⟩ <;> rcases hhi with ⟨rfl,rfl⟩ | ⟨k',i',rfl,hi0',rfl⟩
 ·simp[Instr.sliceBounds,Sem.run_bind,Result.andThen]
 ·simp[Instr.sliceBounds,Sem.run_bind,Result.andThen,hb k' i' cap _ hi0' h2]
 ·simp[Instr.sliceBounds,Sem.run_bind,Result.andThen,hb k i _ _ hi0 h1]
 ·simp[Instr.sliceBounds,Sem.run_bind,Result.andThen,hb k' i' cap _ hi0' h2,hb k i _ _ hi0 h1]
theorem sliceBounds_run'(sl:Bool){lo hi:Option Value}{d l h cap:Nat}(hlo:(lo=none/\l=0)\/(∃ k i,lo=some (.int k i)/\0<=i/\l=i.toNat))(hhi:(hi=none/\h=d)\/(∃ k i,hi=some (.int k i)/\0<=i/\h=i.toNat))
  (h1:l<=h) (h2:h<=cap) (w:World):(Instr.sliceBounds sl d cap lo hi none).run P w=.ok (l,h,cap) w:=by
 have hb:∀(k:IntKind) (i:Int) (y:Nat) (cd:BoundsCode),0<=i->i.toNat<=y->(Instr.sliceBound (.int k i) y cd).run P w=.ok i.toNat w:=by
  intro k i y cd h0 hy
  have:0<=i/\i<=y:=by omega
  simp only[Instr.sliceBound,asIntOf,Sem.run_bind,Sem.run_pure,Result.andThen_ok];rw[if_pos this];rfl
 rcases hlo with ⟨rfl,rfl⟩ | ⟨k,i,rfl,hi0,rfl⟩ <;> rcases hhi with ⟨rfl,rfl⟩ | ⟨k',i',rfl,hi0',rfl⟩
 ·simp[Instr.sliceBounds,Sem.run_bind,Result.andThen]
 ·simp[Instr.sliceBounds,Sem.run_bind,Result.andThen,hb k' i' cap _ hi0' h2]
 ·simp[Instr.sliceBounds,Sem.run_bind,Result.andThen,hb k i _ _ hi0 h1]
 ·simp[Instr.sliceBounds,Sem.run_bind,Result.andThen,hb k' i' cap _ hi0' h2,hb k i _ _ hi0 h1]
theorem zDj{lo hi:Option Value}{k:IntKind}{d l h cap:Nat}{q:Int}(hlo:(lo=none/\l=0)\/(∃ k i,lo=some (.int k i)/\0<=i/\l=i.toNat))(hhi:∃ k i,hi=some (.int k i)/\0<=i/\h=i.toNat)
  (h0:0<=q) (h1:l<=h) (h2:h<=q.toNat) (h3:q.toNat<=cap) (w:World):(Instr.sliceBounds true d cap lo hi (some (.int k q))).run P w=.ok (l,h,q.toNat) w:=by
 have hb:∀(k:IntKind) (i:Int) (y:Nat) (cd:BoundsCode),0<=i->i.toNat<=y->(Instr.sliceBound (.int k i) y cd).run P w=.ok i.toNat w:=by
  intro k i y cd h0 hy
  have:0<=i/\i<=y:=by omega
  simp only[Instr.sliceBound,asIntOf,Sem.run_bind,Sem.run_pure,Result.andThen_ok];rw[if_pos this];rfl
 obtain⟨k',i',rfl,hi0',rfl⟩:=hhi
 rcases hlo with ⟨rfl,rfl⟩ | ⟨k2,i,rfl,hi0,rfl⟩
 ·simp[Instr.sliceBounds,Sem.run_bind,Result.andThen,hb k q cap _ h0 h3,hb k' i' _ _ hi0' h2]
 ·simp[Instr.sliceBounds,Sem.run_bind,Result.andThen,hb k q cap _ h0 h3,hb k' i' _ _ hi0' h2,hb k2 i _ _ hi0 h1]
theorem opt_all{x:Option Operand}(h:x.toArray.all (zDi n)=true):∀ y,x=some y->zDi n y=true:=by
 intro y hy; subst hy; simpa using h
theorem bound_lo{w:World}{E:En}{tmps:Array Value}(hT:RepT w E n ts tmps){x:Option Operand}(hx:∀ y,x=some y->zDi n y=true)(D:List Deferred) :
  (∀ v,x.map (ev ts)=some v->∃ u,x.map (Act.eval ⟨tmps,D⟩)=some u/\RepV w E v u)/\(x.map (ev ts)=none->x.map (Act.eval ⟨tmps,D⟩)=none):=by
 cases x with
 | none=>exact⟨fun v h=>(by cases h),fun _=>rfl⟩
 | some y=>exact⟨fun v h=>(by cases h; exact⟨_,rfl,zAv hT (hx y rfl) D⟩),fun h=>(by cases h)⟩
theorem zEe{es:List AV}{l h i:Nat}(hh:h<=es.length)(hi:i < h - l):((es.drop l).take (h - l)).getD i .un=es.getD (l+i) .un :=
 zBq es .un l (h - l) i hi (by omega)
theorem zBr{d:Nat}{x:Option AV}{c:Prop}{m:Nat}(h:zBi d x=some (c,m)){w:World}{E:En}{r:Option Value}(h1:(∀ v,x=some v->∃ u,r=some u/\RepV w E v u)/\(x=none->r=none))(hc:c) :
  (r=none/\m=d)\/(∃ k i,r=some (.int k i)/\0<=i/\m=i.toNat):=aBound_run h hc h1.1 h1.2
theorem max_inv{x:Option AV}{k:IntKind}{i:Int}(h:x.bind aInt=some (k,i)){w:World}{E:En}{r:Option Value}(h1:(∀ v,x=some v->∃ u,r=some u/\RepV w E v u)/\(x=none->r=none)):r=some (.int k i):=by
 cases x with
 | none=>cases h
 | some v =>
  obtain⟨u,rfl,hu⟩:=h1.1 v rfl;rw[zFf hu h]
theorem opv_slice{t:TypeId}{x:Operand}{lo hi mx:Option Operand}(ho:o.op=.slice t x lo hi mx)(h:zCm P t (ev ts x) H (lo.map (ev ts)) (hi.map (ev ts)) (mx.map (ev ts))=some (C,v))(hC:C):OpV P G n o ts H v H:=by
 have hopd:zBj n o=true->zDi n x=true/\(∀ y,lo=some y->zDi n y=true)/\(∀ y,hi=some y->zDi n y=true)/\(∀ y,mx=some y->zDi n y=true):=by
  intro hok
  simp only[zBj,ho,Op.operands,zA,Array.all_append]at hok;have h2:=hok.2;exact⟨by simpa using h2.1.1.1,opt_all h2.1.1.2,opt_all h2.1.2,opt_all h2.2⟩
 refine OpV.pure fun E w tmps hH hT hok D=>?_
 obtain⟨k0,k1,k2,k3⟩:=hopd hok;have hx:=zAv hT k0 D;have hlo:=bound_lo hT k1 D;have hhi:=bound_lo hT k2 D;have hmx:=bound_lo hT k3 D
 generalize hr0:Act.eval ⟨tmps,D⟩ x=r0 at hx
 generalize hev:ev ts x=a at hx h
 generalize hel:lo.map (Act.eval ⟨tmps,D⟩)=rl at hlo
 generalize heh:hi.map (Act.eval ⟨tmps,D⟩)=rh at hhi
 generalize hem:mx.map (Act.eval ⟨tmps,D⟩)=rm at hmx
 have hexec:execOp (Act.eval ⟨tmps,D⟩) o=(do pure (.value (<- Instr.sliceAt t r0 rl rh rm))):=by
  simp only[execOp,ho,hr0,hel,heh,hem]
 have hrun:∀(sv:Value) (e:TypeId),P.underlying t=some (.slice e)->(Instr.slice t r0 rl rh rm).run P w=.ok sv w->(execOp (Act.eval ⟨tmps,D⟩) o).run P w=.ok (.value sv) w:=by
  intro sv e hu hs
  simp only[hexec,Instr.sliceAt,Sem.run_bind,run_underlying hu,Result.andThen_ok,hs,Sem.run_pure]
 unfold zCm at h
 split at h
 ·rename_i elem id st len cap hu hmxe;obtain rfl:=hmx.2 hmxe
  split at h
  ·rename_i sz sz' es c1 l c2 hh hsz hob hb1 hb2
   split at h
   ·rename_i heq;subst heq;simp only[Option.some.injEq,Prod.mk.injEq]at h;obtain⟨rfl,rfl⟩:=h;obtain⟨hc1,hc2,hlh,hhc⟩:=hC;have g1:=zBr hb1 hlo hc1;have g2:=zBr hb2 hhi hc2;cases hx with
    | sl hl h1 h2 h3 =>
     rename_i lc ad cc;obtain⟨l',hl',hz,_⟩:=hH.obj id _ hob rfl;rw[hl]at hl'; cases hl';have hsb:=zEh (P:=P) g1 g2 hlh (Nat.le_trans hhc h2) w;refine⟨.slice (some (if cc=l then ad else ad.add (l*sz'))) (hh - l) (cc - l),.sl hl (by omega) (by omega) (fun hcl=>?_),hrun _ _ hu ?_⟩
     ·obtain⟨rfl,n',hn',hle⟩:=h3 (by omega);rw[if_neg (by omega)];refine⟨by rw[zCp,Nat.add_mul,Nat.add_assoc,hz],n',hn',?_⟩;rw[show st+l+(cc - l)=st+cc by omega]; exact hle
     ·simp only[Instr.slice,Sem.run_bind,run_underlying hu,Result.andThen_ok,hsb,zBd hsz,Sem.run_pure]
      congr 2
      split <;> rfl
   ·cases h
  ·cases h
 ·rename_i elem es hu hmxe;obtain rfl:=hmx.2 hmxe
  split at h
  ·rename_i sz c1 l c2 hh hsz hb1 hb2;simp only[Option.some.injEq,Prod.mk.injEq]at h;obtain⟨rfl,rfl⟩:=h;obtain⟨hc1,hc2,hlh,hhc,hcell⟩:=hC;have g1:=zBr hb1 hlo hc1;have g2:=zBr hb2 hhi hc2;cases hx with
   | isl hf hcc he hcl hc hr =>
    rename_i ad cc sz' f;have hsb:=zEh (P:=P) g1 g2 hlh (Nat.le_trans hhc hcc) w;have hlen:((es.drop l).take (hh - l)).length=hh - l:=by simp; omega
    have hzz:l < hh->sz'=sz:=fun hlt=>by rw[<- hcell hlt,<- (he l (by omega)).2]
    have hrep:RepV w E (.isl ((es.drop l).take (hh - l))) (.slice (some (if cc=l then ad else ad.add (l*sz))) ((es.drop l).take (hh - l)).length (cc - l)):=by
     have hadd:l < hh->(if cc=l then ad else ad.add (l*sz))=⟨ad.block,ad.off+l*sz,none⟩:=fun hlt=>by
      rw[if_neg (by omega)];obtain⟨b,off,sp⟩:=ad;obtain rfl:sp=none:=(hf (by omega)).2;exact zCp _ _ _
     refine .isl (f:=fun i j=>f (l+i) j) (sz:=sz') (fun h0=>by rw[hlen]at h0; rw[hadd (by omega)]; exact⟨(hf (by omega)).1,rfl⟩) (by rw[hlen]; omega) (fun i hi=>?_) (fun i j hi hj=>?_) (fun i j hi hj=>?_) (fun i j hi hj=>?_)
     ·rw[hlen]at hi; rw[zEe hhc hi]; exact he _ (by omega)
     ·rw[hlen]at hi;have h5:=hzz (by omega);subst h5;have h6:=hcl (l+i) j (by omega) hj;rw[hadd (by omega)];rw[show ad.off+l*sz'+i*sz'+j=ad.off+(l+i)*sz'+j by rw[Nat.add_mul]; omega];exact h6
     ·rw[hlen]at hi; rw[zEe hhc hi]; exact hc _ j (by omega) hj
     ·rw[hlen]at hi; rw[zEe hhc hi]; exact hr _ j (by omega) hj
    rw[hlen]at hrep;refine⟨_,hrep,hrun _ _ hu ?_⟩;simp only[Instr.slice,Sem.run_bind,run_underlying hu,Result.andThen_ok,hsb,zBd hsz,Sem.run_pure]
    congr 2
    split <;> rfl
  ·cases h
 ·rename_i elem hu hmxe;obtain rfl:=hmx.2 hmxe;have hr0':=hx.c_inv;subst hr0'
  split at h
  ·rename_i sz c1 l c2 hh hsz hb1 hb2;simp only[Option.some.injEq,Prod.mk.injEq]at h;obtain⟨rfl,rfl⟩:=h;obtain⟨hc1,hc2,hlh,hhc⟩:=hC;have g1:=zBr hb1 hlo hc1;have g2:=zBr hb2 hhi hc2;have hsb:=zEh (P:=P) g1 g2 hlh hhc w;refine⟨_,.c rfl,hrun _ _ hu ?_⟩;simp only[Instr.slice,Sem.run_bind,run_underlying hu,Result.andThen_ok,hsb,zBd hsz,Sem.run_pure];have:l=0/\hh=0:=by omega
   obtain⟨rfl,rfl⟩:=this;rfl
  ·cases h
 ·rename_i elem hu hmxe;obtain rfl:=hmx.2 hmxe
  split at h
  ·rename_i sz c1 l c2 hh hsz hb1 hb2;simp only[Option.some.injEq,Prod.mk.injEq]at h;obtain⟨rfl,rfl⟩:=h;obtain⟨hc1,hc2,hlh,hhc⟩:=hC;have g1:=zBr hb1 hlo hc1;have g2:=zBr hb2 hhi hc2;have hsb:=zEh (P:=P) g1 g2 hlh hhc w;cases hx with
   | zs =>
    rename_i ad;refine⟨_,.zs (a:=ad),hrun _ _ hu ?_⟩;simp only[Instr.slice,Sem.run_bind,run_underlying hu,Result.andThen_ok,hsb,zBd hsz,Sem.run_pure];have:l=0/\hh=0:=by omega
    obtain⟨rfl,rfl⟩:=this;rfl
  ·cases h
 ·rename_i elem m hu hmxe;have hr0':=hx.c_inv;subst hr0'
  split at h
  ·rename_i sz kq q c1 l kh hh hsz hq hb1 hb2;simp only[Option.some.injEq,Prod.mk.injEq]at h;obtain⟨rfl,rfl⟩:=h;obtain⟨hc1,rfl,rfl,rfl⟩:=hC;have g1:=zBr hb1 hlo hc1;have g2:=max_inv hb2 hhi;have g3:=max_inv (x:=mx.map (ev ts)) (by rw[hmxe]; exact hq) hmx;subst g2 g3;have hsb:=zDj (P:=P) (d:=0) (cap:=0) (hi:=some (.int kh 0)) (h:=0) g1 ⟨kh,0,rfl,Int.le_refl _,rfl⟩ (Int.le_refl 0) (k:=kq) (q:=0) (by simp) (by simp) (by simp) w;refine⟨_,.c rfl,hrun _ _ hu ?_⟩;simp only[Instr.slice,Sem.run_bind,run_underlying hu,Result.andThen_ok,hsb,zBd hsz,Sem.run_pure];rfl
  ·cases h
 ·rename_i elem es m hu hmxe
  split at h
  ·rename_i sz kq q c1 l kh hh hsz hq hb1 hb2;simp only[Option.some.injEq,Prod.mk.injEq]at h;obtain⟨rfl,rfl⟩:=h;obtain⟨hc1,rfl,rfl,rfl⟩:=hC;have g1:=zBr hb1 hlo hc1;have g2:=max_inv hb2 hhi;have g3:=max_inv (x:=mx.map (ev ts)) (by rw[hmxe]; exact hq) hmx;subst g2 g3;cases hx with
   | isl hf hcc he hcl hc hr =>
    rename_i ad cc sz' f;have hsb:=zDj (P:=P) (d:=es.length) (cap:=cc) (hi:=some (.int kh 0)) (h:=0) g1 ⟨kh,0,rfl,Int.le_refl _,rfl⟩ (Int.le_refl 0) (k:=kq) (q:=0) (by simp) (by simp) (by simp) w;refine⟨_,.zs (a:=ad),hrun _ _ hu ?_⟩;simp only[Instr.slice,Sem.run_bind,run_underlying hu,Result.andThen_ok,hsb,zBd hsz,Sem.run_pure];rfl
  ·cases h
 ·rename_i elem id st len cap m hu hmxe
  split at h
  ·rename_i sz kq q c1 l kh hh hsz hq hb1 hb2
   split at h
   ·rename_i hq0;subst hq0;simp only[Option.some.injEq,Prod.mk.injEq]at h;obtain⟨rfl,rfl⟩:=h;obtain⟨hc1,rfl,rfl⟩:=hC;have g1:=zBr hb1 hlo hc1;have g2:=max_inv hb2 hhi;have g3:=max_inv (x:=mx.map (ev ts)) (by rw[hmxe]; exact hq) hmx;subst g2 g3;cases hx with
    | sl hl h1 h2 h3 =>
     rename_i lc ad cc;have hsb:=zDj (P:=P) (d:=len) (cap:=cc) (hi:=some (.int kh 0)) (h:=0) g1 ⟨kh,0,rfl,Int.le_refl _,rfl⟩ (Int.le_refl 0) (k:=kq) (q:=0) (by simp) (by simp) (by simp) w;refine⟨_,.zs (a:=ad),hrun _ _ hu ?_⟩;simp only[Instr.slice,Sem.run_bind,run_underlying hu,Result.andThen_ok,hsb,zBd hsz,Sem.run_pure];rfl
   ·rename_i hq0
    split at h
    ·rename_i sz' es hob
     split at h
     ·rename_i heq;subst heq;simp only[Option.some.injEq,Prod.mk.injEq]at h;obtain⟨rfl,rfl⟩:=h;obtain⟨hc1,hh0,hlh,hhq,hqc⟩:=hC;have e0:0<=q:=Int.le_trans hh0 hhq;have e1:hh.toNat<=q.toNat:=Int.toNat_le_toNat hhq;have e2:q.toNat<=cap:=by simpa using Int.toNat_le_toNat hqc
      have g1:=zBr hb1 hlo hc1;have g2:=max_inv hb2 hhi;have g3:=max_inv (x:=mx.map (ev ts)) (by rw[hmxe]; exact hq) hmx;subst g2 g3;cases hx with
      | sl hl h1 h2 h3 =>
       rename_i lc ad cc;obtain⟨l',hl',hz,_⟩:=hH.obj id _ hob rfl;rw[hl]at hl'; cases hl';have hsb:=zDj (P:=P) (d:=len) (cap:=cc) (hi:=some (.int kh hh)) (h:=hh.toNat) g1 ⟨kh,hh,rfl,hh0,rfl⟩ e0 (k:=kq) (q:=q) hlh e1 (Nat.le_trans e2 h2) w;refine⟨.slice (some (if q.toNat=l then ad else ad.add (l*sz'))) (hh.toNat - l) (q.toNat - l),.sl hl (Nat.sub_le_sub_right e1 l) (Nat.le_refl _) (fun hcl=>?_),hrun _ _ hu ?_⟩
       ·have hlt:l < q.toNat:=Nat.lt_of_sub_pos hcl;obtain⟨rfl,n',hn',hle⟩:=h3 (Nat.lt_of_lt_of_le (Nat.lt_of_le_of_lt (Nat.zero_le _) hlt) e2);rw[if_neg (Nat.ne_of_gt hlt)];have e9:st+l+(q.toNat - l)<=st+cc:=by rw[Nat.add_assoc,Nat.add_sub_cancel' (Nat.le_of_lt hlt)]; exact Nat.add_le_add_left (Nat.le_trans e2 h2) st
        refine⟨by rw[zCp,Nat.add_mul,Nat.add_assoc,hz],n',hn',Nat.le_trans (Nat.add_le_add_left (Nat.mul_le_mul_right _ e9) _) hle⟩
       ·simp only[Instr.slice,Sem.run_bind,run_underlying hu,Result.andThen_ok,hsb,zBd hsz,Sem.run_pure]
        congr 2
        split <;> rfl
     ·cases h
    ·cases h
  ·cases h
 ·rename_i elem m hu hmxe
  split at h
  ·rename_i sz kq q c1 l kh hh hsz hq hb1 hb2;simp only[Option.some.injEq,Prod.mk.injEq]at h;obtain⟨rfl,rfl⟩:=h;obtain⟨hc1,rfl,rfl,rfl⟩:=hC;have g1:=zBr hb1 hlo hc1;have g2:=max_inv hb2 hhi;have g3:=max_inv (x:=mx.map (ev ts)) (by rw[hmxe]; exact hq) hmx;subst g2 g3;cases hx with
   | zs =>
    rename_i ad;have hsb:=zDj (P:=P) (d:=0) (cap:=0) (hi:=some (.int kh 0)) (h:=0) g1 ⟨kh,0,rfl,Int.le_refl _,rfl⟩ (Int.le_refl 0) (k:=kq) (q:=0) (by simp) (by simp) (by simp) w;refine⟨_,.zs (a:=ad),hrun _ _ hu ?_⟩;simp only[Instr.slice,Sem.run_bind,run_underlying hu,Result.andThen_ok,hsb,zBd hsz,Sem.run_pure];rfl
  ·cases h
 ·rename_i s hu hmxe;obtain rfl:=hmx.2 hmxe;have hr0':=hx.c_inv;subst hr0'
  split at h
  ·rename_i c1 l c2 hh hb1 hb2;simp only[Option.some.injEq,Prod.mk.injEq]at h;obtain⟨rfl,rfl⟩:=h;obtain⟨hc1,hc2,hlh,hhc⟩:=hC;have g1:=zBr hb1 hlo hc1;have g2:=zBr hb2 hhi hc2;have hsb:=sliceBounds_run' (P:=P) false g1 g2 hlh hhc w;refine⟨_,.c rfl,?_⟩;simp only[hexec,Instr.sliceAt,Instr.slice,Sem.run_bind,run_underlying hu,Result.andThen_ok];simp only[Option.isSome_none,Bool.false_eq_true,if_false,Sem.run_bind,Sem.run_pure,Result.andThen_ok,hsb]
  ·cases h
 ·rename_i m elem id off hu hmxe;obtain rfl:=hmx.2 hmxe
  split at h
  ·rename_i sz c1 l c2 hh hsz hb1 hb2;simp only[Option.some.injEq,Prod.mk.injEq]at h;obtain⟨rfl,rfl⟩:=h;obtain⟨hc1,hc2,hlh,hhc,hor⟩:=hC;have g1:=zBr hb1 hlo hc1;have g2:=zBr hb2 hhi hc2;have hsb:=sliceBounds_run' (P:=P) false g1 g2 hlh hhc w;cases hx with
   | ptr hl =>
    rename_i lc;refine⟨.slice (some ⟨lc.b,lc.base+(off+l*sz),none⟩) (hh - l) (m - l),.bs hl (by omega),?_⟩;simp only[hexec,Instr.sliceAt,Sem.run_bind,run_underlying hu,Result.andThen_ok,Instr.sureAddr,Sem.run_pure,hsb,zBd hsz]
    congr 3
    congr 2
    split
    ·rename_i he;have:l=0:=by clear g1 g2 hsb; omega
     subst this;simp
    ·rw[zCp,Nat.add_assoc]
  ·cases h
 ·rename_i m elem cs off hu hmxe;obtain rfl:=hmx.2 hmxe
  split at h
  ·rename_i sz c1 l c2 hh hsz hb1 hb2;simp only[Option.some.injEq,Prod.mk.injEq]at h;obtain⟨rfl,rfl⟩:=h;obtain⟨rfl,hc1,hc2,hlh,hhc,hle,hor⟩:=hC;have g1:=zBr hb1 hlo hc1;have g2:=zBr hb2 hhi hc2;have hsb:=sliceBounds_run' (P:=P) false g1 g2 hlh hhc w;cases hx with
   | iptr hf hcl hc hr =>
    rename_i b q f;have hlen:((cs.drop (off+l)).take (hh - l)).length=hh - l:=by simp; omega
    have hg:∀ i,i < hh - l->((cs.drop (off+l)).take (hh - l)).getD i .un=cs.getD (off+l+i) .un:=fun i hi=>zBq cs .un (off+l) (hh - l) i hi (by omega)
    have hrep:RepV w E (.isl ((cs.drop (off+l)).take (hh - l))) (.slice (some ⟨b,q+(off+l),none⟩) ((cs.drop (off+l)).take (hh - l)).length (m - l)):=by
     refine .isl (f:=fun i _=>f (off+l+i)) (sz:=1) (fun _=>⟨hf,rfl⟩) (by rw[hlen]; omega) (fun i hi=>?_) (fun i j hi hj=>?_) (fun i j hi hj=>?_) (fun i j hi hj=>?_)
     ·rw[hlen]at hi; rw[hg i hi];have:=hc (off+l+i) (by omega);exact⟨zEt this,by rw[zBc this]; rfl⟩
     ·rw[hlen]at hi;have:=hcl (off+l+i) (by omega);rw[show q+(off+l)+i*1+j=q+(off+l+i) by omega];exact this
     ·rw[hlen]at hi; rw[hg i hi];have:=hc (off+l+i) (by omega);rw[zBc this];obtain rfl:j=0:=by omega
      exact this
     ·rw[hlen]at hi; rw[hg i hi];have h1:=hc (off+l+i) (by omega);rw[zBc h1];obtain rfl:j=0:=by omega
      exact hr (off+l+i) (by omega)
    rw[hlen]at hrep;refine⟨_,hrep,?_⟩;simp only[hexec,Instr.sliceAt,Sem.run_bind,run_underlying hu,Result.andThen_ok,Instr.sureAddr,Sem.run_pure,hsb,zBd hsz]
    congr 3
    congr 2
    split
    ·rename_i he;have:l=0:=by clear g1 g2 hsb; omega
     subst this;simp
    ·rw[zCp,Nat.add_assoc,Nat.mul_one]
  ·cases h
 ·cases h
theorem opv_len{args:Array Operand}{tys:Array TypeId}(ho:o.op=.call { callee:=.builtin .len,args:=args,argTypes:=tys }){t:TypeId}{x:Operand}(ht:tys[0]?=some t)(hx0:args[0]?=some x){q:Int}(h:aLen P t (ev ts x)=some q) :
  OpV P G n o ts H (.c (.int .i64 q)) H :=
 OpV.pure fun E w tmps hH hT hok D=>by
  have hx1:zDi n x=true:=by
   simp only[zBj,ho,Op.operands,Call.operands,zA]at hok;exact(Array.all_eq_true'.1 hok.2) x (by simp; exact Array.mem_of_getElem? hx0)
  have hx:=zAv hT hx1 D;refine⟨_,.c rfl,?_⟩;have ha:(args.map (Act.eval ⟨tmps,D⟩))[0]?=some (Act.eval ⟨tmps,D⟩ x):=by simp[hx0]
  have hexec:execOp (Act.eval ⟨tmps,D⟩) o=(do pure (.value (<- Builtin.len_ tys o.type (args.map (Act.eval ⟨tmps,D⟩))))):=by
   simp[execOp,ho,resolve,invoke,builtin]
  have hl:(Builtin.len_ tys o.type (args.map (Act.eval ⟨tmps,D⟩))).run P w=.ok (.int .i64 q) w:=by
   unfold aLen at h;simp only[Builtin.len_,ht,ha]
   generalize Act.eval ⟨tmps,D⟩ x=r0 at hx
   generalize ev ts x=a at hx h
   split at h <;> first
    | (cases h; done)
    | (cases h
       cases hx;simp only[Sem.run_bind,run_underlying (by assumption) w,Result.andThen_ok];rfl)
  rw[hexec];simp only[Sem.run_bind,hl,Result.andThen_ok,Sem.run_pure]
end
end Go.Ab
