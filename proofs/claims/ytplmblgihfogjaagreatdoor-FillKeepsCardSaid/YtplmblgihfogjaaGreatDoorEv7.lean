/- A text of this claim. -/
import Derived.Test.YtplmblgihfogjaaGreatDoorEv6
import Derived.Laws.AppendOwn
set_option maxHeartbeats 40000000
set_option maxRecDepth 400000
set_option linter.all false
namespace Go.Ab
section
variable {P:Program} {G:Gl} {n:Nat} {o:Oper} {ts:Nat->AV} {H H':List AO} {v:AV} {C:Prop}
theorem rel_move{w w':World}{E:En}(h:RelH G w E H){id:Nat}{o:AO}{l:Loc}(hH:H[id]?=some o)(ho:o.live=true)(hloc:E.loc id=some l)
  (ao:AO) (l':Loc) (hb:l'.b=l.b) (hsz:w'.heap.size=w.heap.size) (hoth:∀ b,b≠l.b->w'.heap[b]?=w.heap[b]?) (hrow:∀ n,zAu w l.b=some n->zAu w' l.b=some n)
  (hos:w'.os=w.os) (htape:w'.tape=w.tape) (hout:OutOk w w')
  (hr:Mono w E w' (E.put H.length l')->RelO w' (E.put H.length l') ao l') :
  RelH G w' (E.put H.length l') (H.set id .dead++[ao])/\Grow H E w (H.set id .dead++[ao]) (E.put H.length l') w'/\(E.put H.length l').loc H.length=some l':=by
 obtain⟨h1,g1⟩:=zBw h hH ho hloc .dead hsz hoth hrow hos htape hout (fun _=>trivial);have hlen:(H.set id AO.dead).length=H.length:=List.length_set;have hid:id < H.length:=(List.getElem?_eq_some_iff.1 hH).1;have hm2:Mono w' E w' (E.put H.length l'):=by
  have:=mono_put h1 l'
  rwa [hlen]at this
 have hm:=g1.mono.trans hm2;have hnew:(E.put H.length l').loc H.length=some l':=by simp[En.put]
 have hold:∀ j,j < H.length->(E.put H.length l').loc j=E.loc j:=fun j hj=>by
  show(if j=H.length then some l' else E.loc j)=E.loc j;rw[if_neg (by omega)]
 have hget:∀ j oj,(H.set id AO.dead++[ao])[j]?=some oj->(j < H.length/\(H.set id AO.dead)[j]?=some oj)\/(j=H.length/\oj=ao):=by
  intro j oj hj
  rcases Nat.lt_trichotomy j H.length with q | q | q
  ·rw[zL (by rw[hlen]; exact q)]at hj; exact .inl ⟨q,hj⟩
  ·subst q;rw[List.getElem?_append_right (by rw[hlen]; exact Nat.le_refl _),hlen]at hj;simp at hj; exact .inr ⟨rfl,hj.symm⟩
  ·rw[List.getElem?_append_right (by rw[hlen]; omega)]at hj;rw[List.getElem?_eq_none (by simp; omega)]at hj; cases hj
 have hdd:∀ j oj,(H.set id AO.dead)[j]?=some oj->oj.live=true->j≠id/\H[j]?=some oj:=by
  intro j oj hj hoj
  by_cases e:id=j
  ·subst e; rw[zS hid]at hj; cases hj; simp[AO.live]at hoj
  ·rw[zQ e]at hj; exact⟨fun q=>e q.symm,hj⟩
 have hne:∀ j oj lj,(H.set id AO.dead)[j]?=some oj->oj.live=true->E.loc j=some lj->lj.b≠l.b:=fun j oj lj hj hoj hlj e =>
  (hdd j oj hj hoj).1 (h.inj j id oj o lj l (hdd j oj hj hoj).2 hoj hH ho hlj hloc e)
 refine⟨⟨?_,?_,?_,?_,?_,?_⟩,⟨hm,by omega,fun b _ hb'=>hoth b (fun e=>hb' ⟨id,o,l,hH,ho,hloc,e.symm⟩),fun _ q=>.inl q,?_,hos,htape,hout⟩,hnew⟩
 ·intro j oj hj hoj
  rcases hget j oj hj with ⟨q1,q2⟩ | ⟨q1,q2⟩
  ·obtain⟨lj,hlj,hrj⟩:=h1.obj j oj q2 hoj;exact⟨lj,by rw[hold j q1]; exact hlj,hrj.mono hm2 rfl⟩
  ·subst q1; subst q2; exact⟨l',hnew,hr hm⟩
 ·intro j j' o1 o2 l1 l2 hj1 ho1 hj2 ho2 hl1 hl2 he
  rcases hget j o1 hj1 with ⟨q1,q1'⟩ | ⟨q1,q1'⟩ <;> rcases hget j' o2 hj2 with ⟨q2,q2'⟩ | ⟨q2,q2'⟩
  ·rw[hold j q1]at hl1; rw[hold j' q2]at hl2;exact h1.inj j j' o1 o2 l1 l2 q1' ho1 q2' ho2 hl1 hl2 he
  ·rw[hold j q1]at hl1; subst q2; rw[hnew]at hl2; cases hl2;exact absurd (he.trans hb) (hne j o1 l1 q1' ho1 hl1)
  ·rw[hold j' q2]at hl2; subst q1; rw[hnew]at hl1; cases hl1;exact absurd (he.symm.trans hb) (hne j' o2 l2 q2' ho2 hl2)
  ·omega
 ·intro b hb'
  obtain⟨c,t,f,hc⟩:=h1.frob b hb';exact⟨c,t,f,hc⟩
 ·rintro b hb' ⟨j,oj,lj,hj,hoj,hlj,rfl⟩
  rcases hget j oj hj with ⟨q1,q2⟩ | ⟨q1,q2⟩
  ·rw[hold j q1]at hlj;exact h1.sep _ hb' ⟨j,oj,lj,q2,hoj,hlj,rfl⟩
  ·subst q1; rw[hnew]at hlj; cases hlj;rw[hb]at hb';exact h.sep _ hb' ⟨id,o,l,hH,ho,hloc,rfl⟩
 ·intro j lj hlj
  rw[List.length_append,hlen]
  by_cases e:j=H.length
  ·simp[e]
  ·have q:E.loc j=some lj:=by
    have q2:(if j=H.length then some l' else E.loc j)=some lj:=hlj
    rwa [if_neg e]at q2
   have:=h.dom j lj q;simp; omega
 ·intro g cs hg; exact(h.gl g cs hg).mono hm
 ·rintro b ⟨j,oj,lj,hj,hoj,hlj,rfl⟩
  rcases hget j oj hj with ⟨q1,q2⟩ | ⟨q1,q2⟩
  ·rw[hold j q1]at hlj;exact .inl ⟨j,oj,lj,(hdd j oj q2 hoj).2,hoj,hlj,rfl⟩
  ·subst q1; rw[hnew]at hlj; cases hlj;exact .inl ⟨id,o,l,hH,ho,hloc,hb.symm⟩
theorem getD_map_range{α:Type}(f:Nat->α)(m q:Nat)(hq:q < m)(d:α):((List.range m).map f).getD q d=f q:=by
 simp[List.getD,hq]
theorem zCt{α:Type}(l:List α)(q:Nat)(d:α):l.toArray.getD q d=l.getD q d:=by
 simp[List.getD,Array.getD_eq_getD_getElem?]
theorem elsOf_sound{w:World}{E:En}(hH:RelH G w E H){x:AV}{r:Value}(hx:RepV w E x r){sz:Nat}{c:Prop}{els:List AV}(h:elsOf H sz x=some (c,els))(hc:c)(hsz:0 < sz) :
  ∃ vs:List Value,RepR w E sz els vs.toArray/\(Builtin.lenOf r).run P w=.ok els.length w/\∀ w':World,w'.heap=w.heap->(Builtin.firstCells sz els.length r).run P w'=.ok vs.toArray w':=by
 have hcell:∀(w':World),w'.heap=w.heap->∀ a:Addr,w'.cell? a=w.cell? a:=fun w' hw a=>cell?_of_heap (by rw[hw])
 have hnil:∀(a:Option Addr) (cc:Nat),∃ vs:List Value,RepR w E sz [] vs.toArray/\(Builtin.lenOf (.slice a 0 cc)).run P w=.ok ([]:List AV).length w/\∀ w':World,w'.heap=w.heap->(Builtin.firstCells sz ([]:List AV).length (.slice a 0 cc)).run P w'=.ok vs.toArray w':=by
  intro a cc
  refine⟨[],⟨by simp,fun i hi=>by simp at hi⟩,rfl,fun w' hw=>?_⟩;cases a <;> simp[Builtin.firstCells,loadCells,loadCellsFrom]
 unfold elsOf at h
 split at h
 ·rename_i id st len cap
  split at h
  ·rename_i sz' es ho
   split at h
   ·rename_i hcnd;obtain⟨rfl,hle⟩:=hcnd;cases h;cases hx with | @sl _ _ _ _ l ad cc hl h1 h2 h3 =>
    obtain⟨l',hl',hs,cs,t,hcs,hbd,hr⟩:=hH.obj id _ ho rfl;rw[hl]at hl'; cases hl';have hlen:((es.drop st).take len).length=len:=by rw[List.length_take,List.length_drop]; omega
    by_cases h0:len=0
    ·subst h0;have:=hnil (some ad) cc;simpa using this
    ·obtain⟨rfl,m,hm1,hm2⟩:=h3 (by omega);refine⟨(List.range (len*sz')).map fun q=>cs.getD (l.base+st*sz'+q) undef,⟨by simp[hlen],fun i hi=>?_⟩,by rw[hlen]; rfl,fun w' hw=>?_⟩
     ·rw[hlen]at hi;have e1:((es.drop st).take len).getD i .un=es.getD (st+i) .un:=zBq es .un st len i hi hle;obtain⟨g1,g2,g3⟩:=hr (st+i) (by omega);rw[e1];refine⟨g1,g2,fun j hj=>⟨(g3 j hj).1,?_⟩⟩;have hq:i*sz'+j < len*sz':=by
       have:(i+1)*sz'<=len*sz':=Nat.mul_le_mul_right _ hi;rw[Nat.add_mul]at this; omega
      rw[zCt,getD_map_range _ _ _ hq];have:=(g3 j hj).2;rw[show l.base+st*sz'+(i*sz'+j)=l.base+(st+i)*sz'+j by rw[Nat.add_mul]; omega];exact this
     ·rw[hlen];have hll:((List.range (len*sz')).map fun q=>cs.getD (l.base+st*sz'+q) undef).length=len*sz':=by simp
      refine run_firstCells_some w' sz' len _ len cc _ hll (fun j u hju=>?_);have hj:j < len*sz':=by
       have:=(List.getElem?_eq_some_iff.1 hju).1;simpa using this
      have hu:u=cs.getD (l.base+st*sz'+j) undef:=by
       rw[List.getElem?_map,List.getElem?_range hj]at hju;simpa using hju.symm
      rw[zCp,hcell w' hw,hs,hu];refine cell?_row' hcs ?_;have:st*sz'+len*sz'<=es.length*sz':=by rw[<- Nat.add_mul]; exact Nat.mul_le_mul_right _ hle
      omega
   ·cases h
  ·cases h
 ·rename_i es;cases h;cases hx with | @isl _ ad cc sz0 f hf hcc he hce hci hre =>
  by_cases h0:els.length=0
  ·have:els=[]:=List.eq_nil_of_length_eq_zero h0;subst this;exact hnil (some ad) cc
  ·have hs0:sz0=sz:=by rw[<- (he 0 (by omega)).2]; exact hc (by omega)
   subst hs0;have hdm:∀ i j,j < sz0->(i*sz0+j) / sz0=i/\(i*sz0+j) % sz0=j:=fun i j hj=>by
    constructor
    ·rw[Nat.mul_comm,Nat.mul_add_div hsz,Nat.div_eq_of_lt hj,Nat.add_zero]
    ·rw[Nat.mul_comm,Nat.mul_add_mod,Nat.mod_eq_of_lt hj]
   refine⟨(List.range (els.length*sz0)).map fun q=>f (q / sz0) (q % sz0),⟨by simp,fun i hi=>⟨(he i hi).1,(he i hi).2,fun j hj=>⟨hci i j hi hj,?_⟩⟩⟩,rfl,fun w' hw=>?_⟩
   ·have hq:i*sz0+j < els.length*sz0:=by
     have:(i+1)*sz0<=els.length*sz0:=Nat.mul_le_mul_right _ hi;rw[Nat.add_mul]at this; omega
    rw[zCt,getD_map_range _ _ _ hq,(hdm i j hj).1,(hdm i j hj).2];exact hre i j hi hj
   ·have hll:((List.range (els.length*sz0)).map fun q=>f (q / sz0) (q % sz0)).length=els.length*sz0:=by simp
    refine run_firstCells_some w' sz0 els.length ad els.length cc _ hll (fun q u hju=>?_);have hq:q < els.length*sz0:=by
     have:=(List.getElem?_eq_some_iff.1 hju).1;simpa using this
    have hu:u=f (q / sz0) (q % sz0):=by
     rw[List.getElem?_map,List.getElem?_range hq]at hju;simpa using hju.symm
    have hi:q / sz0 < els.length:=Nat.div_lt_of_lt_mul (by rw[Nat.mul_comm]; exact hq);have hj:q % sz0 < sz0:=Nat.mod_lt _ hsz;have:=hce (q / sz0) (q % sz0) hi hj;have e:ad.off+q / sz0*sz0+q % sz0=ad.off+q:=by
     have:=Nat.div_add_mod q sz0;rw[Nat.mul_comm]at this; omega
    rw[e]at this;have hsp:=(hf (by omega)).2;obtain⟨b,of,sp⟩:=ad;simp only at hsp this;subst hsp;rw[zCp,hcell w' hw,hu];exact this
 ·cases h;cases hx;exact hnil none 0
 ·cases h;cases hx;exact hnil _ 0
 ·cases h
theorem RepR.append{w:World}{E:En}{sz:Nat}{es es':List AV}{vs vs':List Value}(h:RepR w E sz es vs.toArray)(h':RepR w E sz es' vs'.toArray)(more:List Value) :
  ∀ i,i < (es++es').length->((es++es').getD i .un).isEl=true/\((es++es').getD i .un).cells.length=sz /\
   ∀ j,j < sz->(((es++es').getD i .un).cells.getD j .un).isCell=true/\RepV w E (((es++es').getD i .un).cells.getD j .un) ((vs++vs'++more).getD (i*sz+j) undef):=by
 have hl:vs.length=es.length*sz:=by simpa using h.1
 have hl':vs'.length=es'.length*sz:=by simpa using h'.1
 intro i hi
 have hpos:∀ i m j,i < m->j < sz->i*sz+j < m*sz:=fun i m j h1 h2=>by
  have:(i+1)*sz<=m*sz:=Nat.mul_le_mul_right _ h1;rw[Nat.add_mul]at this; omega
 by_cases h1:i < es.length
 ·have e:(es++es').getD i .un=es.getD i .un:=by simp[List.getD,zL h1]
  rw[e];obtain⟨a,b,c⟩:=h.2 i h1;refine⟨a,b,fun j hj=>⟨(c j hj).1,?_⟩⟩;have hp:=hpos i es.length j h1 hj;have e2:(vs++vs'++more).getD (i*sz+j) undef=vs.getD (i*sz+j) undef:=by
   rw[List.append_assoc];simp[List.getD,zL (show i*sz+j < vs.length by omega)]
  rw[e2];have:=(c j hj).2
  rwa [zCt]at this
 ·have h2:i - es.length < es'.length:=by simp at hi; omega
  have e:(es++es').getD i .un=es'.getD (i - es.length) .un:=by simp[List.getD,List.getElem?_append_right (show es.length<=i by omega)]
  rw[e];obtain⟨a,b,c⟩:=h'.2 _ h2;refine⟨a,b,fun j hj=>⟨(c j hj).1,?_⟩⟩;have hp:=hpos _ es'.length j h2 hj;have hq:i*sz+j=vs.length+((i - es.length)*sz+j):=by
   rw[hl,<- Nat.add_assoc,<- Nat.add_mul]
   congr 2; omega
  have e2:(vs++vs'++more).getD (i*sz+j) undef=vs'.getD ((i - es.length)*sz+j) undef:=by
   rw[hq,List.append_assoc];simp only[List.getD];rw[List.getElem?_append_right (by omega),Nat.add_sub_cancel_left,zL (by omega)]
  rw[e2];have:=(c j hj).2
  rwa [zCt]at this
theorem run_append_g{t u ty e e':TypeId}{i:TypeInfo}{z:Value}(ht:P.underlying t=some (.slice e))(hu:P.underlying u=some (.slice e'))(hi:P.info? e=some i)(hz:i.zero=some z)
  {tys:Array TypeId} {args:Array Value} (ht0:tys[0]?=some t) (ht1:tys[1]?=some u) {base:Option Addr} {sLen sCap:Nat} {x:Value} (h0:args[0]?=some (.slice base sLen sCap)) (h1:args[1]?=some x) {w:World} {m:Nat} {olds news:List Value}
  (hlen:(Builtin.lenOf x).run P w=.ok m w) (hold:∀ w':World,w'.heap=w.heap->(Builtin.firstCells i.size sLen (.slice base sLen sCap)).run P w'=.ok olds.toArray w')
  (hnew:∀ w':World,w'.heap=w.heap->(Builtin.firstCells i.size m x).run P w'=.ok news.toArray w')
  (hg:sCap < sLen+m) (h63:sLen+m<=2^40) (hby:(sLen+m)*i.bytes<=2^40) :
  (Builtin.append_ tys ty args).run P w=.ok (.slice (some ⟨w.heap.size,0,none⟩) (sLen+m) (grownCap w (sLen+m) sCap e))
   (w.drew.alloc (.cells (olds++news++(Builtin.zeroCells z.cells (grownCap w (sLen+m) sCap e - (sLen+m))).toList).toArray e)):=by
 have hn:¬ (sLen+m<=sCap):=by omega
 have h63':¬ (9223372036854775807 < ((sLen:Int)+(m:Int))):=by omega
 have hfit:=growslice_fits (need:=sLen+m) (old:=sCap) (bytes:=i.bytes) (by omega) (by omega);have h48':¬ (281474976710656 < Builtin.nextslicecap (sLen+m) sCap*i.bytes):=by omega
 have hf:=hnew w.drew rfl;have hfo:=hold w.drew rfl;simp[Builtin.append_,ht0,ht1,h0,h1,run_underlying ht,run_underlying hu,sizeOf,typeInfo,zeroValue,hi,hz,hlen,hn,h63',h48',Question.forced,hf,hfo,newRow,grownCap]
 congr 2
 apply Array.ext';simp[List.append_assoc]
theorem run_append_r{t u ty e e':TypeId}{i:TypeInfo}(ht:P.underlying t=some (.slice e))(hu:P.underlying u=some (.slice e'))(hi:P.info? e=some i)
  {tys:Array TypeId} {args:Array Value} (ht0:tys[0]?=some t) (ht1:tys[1]?=some u) {a:Addr} {sLen sCap:Nat} {x:Value} (h0:args[0]?=some (.slice (some a) sLen sCap)) (h1:args[1]?=some x) {w w':World} {m:Nat} {news:List Value}
  (hlen:(Builtin.lenOf x).run P w=.ok m w)
  (hnew:(Builtin.firstCells i.size m x).run P w=.ok news.toArray w) (hst:(storeCells (a.add (sLen*i.size)) news).run P w=.ok () w')
  (hg:sLen+m<=sCap) :
  (Builtin.append_ tys ty args).run P w=.ok (.slice (some a) (sLen+m) sCap) w':=by
 simp[Builtin.append_,ht0,ht1,h0,h1,run_underlying ht,run_underlying hu,sizeOf,typeInfo,hi,hlen,hg,hnew,hst]
theorem run_append_0{t u ty e e':TypeId}{i:TypeInfo}(ht:P.underlying t=some (.slice e))(hu:P.underlying u=some (.slice e'))(hi:P.info? e=some i)
  {tys:Array TypeId} {args:Array Value} (ht0:tys[0]?=some t) (ht1:tys[1]?=some u) {a:Option Addr} {sLen sCap:Nat} {x:Value} (h0:args[0]?=some (.slice a sLen sCap)) (h1:args[1]?=some x) {w:World}
  (hlen:(Builtin.lenOf x).run P w=.ok 0 w) (hnew:(Builtin.firstCells i.size 0 x).run P w=.ok #[] w) (hg:sLen<=sCap) :
  (Builtin.append_ tys ty args).run P w=.ok (.slice a sLen sCap) w:=by
 cases a <;> simp[Builtin.append_,ht0,ht1,h0,h1,run_underlying ht,run_underlying hu,sizeOf,typeInfo,hi,hlen,hg,hnew,storeCells]
theorem info_of_zeroEl{t:TypeId}{z:AV}(h:zBo P t=some z){b:Nat}(hb:zCr P t=some b):∃ i zv,P.info? t=some i/\i.zero=some zv/\i.bytes=b/\i.size=z.cells.length/\0 < z.cells.length/\zv.cells.size=z.cells.length:=by
 obtain⟨zv,hzv,hzc,rfl,hs,hpos⟩:=zDb h;obtain⟨h1,_⟩:=zEj hzc (default:World) ⟨fun _=>none,fun _=>False⟩;cases hi:P.info? t with
 | none=>simp[zCr,hi]at hb
 | some i =>
  refine⟨i,zv,rfl,?_,by simpa[zCr,hi]using hb,by simpa[szT,hi]using hs,hpos,h1⟩;simpa[hi]using hzv
end
section
variable {P:Program} {G:Gl} {n:Nat} {o:Oper} {ts:Nat->AV} {H H':List AO} {v:AV} {C:Prop}
theorem RepR.mono{w w':World}{E E':En}(hm:Mono w E w' E'){sz:Nat}{es:List AV}{vs:Array Value}(h:RepR w E sz es vs):RepR w' E' sz es vs :=
 ⟨h.1,fun i hi=>⟨(h.2 i hi).1,(h.2 i hi).2.1,fun j hj=>⟨((h.2 i hi).2.2 j hj).1,((h.2 i hi).2.2 j hj).2.mono hm⟩⟩⟩
theorem grown_rep{w:World}{E:En}(hH:RelH G w E H){e:TypeId}{sz:Nat}(hsz:0 < sz){es els:List AV}{olds news:List Value}(h1:RepR w E sz es olds.toArray)(h2:RepR w E sz els news.toArray)
  {z:Array Value} (hz:z.size=sz) {cap:Nat} (hcap:es.length+els.length<=cap) :
  ∃ E',RelH G (w.alloc (.cells (olds++news++(Builtin.zeroCells z (cap - (es.length+els.length))).toList).toArray e)) E' (H++[.arr sz (es++els)]) /\
   Grow H E w (H++[.arr sz (es++els)]) E' (w.alloc (.cells (olds++news++(Builtin.zeroCells z (cap - (es.length+els.length))).toList).toArray e)) /\
   RepV (w.alloc (.cells (olds++news++(Builtin.zeroCells z (cap - (es.length+els.length))).toList).toArray e)) E' (.sl H.length 0 (es.length+els.length) (es.length+els.length)) (.slice (some ⟨w.heap.size,0,none⟩) (es.length+els.length) cap):=by
 have hl:olds.length=es.length*sz:=by simpa using h1.1
 have hl':news.length=els.length*sz:=by simpa using h2.1
 have hsize:(olds++news++(Builtin.zeroCells z (cap - (es.length+els.length))).toList).toArray.size=cap*sz:=by
  simp only[List.size_toArray,List.length_append,Array.length_toList,size_zeroCells,hl,hl',hz,<- Nat.add_mul]
  congr 1; omega
 have hr:=zFq hH (.cells (olds++news++(Builtin.zeroCells z (cap - (es.length+els.length))).toList).toArray e) (.arr sz (es++els)) ⟨w.heap.size,0,sz⟩ rfl
  (fun E' hm _=>⟨rfl,_,e,getElem?_alloc_new w _,by
   rw[hsize]; simp only[Nat.zero_add,List.length_append]; exact Nat.mul_le_mul_right _ hcap,fun i hi=>by
   have:=(h1.mono hm).append (h2.mono hm) (Builtin.zeroCells z (cap - (es.length+els.length))).toList i hi;refine⟨this.1,this.2.1,fun j hj=>⟨(this.2.2 j hj).1,?_⟩⟩;simp only[Nat.zero_add];rw[zCt];exact(this.2.2 j hj).2⟩)
 refine⟨_,hr.1,hr.2.1,.sl hr.2.2 (Nat.le_refl _) hcap (fun _=>⟨by simp,cap*sz,?_,?_⟩)⟩
 ·unfold zAu; rw[getElem?_alloc_new]; simp only[hsize]
 ·simp
theorem isEl_one{w:World}{E:En}{sz:Nat}{els:List AV}{news:List Value}(h:RepR w E sz els news.toArray)(hsz:0 < sz):∀ u∈news,u.oneCell'=true:=by
 intro u hu
 obtain⟨q,hq,rfl⟩:=List.getElem_of_mem hu;have hl:news.length=els.length*sz:=by simpa using h.1
 have hi:q / sz < els.length:=Nat.div_lt_of_lt_mul (by rw[Nat.mul_comm]; omega);have hj:q % sz < sz:=Nat.mod_lt _ hsz;have:=(h.2 _ hi).2.2 _ hj;have e:q / sz*sz+q % sz=q:=by have:=Nat.div_add_mod q sz; rw[Nat.mul_comm]at this; omega
 rw[zCt,e]at this;have e2:news.getD q undef=news[q]:=by simp[List.getD,hq]
 rw[e2]at this;exact this.2.oneCell this.1
theorem emptyS_rep{w:World}{E:En}{a:AV}{r:Value}(h:emptyS a=true)(hr:RepV w E a r):∃ ad:Option Addr,r=.slice ad 0 0:=by
 unfold emptyS at h
 split at h
 ·cases hr; exact⟨_,rfl⟩
 ·cases hr; exact⟨_,rfl⟩
 ·cases h
theorem opv_append{args:Array Operand}{tys:Array TypeId}(ho:o.op=.call { callee:=.builtin .append,args:=args,argTypes:=tys }){t u:TypeId}{s x:Operand}(ht0:tys[0]?=some t)(ht1:tys[1]?=some u)
  (h0:args[0]?=some s) (h1:args[1]?=some x) {r:AR} (h:zBk P t u (ev ts s) (ev ts x) H=some r) (hC:r.c):OpV P G n o ts H r.v r.H:=by
 intro E w tmps hH hT hok D
 have hall:∀ y,y∈args->zDi n y=true:=fun y hy=>by
  simp only[zBj,ho,Op.operands,Call.operands,zA]at hok;exact(Array.all_eq_true'.1 hok.2) y (by simp; exact hy)
 have hs:=zAv hT (hall s (Array.mem_of_getElem? h0)) D;have hx:=zAv hT (hall x (Array.mem_of_getElem? h1)) D;have ha0:(args.map (Act.eval ⟨tmps,D⟩))[0]?=some (Act.eval ⟨tmps,D⟩ s):=by simp[h0]
 have ha1:(args.map (Act.eval ⟨tmps,D⟩))[1]?=some (Act.eval ⟨tmps,D⟩ x):=by simp[h1]
 have hexec:execOp (Act.eval ⟨tmps,D⟩) o=(do pure (.value (<- Builtin.append_ tys o.type (args.map (Act.eval ⟨tmps,D⟩))))):=by
  simp[execOp,ho,resolve,invoke,builtin]
 generalize Act.eval ⟨tmps,D⟩ s=rs at hs ha0
 generalize Act.eval ⟨tmps,D⟩ x=rx at hx ha1
 have done:∀ {E':En} {w':World} {rv:Value},RelH G w' E' r.H->Grow H E w r.H E' w'->RepV w' E' r.v rv->(Builtin.append_ tys o.type (args.map (Act.eval ⟨tmps,D⟩))).run P w=.ok rv w' ->
   ∃ E' w' q,RelH G w' E' r.H/\Grow H E w r.H E' w'/\RepV w' E' r.v q /\
    ((execOp (Act.eval ⟨tmps,D⟩) o).run P w=.ok (.value q) w'\/((execOp (Act.eval ⟨tmps,D⟩) o).run P w=.ok .skip w'/\q=undef)):=by
  intro E' w' rv g1 g2 g3 g4
  exact⟨E',w',rv,g1,g2,g3,.inl (by rw[hexec]; simp only[Sem.run_bind,g4,Result.andThen_ok,Sem.run_pure])⟩
 generalize ev ts s=as at hs h
 generalize ev ts x=ax at hx h
 unfold zBk at h
 split at h
 ·rename_i elem elem' hut huu
  split at h
  ·rename_i z by' hz hb;obtain⟨i,zv,hi,hiz,hib,his,hpos,hzs⟩:=info_of_zeroEl hz hb
   split at h
   ·cases h
   ·rename_i c els hels;have hdrew:RelH G w.drew E H/\Mono w E w.drew E:=zFk hH rfl;have gdrew:Grow H E w H E w.drew:=⟨hdrew.2,Nat.le_refl _,fun _ _ _=>rfl,fun _ h=>.inl h,fun _ h=>.inl h,rfl,rfl,⟨rfl,by first | exact Nat.le_refl _ | exact Nat.le_add_right _ _⟩⟩;have new:emptyS as=true->zDf z by' c els as H=some r->∃ E' w' q,RelH G w' E' r.H/\Grow H E w r.H E' w'/\RepV w' E' r.v q /\
      ((execOp (Act.eval ⟨tmps,D⟩) o).run P w=.ok (.value q) w'\/((execOp (Act.eval ⟨tmps,D⟩) o).run P w=.ok .skip w'/\q=undef)):=by
     intro hemp h9
     clear h;have h:=h9;clear h9;unfold zDf at h;have hfresh:=emptyS_rep hemp hs;obtain⟨a,rfl⟩:=hfresh
     split at h
     ·cases h;obtain⟨news,n1,n2,n3⟩:=elsOf_sound (P:=P) hH hx hels hC hpos;have hrun:=run_append_0 (ty:=o.type) hut huu hi ht0 ht1 ha0 ha1 n2 (by
       have:=n3 w rfl;have e:news=[]:=List.eq_nil_of_length_eq_zero (by simpa using n1.1);subst e;rw[his]; exact this) (Nat.le_refl _)
      exact done hH (Grow.refl _ _ _) hs hrun
     ·rename_i e0 l0;cases h;obtain⟨hc,hb1,hb2⟩:=hC;obtain⟨news,n1,n2,n3⟩:=elsOf_sound (P:=P) hH hx hels hc hpos;have hbn:(0+(e0::l0).length)*i.bytes<=2^40:=by rw[hib,Nat.zero_add]; exact hb1
      have hrun:=run_append_g (ty:=o.type) (olds:=[]) hut huu hi hiz ht0 ht1 ha0 ha1 n2 (fun w' hw=>by cases a <;> simp[Builtin.firstCells,loadCells,loadCellsFrom]) (by rw[his]; exact n3) (by simp) (by rw[Nat.zero_add]; exact hb2) hbn;have hge:=grownCap_ge w (0+(e0::l0).length) 0 elem;obtain⟨E',g1,g2,g3⟩:=grown_rep (e:=elem) (es:=[]) (olds:=[]) hdrew.1 hpos ⟨by simp,fun i hi=>by simp at hi⟩ (n1.mono hdrew.2) hzs (cap:=grownCap w (0+(e0::l0).length) 0 elem) hge;simp only[List.length_nil,Nat.zero_add]at g1 g2 g3 hrun;exact done g1 (gdrew.trans g2) g3 hrun
    split at h
    ·rename_i id st len cap
     split at h
     ·cases h;have hc:c:=hC;obtain⟨news,n1,n2,n3⟩:=elsOf_sound (P:=P) hH hx hels hc hpos;have hs0:=hs;cases hs0 with | @sl _ _ _ _ l ad cc hl q1 q2 q3 =>
      have hnil:news=[]:=List.eq_nil_of_length_eq_zero (by simpa using n1.1);subst hnil;have hrun:=run_append_0 (ty:=o.type) hut huu hi ht0 ht1 ha0 ha1 n2 (by rw[his]; exact n3 w rfl) (Nat.le_trans q1 q2);exact done hH (Grow.refl _ _ _) hs hrun
     ·rename_i e0 l0
      generalize hgen:e0::l0=els at hels h
      split at h
      ·rename_i sz es hid
       split at h
       ·rename_i hcnd;obtain⟨rfl,hle,hcap⟩:=hcnd;cases h;obtain⟨hc,hb1,hb2⟩:=hC;obtain⟨news,n1,n2,n3⟩:=elsOf_sound (P:=P) hH hx hels hc hpos;have hs0:=hs;cases hs0 with | @sl _ _ _ _ l ad cc hl q1 q2 q3 =>
        obtain⟨rfl,m,hm1,hm2⟩:=q3 hcap;obtain⟨olds,o1,o2,o3⟩:=elsOf_sound (P:=P) (sz:=z.cells.length) (c:=True) (els:=(es.drop st).take len) hH hs (by simp only[elsOf,hid]; rw[if_pos ⟨trivial,hle⟩]) trivial hpos;have hlen:((es.drop st).take len).length=len:=by rw[List.length_take,List.length_drop]; omega
        rw[hlen]at o2 o3;have hll:olds.length=len*z.cells.length:=by have:=o1.1; rw[hlen]at this; simpa using this
        have hnl:news.length=els.length*z.cells.length:=by simpa using n1.1
        obtain⟨l',hl',hsz,cs,tt,hcs,hbd,hr⟩:=hH.obj id _ hid rfl;rw[hl]at hl'; cases hl'
        by_cases hroom:len+els.length<=cc
        ·
         have hrow:cs.size=m:=by simpa[zAu,hcs]using hm1
         have hfit:l.base+(st+len)*z.cells.length+0+news.length<=cs.size:=by
          rw[hrow,hnl];rw[<- hsz]at hpos ⊢;have h3:(st+len)*l.sz+els.length*l.sz<=(st+cc)*l.sz:=by rw[<- Nat.add_mul]; exact Nat.mul_le_mul_right _ (by omega)
          omega
         obtain⟨w',c',g2,g3,g4,g5,g6,g7,g8,g9,g10⟩:=zBy (P:=P) l.b tt news (l.base+(st+len)*z.cells.length) 0 w cs hcs hfit (isEl_one n1 hpos);have hmv:=rel_move hH hid rfl hl (.arr z.cells.length ((es.drop st).take len++els)) ⟨l.b,l.base+st*z.cells.length,z.cells.length⟩ rfl g5 g6
          (fun k hk=>by simp only[zAu,hcs,g3]at *; rw[g4]; exact hk) g7 g8 g9 (fun hm=>⟨rfl,c',tt,g3,by
           simp only[List.length_append,hlen];rw[g4];have:l.base+st*z.cells.length+(len+els.length)*z.cells.length=l.base+(st+len)*z.cells.length+0+news.length:=by
            rw[hnl,Nat.add_mul,Nat.add_mul]; omega
           omega,fun i hi=>by
           have hap:=(o1.mono hm).append (n1.mono hm) [] i hi;refine⟨hap.1,hap.2.1,fun j hj=>⟨(hap.2.2 j hj).1,?_⟩⟩;have hgoal:=(hap.2.2 j hj).2;rw[List.append_nil]at hgoal;have hi2:i < len+els.length:=by simpa[hlen]using hi
           have hval:c'.getD (l.base+st*z.cells.length+i*z.cells.length+j) undef=(olds++news).getD (i*z.cells.length+j) undef:=by
            rw[g10]
            by_cases hlt:i < len
            ·have hp:i*z.cells.length+j < len*z.cells.length:=by
              have:(i+1)*z.cells.length<=len*z.cells.length:=Nat.mul_le_mul_right _ hlt;rw[Nat.add_mul]at this; omega
             rw[if_neg (by rw[Nat.add_mul]; omega)];have e1:(olds++news).getD (i*z.cells.length+j) undef=olds.getD (i*z.cells.length+j) undef:=by
              simp[List.getD,zL (show i*z.cells.length+j < olds.length by omega)]
             rw[e1];have hfc:=o3 w rfl;have hfc2:(Builtin.firstCells z.cells.length len (.slice (some ⟨l.b,l.base+st*l.sz,none⟩) len cc)).run P w=.ok ((List.range (len*z.cells.length)).map fun q=>cs.getD (l.base+st*z.cells.length+q) undef).toArray w:=by
              refine run_firstCells_some w z.cells.length len _ len cc _ (by simp) (fun q u hq=>?_);have hq1:q < len*z.cells.length:=by
               have:=(List.getElem?_eq_some_iff.1 hq).1;simpa using this
              have hu:u=cs.getD (l.base+st*z.cells.length+q) undef:=by
               rw[List.getElem?_map,List.getElem?_range hq1]at hq;simpa using hq.symm
              rw[zCp,hsz,hu];refine cell?_row' hcs ?_;have:st*z.cells.length+len*z.cells.length<=es.length*z.cells.length:=by rw[<- Nat.add_mul]; exact Nat.mul_le_mul_right _ hle
              omega
             rw[hfc]at hfc2
             injection hfc2 with e2
             have e3:olds=(List.range (len*z.cells.length)).map fun q=>cs.getD (l.base+st*z.cells.length+q) undef:=by
              have:=congrArg Array.toList e2;simpa using this
             rw[e3,getD_map_range _ _ _ hp]
             congr 1; omega
            ·have hp:(i - len)*z.cells.length+j < els.length*z.cells.length:=by
              have:(i - len+1)*z.cells.length<=els.length*z.cells.length:=Nat.mul_le_mul_right _ (by omega);rw[Nat.add_mul]at this; omega
             have hsplit:i*z.cells.length=len*z.cells.length+(i - len)*z.cells.length:=by
              rw[<- Nat.add_mul]; congr 1; omega
             rw[if_pos (by rw[Nat.add_mul]; omega)];have e1:(olds++news).getD (i*z.cells.length+j) undef=news.getD ((i - len)*z.cells.length+j) undef:=by
              simp only[List.getD];rw[List.getElem?_append_right (by omega)]
              congr 2; omega
             rw[e1]
             congr 1
             rw[Nat.add_mul]; omega
           rw[hval]; exact hgoal⟩)
         have hrun:=run_append_r (ty:=o.type) hut huu hi ht0 ht1 ha0 ha1 n2 (by rw[his]; exact n3 w rfl) (w':=w') (by
          rw[his,zCp,hsz];have e:l.base+st*z.cells.length+len*z.cells.length=l.base+(st+len)*z.cells.length:=by rw[Nat.add_mul]; omega
          rw[e]; exact g2) hroom
         refine done hmv.1 hmv.2.1 (.sl hmv.2.2 (Nat.le_refl _) hroom (fun _=>⟨by simp[hsz],m,?_,?_⟩)) hrun
         ·simp only[zAu,g3,g4,hrow]
         ·simp only[Nat.zero_add];rw[hsz]at hm2;rw[Nat.add_mul]at hm2; omega
        ·have hbn:(len+els.length)*i.bytes<=2^40:=by rw[hib]; exact hb1
         have hrun:=run_append_g (ty:=o.type) hut huu hi hiz ht0 ht1 ha0 ha1 n2 (by rw[his]; exact o3) (by rw[his]; exact n3) (by omega) hb2 hbn;have hdrop:=rel_drop hdrew.1 id;have hge:=grownCap_ge w (len+els.length) cc elem;obtain⟨E',g1,g2,g3⟩:=grown_rep (e:=elem) hdrop.1 hpos (o1.mono hdrew.2) (n1.mono hdrew.2) hzs (cap:=grownCap w (len+els.length) cc elem) (by rw[hlen]; exact hge);rw[hlen,List.length_set]at g3;rw[hlen]at g1 g2;exact done g1 ((gdrew.trans hdrop.2).trans g2) g3 hrun
       ·cases h
      ·cases h
    ·exact new rfl h
    ·exact new rfl h
    ·cases h
  ·cases h
 ·cases h
theorem opv_clear{args:Array Operand}{tys:Array TypeId}(ho:o.op=.call { callee:=.builtin .clear,args:=args,argTypes:=tys }){t:TypeId}{x:Operand}(ht0:tys[0]?=some t)
  (h0:args[0]?=some x) {r:AR} (h:aClear P t (ev ts x) H=some r) (hC:r.c):OpV P G n o ts H r.v r.H:=by
 intro E w tmps hH hT hok D
 have hall:∀ y,y∈args->zDi n y=true:=fun y hy=>by
  simp only[zBj,ho,Op.operands,Call.operands,zA]at hok;exact(Array.all_eq_true'.1 hok.2) y (by simp; exact hy)
 have hx:=zAv hT (hall x (Array.mem_of_getElem? h0)) D;have ha0:(args.map (Act.eval ⟨tmps,D⟩))[0]?=some (Act.eval ⟨tmps,D⟩ x):=by simp[h0]
 have hexec:execOp (Act.eval ⟨tmps,D⟩) o=(do pure (.value (<- Builtin.clear_ tys o.type (args.map (Act.eval ⟨tmps,D⟩))))):=by
  simp[execOp,ho,resolve,invoke,builtin]
 generalize Act.eval ⟨tmps,D⟩ x=rx at hx ha0
 generalize ev ts x=ax at hx h
 have done:∀ {E':En} {w':World},RelH G w' E' r.H->Grow H E w r.H E' w'->r.v=.un->(Builtin.clear_ tys o.type (args.map (Act.eval ⟨tmps,D⟩))).run P w=.ok (.tuple #[]) w' ->
   ∃ E' w' q,RelH G w' E' r.H/\Grow H E w r.H E' w'/\RepV w' E' r.v q /\
    ((execOp (Act.eval ⟨tmps,D⟩) o).run P w=.ok (.value q) w'\/((execOp (Act.eval ⟨tmps,D⟩) o).run P w=.ok .skip w'/\q=undef)):=by
  intro E' w' g1 g2 g3 g4
  exact⟨E',w',_,g1,g2,by rw[g3]; exact .tup (vs:=#[]) rfl (fun i hi=>by simp at hi),.inl (by rw[hexec]; simp only[Sem.run_bind,g4,Result.andThen_ok,Sem.run_pure])⟩
 unfold aClear at h
 split at h
 ·rename_i elem hut
  split at h
  ·rename_i id st len cap
   split at h
   ·rename_i z sz es hz hid
    split at h
    ·rename_i hcnd;obtain⟨rfl,hle,hcap⟩:=hcnd;cases h;obtain⟨zv,hzv,hzc,rfl,hs,hpos⟩:=zDb hz;obtain⟨hzl,hzr⟩:=zEj hzc w E;cases hx with | @sl _ _ _ _ l ad cc hl q1 q2 q3 =>
     obtain⟨rfl,m,hm1,hm2⟩:=q3 hcap;obtain⟨l',hl',hsz,cs,tt,hcs,hbd,hr⟩:=hH.obj id _ hid rfl;rw[hl]at hl'; cases hl';have hzrun:=zCe (P:=P) hzv w;have hzsz:(Builtin.zeroCells zv.cells len).toList.length=len*(ofV zv).cells.length:=by
      rw[Array.length_toList,size_zeroCells,hzl]
     have hrz:=repR_zero hzc w E len;have hzcells:Builtin.zeroCells zv.cells len=(Array.range (len*zv.cells.size)).map (fun q=>zv.cells[q % zv.cells.size]!):=rfl;rw[<- hzcells]at hrz;have hfit:l.base+st*(ofV zv).cells.length+0+(Builtin.zeroCells zv.cells len).toList.length<=cs.size:=by
      rw[hzsz];have:st*(ofV zv).cells.length+len*(ofV zv).cells.length<=es.length*(ofV zv).cells.length:=by rw[<- Nat.add_mul]; exact Nat.mul_le_mul_right _ hle
      omega
     have hrz2:RepR w E (ofV zv).cells.length (List.replicate len (ofV zv)) (Builtin.zeroCells zv.cells len).toList.toArray:=by simpa using hrz
     obtain⟨w',c',g2,g3,g4,g5,g6,g7,g8,g9,g10⟩:=zBy (P:=P) l.b tt (Builtin.zeroCells zv.cells len).toList (l.base+st*(ofV zv).cells.length) 0 w cs hcs hfit (isEl_one hrz2 hpos);have hlen3:(es.take st++(List.replicate len (ofV zv)++es.drop (st+len))).length=es.length:=by simp; omega
     have hres:=zBw hH hid rfl hl (.arr (ofV zv).cells.length (es.take st++(List.replicate len (ofV zv)++es.drop (st+len)))) g5 g6
      (fun k hk=>by simp only[zAu,hcs,g3]at *; rw[g4]; exact hk) g7 g8 g9 (fun hm=>⟨hsz,c',tt,g3,by rw[hlen3,g4]; exact hbd,fun i hi=>by
       rw[hlen3]at hi;have hpos2:∀ j,j < (ofV zv).cells.length->(i+1)*(ofV zv).cells.length=i*(ofV zv).cells.length+(ofV zv).cells.length:=fun j _=>by rw[Nat.add_mul]; omega
       by_cases hlt:i < st
       ·have e:(es.take st++(List.replicate len (ofV zv)++es.drop (st+len))).getD i .un=es.getD i .un:=by
         simp only[List.getD];rw[zL (by simp; omega),List.getElem?_take,if_pos hlt]
        rw[e];obtain⟨a1,a2,a3⟩:=hr i hi;refine⟨a1,a2,fun j hj=>⟨(a3 j hj).1,?_⟩⟩;have hp:i*(ofV zv).cells.length+j < st*(ofV zv).cells.length:=by
         have:(i+1)*(ofV zv).cells.length<=st*(ofV zv).cells.length:=Nat.mul_le_mul_right _ hlt;have:=hpos2 j hj; omega
        rw[g10,if_neg (by omega)];exact(a3 j hj).2.mono hm
       ·by_cases hlt2:i < st+len
        ·have e:(es.take st++(List.replicate len (ofV zv)++es.drop (st+len))).getD i .un=ofV zv:=by
          simp only[List.getD];rw[List.getElem?_append_right (by simp; omega),zL (by simp; omega),List.getElem?_replicate,if_pos (by simp; omega)]; rfl
         rw[e];have h5:=(hrz2.2 (i - st) (by simp; omega));have e6:(List.replicate len (ofV zv)).getD (i - st) .un=ofV zv:=by
          simp only[List.getD];rw[List.getElem?_replicate,if_pos (by omega)]; rfl
         rw[e6]at h5;refine⟨h5.1,rfl,fun j hj=>⟨(h5.2.2 j hj).1,?_⟩⟩;have hsp:i*(ofV zv).cells.length=st*(ofV zv).cells.length+(i - st)*(ofV zv).cells.length:=by rw[<- Nat.add_mul]; congr 1; omega
         have hp:(i - st)*(ofV zv).cells.length+j < len*(ofV zv).cells.length:=by
          have:(i - st+1)*(ofV zv).cells.length<=len*(ofV zv).cells.length:=Nat.mul_le_mul_right _ (by omega);rw[Nat.add_mul]at this; omega
         rw[g10,if_pos (by rw[hzsz]; omega)];have h7:=(h5.2.2 j hj).2.mono hm;rw[zCt]at h7;rw[show l.base+i*(ofV zv).cells.length+j - (l.base+st*(ofV zv).cells.length+0)=(i - st)*(ofV zv).cells.length+j by omega];exact h7
        ·have e:(es.take st++(List.replicate len (ofV zv)++es.drop (st+len))).getD i .un=es.getD i .un:=by
          simp only[List.getD];rw[List.getElem?_append_right (by simp; omega),List.getElem?_append_right (by simp; omega),List.getElem?_drop]
          congr 2; simp; omega
         rw[e];obtain⟨a1,a2,a3⟩:=hr i hi;refine⟨a1,a2,fun j hj=>⟨(a3 j hj).1,?_⟩⟩;have hp:(st+len)*(ofV zv).cells.length<=i*(ofV zv).cells.length:=Nat.mul_le_mul_right _ (by omega);rw[Nat.add_mul]at hp;rw[g10,if_neg (by rw[hzsz]; omega)];exact(a3 j hj).2.mono hm⟩)
     have hz2:(zeroValue elem).run P w=.ok zv w:=hzrun
     by_cases hl0:len=0
     ·subst hl0;refine done hres.1 hres.2 rfl ?_;have hw':w'=w:=by
       have:(Builtin.zeroCells zv.cells 0).toList=[]:=List.eq_nil_of_length_eq_zero (by rw[hzsz]; simp);rw[this]at g2;simp only[storeCells,Sem.run_pure]at g2
       injection g2 with _ e; exact e.symm
      rw[hw'];simp[Builtin.clear_,ht0,ha0,run_underlying hut]
     ·refine done hres.1 hres.2 rfl ?_;have e:(⟨l.b,l.base+st*l.sz,none⟩:Addr)=⟨l.b,l.base+st*(ofV zv).cells.length,none⟩:=by rw[hsz]
      rw[e]at ha0;obtain⟨len',rfl⟩:∃ k,len=k+1:=⟨len - 1,by omega⟩;simp[Builtin.clear_,ht0,ha0,run_underlying hut,hz2,g2]
    ·cases h
   ·cases h
  ·cases h;cases hx;exact done hH (Grow.refl _ _ _) rfl (by simp[Builtin.clear_,ht0,ha0,run_underlying hut])
  ·cases h;cases hx;exact done hH (Grow.refl _ _ _) rfl (by simp[Builtin.clear_,ht0,ha0,run_underlying hut])
  ·cases h
 ·cases h
end
end Go.Ab
