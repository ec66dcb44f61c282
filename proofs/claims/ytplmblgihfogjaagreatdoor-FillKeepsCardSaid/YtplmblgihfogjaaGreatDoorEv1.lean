/- A text of this claim. -/
import Derived.Laws.Entries
import Derived.Laws.Cells
set_option maxHeartbeats 40000000
set_option maxRecDepth 400000
set_option linter.all false
namespace Go.Ab
inductive AV where
 | c (v:Value)
 | agg (cs:List AV)
 | tup (vs:List AV)
 | ptr (id off:Nat)
 | eptr (id i off:Nat)
 | sl (id st len cap:Nat)
 | zs
 | isl (es:List AV)
 | iptr (cs:List AV) (off:Nat)
 | fn (f:FuncId) (first caps:List AV)
 | yld (id:Nat)
 | ifc (t:TypeId) (v:AV)
 | mp (id:Nat)
 | gp (g off:Nat)
 | bs (id off len cap sz:Nat)
 | any
def AV.un:AV:=.tup []
instance:Inhabited AV:=⟨AV.un⟩
def AV.isCell:AV->Bool
 | .agg _=>false
 | .tup _=>false
 | _=>true
def AV.isEl:AV->Bool
 | .tup _=>false
 | _=>true
def AV.cells:AV->List AV
 | .agg cs=>cs
 | v=>[v]
def plain:Value->Bool
 | .bool _=>true
 | .int _ _=>true
 | .string _=>true
 | .pointer none=>true
 | .slice none 0 0=>true
 | .map none=>true
 | .nilFunc=>true
 | .nilIface=>true
 | _=>false
structure Loc where
 b:Nat
 base:Nat
 sz:Nat
structure En where
 loc:Nat->Option Loc
 fro:Nat->Prop
def zAu(w:World)(b:Nat):Option Nat :=
 match w.heap[b]? with
 | some (.cells c _ _)=>some c.size
 | _=>none
inductive RepV(w:World)(E:En):AV->Value->Prop
 | c {v:Value} (h:plain v=true):RepV w E (.c v) v
 | agg {cs:List AV} {vs:Array Value} (hl:vs.size=cs.length) (hc:∀ i,i < cs.length->(cs.getD i .un).isCell=true)
   (h:∀ i,i < cs.length->RepV w E (cs.getD i .un) (vs.getD i undef)):RepV w E (.agg cs) (.agg vs)
 | tup {cs:List AV} {vs:Array Value} (hl:vs.size=cs.length)
   (h:∀ i,i < cs.length->RepV w E (cs.getD i .un) (vs.getD i undef)):RepV w E (.tup cs) (.tuple vs)
 | ptr {id off:Nat} {l:Loc} (h:E.loc id=some l):RepV w E (.ptr id off) (.pointer (some ⟨l.b,l.base+off,none⟩))
 | eptr {id i off:Nat} {l:Loc} (h:E.loc id=some l):RepV w E (.eptr id i off) (.pointer (some ⟨l.b,l.base+i*l.sz+off,none⟩))
 | sl {id st len cap:Nat} {l:Loc} {ad:Addr} {cc:Nat} (h:E.loc id=some l) (h1:len<=cap) (h2:cap<=cc)
   (h3:0 < cap->ad=⟨l.b,l.base+st*l.sz,none⟩/\∃ n,zAu w l.b=some n/\l.base+(st+cc)*l.sz<=n):RepV w E (.sl id st len cap) (.slice (some ad) len cc)
 | zs {a:Addr}:RepV w E .zs (.slice (some a) 0 0)
 | isl {es:List AV} {ad:Addr} {cc sz:Nat} {f:Nat->Nat->Value} (hf:0 < es.length->E.fro ad.block/\ad.spot=none) (hcc:es.length<=cc)
   (he:∀ i,i < es.length->(es.getD i .un).isEl=true/\(es.getD i .un).cells.length=sz)
   (hcell:∀ i j,i < es.length->j < sz->w.cell? ⟨ad.block,ad.off+i*sz+j,none⟩=some (f i j))
   (hc:∀ i j,i < es.length->j < sz->((es.getD i .un).cells.getD j .un).isCell=true)
   (h:∀ i j,i < es.length->j < sz->RepV w E ((es.getD i .un).cells.getD j .un) (f i j)) :
   RepV w E (.isl es) (.slice (some ad) es.length cc)
 | iptr {cs:List AV} {off b o:Nat} {f:Nat->Value} (hf:E.fro b)
   (hcell:∀ j,j < cs.length->w.cell? ⟨b,o+j,none⟩=some (f j))
   (hc:∀ j,j < cs.length->(cs.getD j .un).isCell=true)
   (h:∀ j,j < cs.length->RepV w E (cs.getD j .un) (f j)) :
   RepV w E (.iptr cs off) (.pointer (some ⟨b,o+off,none⟩))
 | fn {f:FuncId} {fs cs:List AV} {vs us:Array Value} (hl:vs.size=fs.length) (hl2:us.size=cs.length)
   (h:∀ i,i < fs.length->RepV w E (fs.getD i .un) (vs.getD i undef))
   (h2:∀ i,i < cs.length->RepV w E (cs.getD i .un) (us.getD i undef)):RepV w E (.fn f fs cs) (.func (.func f) vs us)
 | yld {id:Nat} {l:Loc} (h:E.loc id=some l):RepV w E (.yld id) (.func (.yield l.b) #[] #[])
 | ifc {t:TypeId} {a:AV} {v:Value} (h:RepV w E a v):RepV w E (.ifc t a) (.iface t v)
 | mp {id:Nat} {l:Loc} (h:E.loc id=some l):RepV w E (.mp id) (.map (some l.b))
 | gp {g off:Nat}:RepV w E (.gp g off) (.pointer (some ⟨g,off,none⟩))
 | bs {id off len cap sz:Nat} {l:Loc} (h:E.loc id=some l) (h1:len<=cap):RepV w E (.bs id off len cap sz) (.slice (some ⟨l.b,l.base+off,none⟩) len cap)
 | any {n:Int}:RepV w E .any (.int .u8 n)
structure Mono(w:World)(E:En)(w':World)(E':En):Prop where
 fro:∀ b,E.fro b->E'.fro b
 same:∀ b,E.fro b->w'.heap[b]?=w.heap[b]?
 loc:∀ id l,E.loc id=some l->E'.loc id=some l
 row:∀ b n,zAu w b=some n->zAu w' b=some n
theorem cell?_of_heap{w w':World}{a:Addr}(h:w'.heap[a.block]?=w.heap[a.block]?):w'.cell? a=w.cell? a:=by
 unfold World.cell?; rw[h]
theorem RepV.mono{w w':World}{E E':En}(hm:Mono w E w' E'){a:AV}{v:Value}(h:RepV w E a v):RepV w' E' a v:=by
 induction h with
 | c h=>exact .c h
 | agg hl hc _ ih=>exact .agg hl hc ih
 | tup hl _ ih=>exact .tup hl ih
 | ptr h=>exact .ptr (hm.loc _ _ h)
 | eptr h=>exact .eptr (hm.loc _ _ h)
 | sl h h1 h2 h3=>exact .sl (hm.loc _ _ h) h1 h2 (fun hc=>let ⟨e,n,h4,h5⟩:=h3 hc; ⟨e,n,hm.row _ _ h4,h5⟩)
 | zs=>exact .zs
 | isl hf hcc he hcell hc _ ih =>
  exact .isl (fun h0=>⟨hm.fro _ (hf h0).1,(hf h0).2⟩) hcc he (fun i j hi hj=>by
   have h0:=hm.same _ (hf (by omega)).1;exact(cell?_of_heap (a:={ block:=_,off:=_,spot:=none }) h0).trans (hcell i j hi hj)) hc ih
 | iptr hf hcell hc _ ih =>
  exact .iptr (hm.fro _ hf) (fun j hj=>by rw[cell?_of_heap (hm.same _ hf)]; exact hcell j hj) hc ih
 | fn hl hl2 _ _ ih1 ih2=>exact .fn hl hl2 ih1 ih2
 | yld h=>exact .yld (hm.loc _ _ h)
 | ifc _ ih=>exact .ifc ih
 | mp h=>exact .mp (hm.loc _ _ h)
 | gp=>exact .gp
 | bs h h1=>exact .bs (hm.loc _ _ h) h1
 | any=>exact .any
theorem Mono.refl(w:World)(E:En):Mono w E w E:=⟨fun _ h=>h,fun _ _=>rfl,fun _ _ h=>h,fun _ _ h=>h⟩
theorem Mono.trans{w w1 w2:World}{E E1 E2:En}(h:Mono w E w1 E1)(k:Mono w1 E1 w2 E2):Mono w E w2 E2 :=
 ⟨fun b hb=>k.fro b (h.fro b hb),fun b hb=>(k.same b (h.fro b hb)).trans (h.same b hb),fun i l hl=>k.loc i l (h.loc i l hl),fun b n hn=>k.row b n (h.row b n hn)⟩
theorem RepV.oneCell{w:World}{E:En}{a:AV}{v:Value}(h:RepV w E a v)(hc:a.isCell=true):v.oneCell'=true:=by
 cases h with
 | c h=>cases ‹Value› <;> simp_all [plain,Value.oneCell']
 | agg=>simp[AV.isCell]at hc
 | tup=>simp[AV.isCell]at hc
 | _=>rfl
def constOk:Value->Bool
 | .agg cs=>cs.toList.all plain
 | .tuple cs=>cs.toList.all plain
 | v=>plain v
def zDi(n:Nat):Operand->Bool
 | .tmp t=>decide (t < n)
 | .const v=>constOk v
 | .global _=>true
 | .func _=>true
def zBj(n:Nat)(o:Oper):Bool :=
 (match o.dst with | some d=>decide (d < n) | none=>true)&&o.op.operands.all (zDi n)
def zCc(n:Nat):Code->Bool
 | .skip=>true
 | .region _ ops _=>ops.all (zBj n)
 | .seq a b=>zCc n a&&zCc n b
 | .cond c a b=>zDi n c&&zCc n a&&zCc n b
 | .block _ c=>zCc n c
 | .loop c=>zCc n c
 | .rangeFunc f ps a b=>zDi n f&&ps.all (fun p=>decide (p < n))&&zCc n a&&zCc n b
 | .exit _=>true
 | .scope c=>zCc n c
 | .label _=>true
 | .goto _=>true
 | .ret=>true
 | .refuse _=>true
def isJump:Code->Bool
 | .ret=>true
 | .exit _=>true
 | .goto _=>true
 | _=>false
theorem isJump_ok{c:Code}(h:isJump c=true)(n:Nat):zCc n c=true:=by cases c <;> first | rfl | (simp[isJump]at h)
structure ALoop where
 st:LoopState
 pending:Option Code
 n:Nat
 tmps:Nat->AV
 params:Array Tmp
 assign:Code
 body:Code
inductive AO where
 | cells (cs:List AV)
 | arr (sz:Nat) (es:List AV)
 | map (es:List (Nat × AV × AV)) (clock:Nat)
 | mit (mid since:Nat) (seen:List Nat) (stepped:Nat)
 | loop (l:ALoop)
 | dead
def AO.live:AO->Bool
 | .dead=>false
 | _=>true
def AlE(w:World)(E:En):List (Nat × AV × AV)->List MapEntry->Prop
 | [],[]=>True
 | e::es,c::cs=>c.born=e.1/\RepV w E e.2.1 c.key/\RepV w E e.2.2 c.val/\AlE w E es cs
 | _,_=>False
theorem AlE.mono{w w':World}{E E':En}(hm:Mono w E w' E'):∀ {es:List (Nat × AV × AV)} {cs:List MapEntry},AlE w E es cs->AlE w' E' es cs
 | [],[],h=>h
 | e::es,c::cs,h=>⟨h.1,h.2.1.mono hm,h.2.2.1.mono hm,AlE.mono hm h.2.2.2⟩
 | [],_::_,h=>h.elim
 | _::_,[],h=>h.elim
def RelO(w:World)(E:En):AO->Loc->Prop
 | .cells cs,l=>∃ c t,w.heap[l.b]?=some (.cells c t (0,0))/\l.base+cs.length<=c.size /\
   ∀ i,i < cs.length->(cs.getD i .un).isCell=true/\RepV w E (cs.getD i .un) (c.getD (l.base+i) undef)
 | .arr sz es,l=>l.sz=sz/\∃ c t,w.heap[l.b]?=some (.cells c t (0,0))/\l.base+es.length*sz<=c.size /\
   ∀ i,i < es.length->(es.getD i .un).isEl=true/\(es.getD i .un).cells.length=sz /\
    ∀ j,j < sz->((es.getD i .un).cells.getD j .un).isCell=true/\RepV w E ((es.getD i .un).cells.getD j .un) (c.getD (l.base+i*sz+j) undef)
 | .map es clock,l=>∃ ces:Array MapEntry,w.heap[l.b]?=some (.map ces clock)/\AlE w E es ces.toList
 | .mit mid since seen stepped,l=>∃ lm:Loc,l.base=0/\E.loc mid=some lm/\w.heap[l.b]?=some (.mapIter (some lm.b) since seen.toArray stepped)
 | .loop al,l=>∃ fn tmps d,w.heap[l.b]?=some (.loop { state:=al.st,pending:=al.pending,fn,tmps,params:=al.params,assign:=al.assign,body:=al.body,defers:=d }) /\
   tmps.size=al.n/\(∀ i,i < al.n->RepV w E (al.tmps i) (tmps.getD i undef))/\(zCc al.n al.assign&&zCc al.n al.body&&(al.params.all fun p=>decide (p < al.n))&&al.pending.all isJump)=true
 | .dead,_=>True
def Live(H:List AO)(E:En)(b:Nat):Prop:=∃ id o l,H[id]?=some o/\o.live=true/\E.loc id=some l/\l.b=b
abbrev Gl:=Nat->Option (List AV)
structure RelH(G:Gl)(w:World)(E:En)(H:List AO):Prop where
 obj:∀ id o,H[id]?=some o->o.live=true->∃ l,E.loc id=some l/\RelO w E o l
 inj:∀ id id' o o' l l',H[id]?=some o->o.live=true->H[id']?=some o'->o'.live=true->E.loc id=some l->E.loc id'=some l'->l.b=l'.b->id=id'
 frob:∀ b,E.fro b->∃ c t f,w.heap[b]?=some (.cells c t f)
 sep:∀ b,E.fro b->¬ Live H E b
 dom:∀ id l,E.loc id=some l->id < H.length
 gl:∀ g cs,G g=some cs->RepV w E (.iptr cs 0) (.pointer (some ⟨g,0,none⟩))
structure OutOk(w w':World):Prop where
 out:w'.output=w.output
 drawn:w.drawn<=w'.drawn
theorem OutOk.trans{w w1 w2:World}(h:OutOk w w1)(k:OutOk w1 w2):OutOk w w2:=⟨k.out.trans h.out,Nat.le_trans h.drawn k.drawn⟩
theorem OutOk.refl(w:World):OutOk w w:=⟨rfl,Nat.le_refl _⟩
structure Grow(H:List AO)(E:En)(w:World)(H':List AO)(E':En)(w':World):Prop where
 mono:Mono w E w' E'
 size:w.heap.size<=w'.heap.size
 same:∀ b,b < w.heap.size->¬ Live H E b->w'.heap[b]?=w.heap[b]?
 newfro:∀ b,E'.fro b->E.fro b\/w.heap.size<=b\/Live H E b
 newlive:∀ b,Live H' E' b->Live H E b\/w.heap.size<=b
 os:w'.os=w.os
 tape:w'.tape=w.tape
 output:OutOk w w'
theorem Grow.refl(H:List AO)(E:En)(w:World):Grow H E w H E w :=
 ⟨Mono.refl _ _,Nat.le_refl _,fun _ _ _=>rfl,fun _ h=>.inl h,fun _ h=>.inl h,rfl,rfl,⟨rfl,by first | exact Nat.le_refl _ | exact Nat.le_add_right _ _⟩⟩
theorem Grow.trans{H H1 H2:List AO}{E E1 E2:En}{w w1 w2:World}(h:Grow H E w H1 E1 w1)(k:Grow H1 E1 w1 H2 E2 w2):Grow H E w H2 E2 w2 where
 mono:=h.mono.trans k.mono
 size:=Nat.le_trans h.size k.size
 same:=fun b hb hl=>by
  rw[k.same b (Nat.lt_of_lt_of_le hb h.size) (fun hl'=>by
   rcases h.newlive b hl' with h1 | h1
   ·exact hl h1
   ·omega)]
  exact h.same b hb hl
 newfro:=fun b hb=>by
  rcases k.newfro b hb with h1 | h1 | h1
  ·exact h.newfro b h1
  ·exact .inr (.inl (Nat.le_trans h.size h1))
  ·rcases h.newlive b h1 with h2 | h2
   ·exact .inr (.inr h2)
   ·exact .inr (.inl h2)
 newlive:=fun b hb=>by
  rcases k.newlive b hb with h1 | h1
  ·exact h.newlive b h1
  ·exact .inr (Nat.le_trans h.size h1)
 os:=k.os.trans h.os
 tape:=k.tape.trans h.tape
 output:=h.output.trans k.output
theorem zBg{w:World}{b:Nat}{o:Obj}(h:w.heap[b]?=some o):b < w.heap.size:=by
 rcases Nat.lt_or_ge b w.heap.size with h' | h'
 ·exact h'
 ·simp[Array.getElem?_eq_none h']at h
theorem RelO.ndef{w:World}{E:En}{o:AO}{l:Loc}(h:RelO w E o l)(ho:o.live=true)(ds:Option (List Deferred)):w.heap[l.b]?≠some (.deferred ds):=by
 cases o with
 | cells cs=>obtain⟨c,t,hc,_⟩:=h; rw[hc]; simp
 | arr sz es=>obtain⟨_,c,t,hc,_⟩:=h; rw[hc]; simp
 | map es clock=>obtain⟨c,hc,_⟩:=h; rw[hc]; simp
 | mit mid since seen stepped=>obtain⟨lm,_,_,hc⟩:=h; rw[hc]; simp
 | loop al=>obtain⟨fn,t,d,hc,_⟩:=h; rw[hc]; simp
 | dead=>simp[AO.live]at ho
theorem RelO.mono{w w':World}{E E':En}(hm:Mono w E w' E'){o:AO}{l:Loc}(h:RelO w E o l)(hb:w'.heap[l.b]?=w.heap[l.b]?):RelO w' E' o l:=by
 cases o with
 | cells cs =>
  obtain⟨c,t,hc,hs,hr⟩:=h;exact⟨c,t,by rw[hb,hc],hs,fun i hi=>⟨(hr i hi).1,(hr i hi).2.mono hm⟩⟩
 | arr sz es =>
  obtain⟨h0,c,t,hc,hs,hr⟩:=h;exact⟨h0,c,t,by rw[hb,hc],hs,fun i hi=>⟨(hr i hi).1,(hr i hi).2.1,fun j hj=>⟨((hr i hi).2.2 j hj).1,((hr i hi).2.2 j hj).2.mono hm⟩⟩⟩
 | map es clock =>
  obtain⟨c,hc,hr⟩:=h;exact⟨c,by rw[hb,hc],hr.mono hm⟩
 | mit mid since seen stepped =>
  obtain⟨lm,h0,h1,hc⟩:=h;exact⟨lm,h0,hm.loc _ _ h1,by rw[hb,hc]⟩
 | loop al =>
  obtain⟨fn,tm,d,hc,hs,hr,hk⟩:=h;exact⟨fn,tm,d,by rw[hb,hc],hs,fun i hi=>(hr i hi).mono hm,hk⟩
 | dead=>trivial
theorem Live.lt{G:Gl}{w:World}{E:En}{H:List AO}(h:RelH G w E H){b:Nat}(hl:Live H E b):b < w.heap.size:=by
 obtain⟨id,o,l,hH,ho,hloc,rfl⟩:=hl;obtain⟨l',hl',hr⟩:=h.obj id o hH ho;rw[hl']at hloc; cases hloc;cases o with
 | cells cs=>obtain⟨c,t,hc,_⟩:=hr; exact zBg hc
 | arr sz es=>obtain⟨_,c,t,hc,_⟩:=hr; exact zBg hc
 | map es clock=>obtain⟨c,hc,_⟩:=hr; exact zBg hc
 | mit mid since seen stepped=>obtain⟨lm,_,_,hc⟩:=hr; exact zBg hc
 | loop al=>obtain⟨fn,t,d,hc,_⟩:=hr; exact zBg hc
 | dead=>simp[AO.live]at ho
theorem RelH.not_live_def{G:Gl}{w:World}{E:En}{H:List AO}(h:RelH G w E H){d:Nat}{ds:Option (List Deferred)}(hd:w.heap[d]?=some (.deferred ds)):¬ Live H E d:=by
 rintro⟨id,o,l,hH,ho,hloc,rfl⟩
 obtain⟨l',hl',hr⟩:=h.obj id o hH ho;rw[hl']at hloc; cases hloc;exact hr.ndef ho _ hd
theorem zFk{G:Gl}{w w':World}{E:En}{H:List AO}(h:RelH G w E H)(hh:w'.heap=w.heap):RelH G w' E H/\Mono w E w' E:=by
 have hm:Mono w E w' E:=⟨fun _ h=>h,fun _ _=>by rw[hh],fun _ _ h=>h,fun b n hn=>by unfold zAu at *; rw[hh]; exact hn⟩;refine⟨⟨fun id o hH ho=>?_,h.inj,fun b hb=>by rw[hh]; exact h.frob b hb,h.sep,h.dom,fun g cs hg=>(h.gl g cs hg).mono hm⟩,hm⟩;obtain⟨l,hl,hr⟩:=h.obj id o hH ho;exact⟨l,hl,hr.mono hm (by rw[hh])⟩
def En.put(E:En)(id:Nat)(l:Loc):En:={ E with loc:=fun j=>if j=id then some l else E.loc j }
theorem getElem?_alloc_lt{w:World}{o:Obj}{b:Nat}(h:b < w.heap.size):(w.alloc o).heap[b]?=w.heap[b]?:=by
 show(w.heap.push o)[b]?=_;rw[Array.getElem?_push,if_neg (by omega)]
theorem getElem?_alloc_new(w:World)(o:Obj):(w.alloc o).heap[w.heap.size]?=some o:=by
 show(w.heap.push o)[w.heap.size]?=_;simp
theorem mono_alloc{G:Gl}{w:World}{E:En}{H:List AO}(h:RelH G w E H)(o:Obj):Mono w E (w.alloc o) E :=
 ⟨fun _ h=>h,fun b hb=>by obtain⟨c,t,f,hc⟩:=h.frob b hb; exact getElem?_alloc_lt (zBg hc),fun _ _ h=>h,
  fun b n hn=>by
   unfold zAu at *
   rcases Nat.lt_or_ge b w.heap.size with h' | h'
   ·rw[getElem?_alloc_lt h']; exact hn
   ·simp[Array.getElem?_eq_none h']at hn⟩
theorem mono_put{G:Gl}{w:World}{E:En}{H:List AO}(h:RelH G w E H)(l:Loc):Mono w E w (E.put H.length l) :=
 ⟨fun _ h=>h,fun _ _=>rfl,fun id l' hl=>by
  have:=h.dom id l' hl;show(if id=H.length then some l else E.loc id)=some l';rw[if_neg (by omega)]; exact hl,fun _ _ h=>h⟩
theorem zEg{G:Gl}{w:World}{E:En}{H:List AO}(h:RelH G w E H)(o:Obj):RelH G (w.alloc o) E H/\Grow H E w H E (w.alloc o):=by
 have hm:=mono_alloc h o;refine⟨⟨fun id o' hH ho=>?_,h.inj,fun b hb=>?_,h.sep,h.dom,fun g cs hg=>(h.gl g cs hg).mono hm⟩,⟨hm,by simp,fun b hb _=>getElem?_alloc_lt hb,fun _ h=>.inl h,fun _ h=>.inl h,rfl,rfl,⟨rfl,by first | exact Nat.le_refl _ | exact Nat.le_add_right _ _⟩⟩⟩
 ·obtain⟨l,hl,hr⟩:=h.obj id o' hH ho;exact⟨l,hl,hr.mono hm (getElem?_alloc_lt (Live.lt h ⟨id,o',l,hH,ho,hl,rfl⟩))⟩
 ·obtain⟨c,t,f,hc⟩:=h.frob b hb;exact⟨c,t,f,by rw[getElem?_alloc_lt (zBg hc)]; exact hc⟩
theorem zFq{G:Gl}{w:World}{E:En}{H:List AO}(h:RelH G w E H)(o:Obj)(ao:AO)(l:Loc)(hl:l.b=w.heap.size)
  (hr:∀ E',Mono w E (w.alloc o) E'->E'.loc H.length=some l->RelO (w.alloc o) E' ao l) :
  RelH G (w.alloc o) (E.put H.length l) (H++[ao])/\Grow H E w (H++[ao]) (E.put H.length l) (w.alloc o)/\(E.put H.length l).loc H.length=some l:=by
 have hm:Mono w E (w.alloc o) (E.put H.length l):=(mono_put h l).trans ⟨fun _ h=>h,(mono_alloc h o).same,fun _ _ h=>h,(mono_alloc h o).row⟩;have hnew:(E.put H.length l).loc H.length=some l:=by simp[En.put]
 have hloc:∀ id,id < H.length->(E.put H.length l).loc id=E.loc id:=fun id hid=>by
  show(if id=H.length then some l else E.loc id)=E.loc id;rw[if_neg (by omega)]
 have hget:∀ id o',(H++[ao])[id]?=some o'->(id < H.length/\H[id]?=some o')\/(id=H.length/\o'=ao):=by
  intro id o' hH
  rcases Nat.lt_trichotomy id H.length with h1 | h1 | h1
  ·rw[List.getElem?_append_left h1]at hH; exact .inl ⟨h1,hH⟩
  ·subst h1; simp at hH; exact .inr ⟨rfl,hH.symm⟩
  ·rw[List.getElem?_append_right (by omega)]at hH;simp[List.getElem?_eq_none (show([ao]:List AO).length<=id - H.length by simp; omega)]at hH
 have hlive:∀ b,Live (H++[ao]) (E.put H.length l) b->Live H E b\/b=w.heap.size:=by
  rintro b ⟨id,o',l',hH,ho,hl',rfl⟩
  rcases hget id o' hH with ⟨h1,h2⟩ | ⟨h1,h2⟩
  ·rw[hloc id h1]at hl';exact .inl ⟨id,o',l',h2,ho,hl',rfl⟩
  ·subst h1;rw[hnew]at hl'; cases hl';exact .inr hl
 refine⟨⟨fun id o' hH ho=>?_,?_,fun b hb=>?_,fun b hb hlv=>?_,fun id l' hl'=>?_,fun g cs hg=>(h.gl g cs hg).mono hm⟩,
  ⟨hm,by simp,fun b hb _=>getElem?_alloc_lt hb,fun _ h=>.inl h,fun b hb=>(hlive b hb).imp id (fun e=>by omega),rfl,rfl,⟨rfl,by first | exact Nat.le_refl _ | exact Nat.le_add_right _ _⟩⟩,hnew⟩
 ·rcases hget id o' hH with ⟨h1,h2⟩ | ⟨h1,h2⟩
  ·obtain⟨l',hl',hr'⟩:=h.obj id o' h2 ho;exact⟨l',by rw[hloc id h1]; exact hl',hr'.mono hm (getElem?_alloc_lt (Live.lt h ⟨id,o',l',h2,ho,hl',rfl⟩))⟩
  ·subst h1; subst h2;exact⟨l,hnew,hr _ hm hnew⟩
 ·intro id id' o1 o2 l1 l2 hH1 ho1 hH2 ho2 hl1 hl2 hb
  rcases hget id o1 hH1 with ⟨h1,h1'⟩ | ⟨h1,h1'⟩ <;> rcases hget id' o2 hH2 with ⟨h2,h2'⟩ | ⟨h2,h2'⟩
  ·rw[hloc id h1]at hl1; rw[hloc id' h2]at hl2;exact h.inj id id' o1 o2 l1 l2 h1' ho1 h2' ho2 hl1 hl2 hb
  ·rw[hloc id h1]at hl1; subst h2; rw[hnew]at hl2; cases hl2;have:=Live.lt h ⟨id,o1,l1,h1',ho1,hl1,rfl⟩;omega
  ·rw[hloc id' h2]at hl2; subst h1; rw[hnew]at hl1; cases hl1;have:=Live.lt h ⟨id',o2,l2,h2',ho2,hl2,rfl⟩;omega
  ·omega
 ·obtain⟨c,t,f,hc⟩:=h.frob b hb;exact⟨c,t,f,by rw[getElem?_alloc_lt (zBg hc)]; exact hc⟩
 ·rcases hlive b hlv with h1 | h1
  ·exact h.sep b hb h1
  ·obtain⟨c,t,f,hc⟩:=h.frob b hb;have:=zBg hc; omega
 ·rw[List.length_append]
  by_cases h1:id=H.length
  ·simp[h1]
  ·have:E.loc id=some l':=by
    have h2:(if id=H.length then some l else E.loc id)=some l':=hl'
    rwa [if_neg h1]at h2
   have:=h.dom id l' this;simp; omega
theorem zBw{G:Gl}{w w':World}{E:En}{H:List AO}(h:RelH G w E H){id:Nat}{o:AO}{l:Loc}(hH:H[id]?=some o)(ho:o.live=true)(hloc:E.loc id=some l)
  (o':AO) (hsz:w'.heap.size=w.heap.size) (hoth:∀ b,b≠l.b->w'.heap[b]?=w.heap[b]?) (hrow:∀ n,zAu w l.b=some n->zAu w' l.b=some n)
  (hos:w'.os=w.os) (htape:w'.tape=w.tape) (hout:OutOk w w')
  (hr:Mono w E w' E->RelO w' E o' l):RelH G w' E (H.set id o')/\Grow H E w (H.set id o') E w':=by
 have hlv:Live H E l.b:=⟨id,o,l,hH,ho,hloc,rfl⟩;have hm:Mono w E w' E:=⟨fun _ h=>h,fun b hb=>hoth b (fun e=>h.sep b hb (e ▸ hlv)),fun _ _ h=>h,fun b n hn=>by
  by_cases hb:b=l.b
  ·subst hb; exact hrow n hn
  ·unfold zAu at *; rw[hoth b hb]; exact hn⟩
 have hid:id < H.length:=by
  rcases Nat.lt_or_ge id H.length with h' | h'
  ·exact h'
  ·simp[List.getElem?_eq_none h']at hH
 have hget:∀ j oj,(H.set id o')[j]?=some oj->(j=id/\oj=o')\/(j≠id/\H[j]?=some oj):=by
  intro j oj hj
  by_cases e:j=id
  ·subst e;rw[List.getElem?_set_self hid]at hj;exact .inl ⟨rfl,(Option.some.inj hj).symm⟩
  ·rw[List.getElem?_set_ne (fun h=>e h.symm)]at hj;exact .inr ⟨e,hj⟩
 have hlive:∀ b,Live (H.set id o') E b->Live H E b:=by
  rintro b ⟨j,oj,lj,hj,hoj,hlj,rfl⟩
  rcases hget j oj hj with ⟨h1,h2⟩ | ⟨h1,h2⟩
  ·subst h1; rw[hloc]at hlj; cases hlj; exact hlv
  ·exact⟨j,oj,lj,h2,hoj,hlj,rfl⟩
 refine⟨⟨fun j oj hj hoj=>?_,fun j j' o1 o2 l1 l2 h1 ho1 h2 ho2 hl1 hl2 hb=>?_,fun b hb=>?_,fun b hb hl=>h.sep b hb (hlive b hl),fun j lj hlj=>by rw[List.length_set]; exact h.dom j lj hlj,fun g cs hg=>(h.gl g cs hg).mono hm⟩,
  ⟨hm,by omega,fun b _ hb=>hoth b (fun e=>hb (e ▸ hlv)),fun _ h=>.inl h,fun b hb=>.inl (hlive b hb),hos,htape,hout⟩⟩
 ·rcases hget j oj hj with ⟨h1,h2⟩ | ⟨h1,h2⟩
  ·subst h1; subst h2; exact⟨l,hloc,hr hm⟩
  ·obtain⟨lj,hlj,hrj⟩:=h.obj j oj h2 hoj;refine⟨lj,hlj,hrj.mono hm (hoth _ (fun e=>h1 (h.inj j id oj o lj l h2 hoj hH ho hlj hloc e)))⟩
 ·have f:∀(j:Nat) (oj:AO),(H.set id o')[j]?=some oj->oj.live=true->∃ oj':AO,H[j]?=some oj'/\oj'.live=true:=by
   intro j oj hj hoj
   rcases hget j oj hj with ⟨h1,h2⟩ | ⟨h1,h2⟩
   ·subst h1; exact⟨o,hH,ho⟩
   ·exact⟨oj,h2,hoj⟩
  obtain⟨p1,hp1,hq1⟩:=f j o1 h1 ho1;obtain⟨p2,hp2,hq2⟩:=f j' o2 h2 ho2;exact h.inj j j' p1 p2 l1 l2 hp1 hq1 hp2 hq2 hl1 hl2 hb
 ·obtain⟨c,t,f,hc⟩:=h.frob b hb;exact⟨c,t,f,by rw[hm.same b hb]; exact hc⟩
theorem rel_set_plain{G:Gl}{w:World}{E:En}{H:List AO}(h:RelH G w E H){r:Nat}{ds ds':Option (List Deferred)}(hr:w.heap[r]?=some (.deferred ds)) :
  RelH G { w with heap:=w.heap.setIfInBounds r (.deferred ds') } E H/\Mono w E { w with heap:=w.heap.setIfInBounds r (.deferred ds') } E:=by
 have hoth:∀ b,b≠r->(w.heap.setIfInBounds r (.deferred ds'))[b]?=w.heap[b]?:=fun b hb=>by
  rw[Array.getElem?_setIfInBounds_ne (fun e=>hb e.symm)]
 have hm:Mono w E { w with heap:=w.heap.setIfInBounds r (.deferred ds') } E:=⟨fun _ h=>h,fun b hb=>hoth b (fun e=>by
   obtain⟨c,t,f,hc⟩:=h.frob b hb;rw[e,hr]at hc; simp at hc),fun _ _ h=>h,fun b n hn=>by
  unfold zAu at *
  by_cases hb:b=r
  ·subst hb; rw[hr]at hn; simp at hn
  ·show(match (w.heap.setIfInBounds r (.deferred ds'))[b]? with | some (.cells c _ _)=>some c.size | _=>none)=some n;rw[hoth b hb]; exact hn⟩
 refine⟨⟨fun id o hH ho=>?_,h.inj,fun b hb=>?_,h.sep,h.dom,fun g cs hg=>(h.gl g cs hg).mono hm⟩,hm⟩
 ·obtain⟨l,hl,hrl⟩:=h.obj id o hH ho;exact⟨l,hl,hrl.mono hm (hoth _ (fun e=>hrl.ndef ho ds (by rw[e]; exact hr)))⟩
 ·obtain⟨c,t,f,hc⟩:=h.frob b hb;exact⟨c,t,f,by rw[hm.same b hb]; exact hc⟩
theorem rel_drop{G:Gl}{w:World}{E:En}{H:List AO}(h:RelH G w E H)(id:Nat):RelH G w E (H.set id .dead)/\Grow H E w (H.set id .dead) E w:=by
 have hget:∀(j:Nat) (oj:AO),(H.set id AO.dead)[j]?=some oj->oj.live=true->H[j]?=some oj:=by
  intro j oj hj hoj
  by_cases e:id=j
  ·subst e
   by_cases hid:id < H.length
   ·rw[List.getElem?_set_self hid]at hj; cases hj; simp[AO.live]at hoj
   ·rw[List.set_eq_of_length_le (by omega)]at hj; exact hj
  ·rw[List.getElem?_set_ne e]at hj; exact hj
 have hlive:∀ b,Live (H.set id .dead) E b->Live H E b:=by
  rintro b ⟨j,oj,lj,hj,hoj,hlj,rfl⟩
  exact⟨j,oj,lj,hget j oj hj hoj,hoj,hlj,rfl⟩
 exact⟨⟨fun j oj hj hoj=>h.obj j oj (hget j oj hj hoj) hoj,fun j j' o1 o2 l1 l2 h1 ho1 h2 ho2=>h.inj j j' o1 o2 l1 l2 (hget _ _ h1 ho1) ho1 (hget _ _ h2 ho2) ho2,h.frob,
  fun b hb hl=>h.sep b hb (hlive b hl),fun j lj hlj=>by rw[List.length_set]; exact h.dom j lj hlj,h.gl⟩,
  ⟨Mono.refl _ _,Nat.le_refl _,fun _ _ _=>rfl,fun _ h=>.inl h,fun b hb=>.inl (hlive b hb),rfl,rfl,⟨rfl,by first | exact Nat.le_refl _ | exact Nat.le_add_right _ _⟩⟩⟩
inductive Lv where
 | nor
 | ret
 | exit (id:Nat)
 | goto (l:Nat)
 | stop (todo:List Item)
 | pan (v:AV)
def Lv.plain:Lv->Bool
 | .stop _=>false
 | .pan _=>false
 | _=>true
def ofV:Value->AV
 | .agg cs=>.agg (cs.toList.map .c)
 | .tuple cs=>.tup (cs.toList.map .c)
 | v=>.c v
def ev(ts:Nat->AV):Operand->AV
 | .tmp t=>ts t
 | .const v=>ofV v
 | .global g=>.gp g 0
 | .func f=>.fn f [] []
def isDefer:Op->Bool
 | .defer _=>true
 | _=>false
def zEn(n:Nat):Item->Bool
 | .code c=>zCc n c
 | .inBlock _=>true
 | .inLoop c=>zCc n c
 | .inScope c=>zCc n c
 | .inRegion ops _=>ops.all (zBj n)
 | .beginRound=>true
 | .inRangeFunc _=>true
 | .endRangeFunc _=>true
 | _=>false
def zDu(n:Nat)(k:List Item):Bool:=k.all (zEn n)
theorem zAm(n:Nat)(i:Item)(k:List Item):zDu n (i::k)=(zEn n i&&zDu n k):=by simp[zDu]
theorem todoOk_exitTo{n id:Nat}:∀ {k k':List Item},exitTo id k=some k'->zDu n k=true->zDu n k'=true
 | [],_,h,_=>by simp[exitTo]at h
 | i::k,k',h,hk=>by
  rw[zAm,Bool.and_eq_true]at hk;cases i <;> simp only[exitTo]at h <;> first
   | exact todoOk_exitTo h hk.2
   | (split at h
      ·cases h; exact hk.2
      ·exact todoOk_exitTo h hk.2)
theorem zFe{n:Nat}:∀ {c rest:Code} {l:Nat},findLabel c l=some rest->zCc n c=true->zCc n rest=true
 | .seq a b,rest,l,h,hc=>by
  simp only[zCc,Bool.and_eq_true]at hc;simp only[findLabel]at h;cases ha:findLabel a l with
  | some r =>
   rw[ha]at h; cases h;simp only[zCc,Bool.and_eq_true];exact⟨zFe ha hc.1,hc.2⟩
  | none =>
   rw[ha]at h;exact zFe h hc.2
 | .label l',rest,l,h,hc=>by
  simp only[findLabel]at h
  split at h
  ·cases h; rfl
  ·cases h
 | .skip,_,_,h,_=>by simp[findLabel]at h
 | .region ..,_,_,h,_=>by simp[findLabel]at h
 | .cond ..,_,_,h,_=>by simp[findLabel]at h
 | .block ..,_,_,h,_=>by simp[findLabel]at h
 | .loop ..,_,_,h,_=>by simp[findLabel]at h
 | .rangeFunc ..,_,_,h,_=>by simp[findLabel]at h
 | .exit ..,_,_,h,_=>by simp[findLabel]at h
 | .scope ..,_,_,h,_=>by simp[findLabel]at h
 | .goto ..,_,_,h,_=>by simp[findLabel]at h
 | .ret,_,_,h,_=>by simp[findLabel]at h
 | .refuse ..,_,_,h,_=>by simp[findLabel]at h
theorem todoOk_gotoIn{n l:Nat}:∀ {k k':List Item},gotoIn l k=some k'->zDu n k=true->zDu n k'=true
 | [],_,h,_=>by simp[gotoIn]at h
 | i::k,k',h,hk=>by
  have hk0:=hk;rw[zAm,Bool.and_eq_true]at hk;cases i <;> simp only[gotoIn]at h <;> first
   | exact todoOk_gotoIn h hk.2
   | (split at h
      ·rename_i hf;cases h;rw[zAm,Bool.and_eq_true];exact⟨zFe hf hk.1,hk0⟩
      ·exact todoOk_gotoIn h hk.2)
def frm(b:Frame)(tmps:Array Value)(todo:List Item)(D:List Deferred):Frame :=
 { fn:=b.fn,tmps,todo,defers:=D,mode:=.run,kind:=b.kind,roundOf:=b.roundOf }
def zDq(r:Nat):Deferred:={ target:=.collected r,args:=#[] }
def MarksOk(w:World)(D:List Deferred):Prop:=True
theorem MarksOk.grow{G:Gl}{w w':World}{E E':En}{H H':List AO}(h:RelH G w E H)(g:Grow H E w H' E' w'){D:List Deferred}(hD:MarksOk w D):MarksOk w' D:=trivial
def MarksOn(w0 w:World)(D D':List Deferred):Prop:=∃ rs:List Nat,D'=rs.map zDq++D/\rs.Nodup/\∀ r,r∈rs->w0.heap.size<=r/\w.heap[r]?=some (Obj.deferred (some []))
theorem MarksOn.refl(w:World)(D:List Deferred):MarksOn w w D D:=⟨[],rfl,List.nodup_nil,fun r hr=>(by cases hr)⟩
theorem MarksOn.le{w0 w1 w:World}{D D':List Deferred}(h:MarksOn w1 w D D')(hs:w0.heap.size<=w1.heap.size):MarksOn w0 w D D':=by
 obtain⟨rs,h1,h2,h3⟩:=h;exact⟨rs,h1,h2,fun r hr=>⟨Nat.le_trans hs (h3 r hr).1,(h3 r hr).2⟩⟩
def AtLeave(todo:List Item):Lv->Prop
 | .nor=>todo=[]
 | .ret=>∃ k,todo=.code .ret::k
 | .exit id=>∃ k,todo=.code (.exit id)::k/\exitTo id k=none
 | .goto l=>∃ k,todo=.code (.goto l)::k/\gotoIn l k=none
 | .stop t=>todo=t/\∃ ops i rest k,t=.inRegion ops (i::rest)::k
 | .pan _=>True
def RepT(w:World)(E:En)(n:Nat)(ts:Nat->AV)(tmps:Array Value):Prop :=
 tmps.size=n/\∀ i,i < n->RepV w E (ts i) (tmps.getD i undef)
theorem RepT.mono{w w':World}{E E':En}(hm:Mono w E w' E'){n:Nat}{ts:Nat->AV}{tmps:Array Value}(h:RepT w E n ts tmps):RepT w' E' n ts tmps :=
 ⟨h.1,fun i hi=>(h.2 i hi).mono hm⟩
def RoundRel(E:En)(b:Frame):Option Nat->Prop
 | none=>b.roundOf=none/\b.kind≠.early
 | some id=>∃ l,E.loc id=some l/\b.roundOf=some l.b/\b.kind=.normal
theorem RoundRel.mono{w w':World}{E E':En}(hm:Mono w E w' E'){b:Frame}{rd:Option Nat}(h:RoundRel E b rd):RoundRel E' b rd:=by
 cases rd with
 | none=>exact h
 | some id=>obtain⟨l,h1,h2⟩:=h; exact⟨l,hm.loc _ _ h1,h2⟩
section
variable (P:Program) (G:Gl)
def Lands(b:Frame)(cs:List Frame)(E':En)(w':World)(tmps':Array Value)(D':List Deferred)(todo':List Item)(m:Machine):Lv->Prop
 | .pan v=>∃ pv,RepV w' E' v pv/\Steps P m (lone ((frm b tmps' todo' D').raise [{ v:=pv,recovered:=false }]) cs w')
 | _=>Steps P m (lone (frm b tmps' todo' D') cs w')
theorem Lands.pre{b:Frame}{cs:List Frame}{E':En}{w':World}{tmps':Array Value}{D':List Deferred}{todo':List Item}{m m1:Machine}{L:Lv}(h:Steps P m m1)(h2:Lands P b cs E' w' tmps' D' todo' m1 L) :
  Lands P b cs E' w' tmps' D' todo' m L:=by
 cases L with
 | pan v=>obtain⟨pv,h3,h4⟩:=h2; exact⟨pv,h3,h.trans h4⟩
 | _=>exact h.trans h2
theorem Lands.steps{b:Frame}{cs:List Frame}{E':En}{w':World}{tmps':Array Value}{D':List Deferred}{todo':List Item}{m:Machine}{L:Lv}(h:Lands P b cs E' w' tmps' D' todo' m L)(hL:∀ v,L≠.pan v) :
  Steps P m (lone (frm b tmps' todo' D') cs w'):=by
 cases L with
 | pan v=>exact absurd rfl (hL v)
 | _=>exact h
def FW(rd:Option Nat)(n:Nat)(todo:List Item)(ts:Nat->AV)(H:List AO)(Q:Lv->(Nat->AV)->List AO->Prop):Prop :=
 zDu n todo=true->∀(E:En) (w:World) (tmps:Array Value),RelH G w E H->RepT w E n ts tmps ->
 ∀(b:Frame) (D:List Deferred) (cs:List Frame),RoundRel E b rd ->
 ∃(L:Lv) (ts':Nat->AV) (H':List AO) (E':En) (w':World) (tmps':Array Value) (D':List Deferred) (todo':List Item),
  Q L ts' H'/\RelH G w' E' H'/\Grow H E w H' E' w'/\RepT w' E' n ts' tmps'/\AtLeave todo' L/\((rd≠none->D'=D)/\MarksOn w w' D D') /\
  Lands P b cs E' w' tmps' D' todo' (lone (frm b tmps todo D) cs w) L
end
section
variable {P:Program} {G:Gl} {rd:Option Nat} {n:Nat} {k:List Item} {ts:Nat->AV} {H:List AO} {Q:Lv->(Nat->AV)->List AO->Prop}
theorem FW.step{todo todo1:List Item}(hok:zDu n todo=true->zDu n todo1=true)
  (hs:∀(b:Frame) (tmps:Array Value) (E:En) (w:World),RepT w E n ts tmps->zDu n todo=true->∀(D:List Deferred) (cs:List Frame),Steps P (lone (frm b tmps todo D) cs w) (lone (frm b tmps todo1 D) cs w))
  (h:FW P G rd n todo1 ts H Q):FW P G rd n todo ts H Q:=by
 intro hk E w tmps hH hT b D cs hrd
 obtain⟨L,ts',H',E',w',tmps',D',todo',h1,h2,h3,h4,h6,h7,h8⟩:=h (hok hk) E w tmps hH hT b D cs hrd;exact⟨L,ts',H',E',w',tmps',D',todo',h1,h2,h3,h4,h6,h7,h8.pre P (hs b tmps E w hT hk D cs)⟩
theorem FW.leave{todo:List Item}(L:Lv)(hL:AtLeave todo L)(hp:(match L with | .pan _=>False | _=>True))(hQ:Q L ts H):FW P G rd n todo ts H Q:=by
 intro hk E w tmps hH hT b D cs hrd
 exact⟨L,ts,H,E,w,tmps,D,todo,hQ,hH,Grow.refl _ _ _,hT,hL,⟨fun _=>rfl,.refl w D⟩,by cases L <;> first | exact .refl _ _ | cases hp⟩
theorem FW.nil(hQ:Q .nor ts H):FW P G rd n [] ts H Q:=FW.leave .nor rfl trivial hQ
theorem FW.ret(hQ:Q .ret ts H):FW P G rd n (.code .ret::k) ts H Q:=FW.leave .ret ⟨_,rfl⟩ trivial hQ
theorem FW.skip(h:FW P G rd n k ts H Q):FW P G rd n (.code .skip::k) ts H Q :=
 FW.step (by simp[zAm]) (fun b tmps E w _ _ D cs=>.one (step_lone_go (by simp[stepG,stepG.exec,frm]))) h
theorem FW.label{l:Nat}(h:FW P G rd n k ts H Q):FW P G rd n (.code (.label l)::k) ts H Q :=
 FW.step (by simp[zAm]) (fun b tmps E w _ _ D cs=>.one (step_lone_go (by simp[stepG,stepG.exec,frm]))) h
theorem FW.inBlock{id:Nat}(h:FW P G rd n k ts H Q):FW P G rd n (.inBlock id::k) ts H Q :=
 FW.step (by simp[zAm]) (fun b tmps E w _ _ D cs=>.one (step_lone_go (by simp[stepG,stepG.exec,frm]))) h
theorem FW.inScope{c:Code}(h:FW P G rd n k ts H Q):FW P G rd n (.inScope c::k) ts H Q :=
 FW.step (by simp[zAm]) (fun b tmps E w _ _ D cs=>.one (step_lone_go (by simp[stepG,stepG.exec,frm]))) h
theorem FW.seq{x y:Code}(h:FW P G rd n (.code x::.code y::k) ts H Q):FW P G rd n (.code (.seq x y)::k) ts H Q :=
 FW.step (by simp[zAm,zEn,zCc,and_assoc]) (fun b tmps E w _ _ D cs=>.one (step_lone_go (by simp[stepG,stepG.exec,frm]))) h
theorem FW.block{id:Nat}{c:Code}(h:FW P G rd n (.code c::.inBlock id::k) ts H Q):FW P G rd n (.code (.block id c)::k) ts H Q :=
 FW.step (by simp[zAm,zEn,zCc]) (fun b tmps E w _ _ D cs=>.one (step_lone_go (by simp[stepG,stepG.exec,frm]))) h
theorem FW.scope{c:Code}(h:FW P G rd n (.code c::.inScope c::k) ts H Q):FW P G rd n (.code (.scope c)::k) ts H Q :=
 FW.step (by simp +contextual [zAm,zEn,zCc]) (fun b tmps E w _ _ D cs=>.one (step_lone_go (by simp[stepG,stepG.exec,frm]))) h
theorem FW.loop{c:Code}(h:FW P G rd n (.code c::.inLoop c::k) ts H Q):FW P G rd n (.code (.loop c)::k) ts H Q :=
 FW.step (by simp +contextual [zAm,zEn,zCc]) (fun b tmps E w _ _ D cs=>.one (step_lone_go (by simp[stepG,stepG.exec,frm]))) h
theorem FW.inLoop{c:Code}(h:FW P G rd n (.code c::.inLoop c::k) ts H Q):FW P G rd n (.inLoop c::k) ts H Q :=
 FW.step (by simp +contextual [zAm,zEn]) (fun b tmps E w _ _ D cs=>.one (step_lone_go (by simp[stepG,stepG.exec,frm]))) h
theorem FW.loop'{c:Code}(h:FW P G rd n (.inLoop c::k) ts H Q):FW P G rd n (.code (.loop c)::k) ts H Q:=by
 intro hk E w tmps hH hT b D cs hrd
 have hk1:zDu n (.inLoop c::k)=true:=by simpa[zAm,zEn,zCc]using hk
 obtain⟨L,ts',H',E',w',tmps',D',todo',h1,h2,h3,h4,h6,h7,h8⟩:=h hk1 E w tmps hH hT b D cs hrd;refine⟨L,ts',H',E',w',tmps',D',todo',h1,h2,h3,h4,h6,h7,?_⟩;have key:∀ m',m'.gs≠(lone (frm b tmps (.inLoop c::k) D) cs w).gs->Steps P (lone (frm b tmps (.inLoop c::k) D) cs w) m'->Steps P (lone (frm b tmps (.code (.loop c)::k) D) cs w) m':=by
  intro m' hne h8
  obtain⟨m,hm⟩:=h8;cases m with
  | zero =>
   simp only[runN]at hm
   injection hm with hm
   exact absurd (by rw[hm]) hne
  | succ m =>
   have e1:Go.step P (lone (frm b tmps (.inLoop c::k) D) cs w)=.next (lone (frm b tmps (.code c::.inLoop c::k) D) cs w):=step_lone_go (by simp[stepG,stepG.exec,frm]);have e2:Go.step P (lone (frm b tmps (.code (.loop c)::k) D) cs w)=.next (lone (frm b tmps (.code c::.inLoop c::k) D) cs w):=step_lone_go (by simp[stepG,stepG.exec,frm]);refine⟨m+1,?_⟩;simp only[runN,e1]at hm;simp only[runN,e2];exact hm
 have hplain:todo'≠.inLoop c::k->Steps P (lone (frm b tmps (.inLoop c::k) D) cs w) (lone (frm b tmps' todo' D') cs w')->Steps P (lone (frm b tmps (.code (.loop c)::k) D) cs w) (lone (frm b tmps' todo' D') cs w'):=fun hne hs=>by
  refine key _ (fun e=>hne ?_) hs;simp[lone,frm]at e;exact e.2.1
 cases L with
 | nor=>exact hplain (fun e=>by rw[e]at h6; simp[AtLeave]at h6) h8
 | ret=>exact hplain (fun e=>by rw[e]at h6; simp[AtLeave]at h6) h8
 | exit id=>exact hplain (fun e=>by rw[e]at h6; simp[AtLeave]at h6) h8
 | goto l=>exact hplain (fun e=>by rw[e]at h6; simp[AtLeave]at h6) h8
 | stop t=>exact hplain (fun e=>by
   obtain⟨e1,ops,i,rest,k',e2⟩:=h6;rw[e,e2]at e1; cases e1) h8
 | pan v =>
  obtain⟨pv,h9,h10⟩:=h8;refine⟨pv,h9,key _ (fun e=>?_) h10⟩;simp[lone,frm,Frame.raise]at e
theorem FW.region{id:Nat}{ops:Array Oper}(h:FW P G rd n (.inRegion ops (List.range ops.size)::k) ts H Q):FW P G rd n (.code (.region id ops false)::k) ts H Q :=
 FW.step (by simp[zAm,zEn,zCc]) (fun b tmps E w _ _ D cs=>.one (step_lone_go (by simp[stepG,stepG.exec,frm]))) h
theorem FW.regionEnd{ops:Array Oper}(h:FW P G rd n k ts H Q):FW P G rd n (.inRegion ops []::k) ts H Q :=
 FW.step (by simp[zAm]) (fun b tmps E w _ _ D cs=>.one (step_lone_go (by simp[stepG,stepG.exec,frm]))) h
theorem FW.exit{id:Nat}{k':List Item}(hk:exitTo id k=some k')(h:FW P G rd n k' ts H Q):FW P G rd n (.code (.exit id)::k) ts H Q :=
 FW.step (fun h=>todoOk_exitTo hk (by rw[zAm,Bool.and_eq_true]at h; exact h.2)) (fun b tmps E w _ _ D cs=>.one (step_lone_go (by simp[stepG,stepG.exec,frm,hk]))) h
theorem FW.exitOut{id:Nat}(hk:exitTo id k=none)(hQ:Q (.exit id) ts H):FW P G rd n (.code (.exit id)::k) ts H Q:=FW.leave (.exit id) ⟨_,rfl,hk⟩ trivial hQ
theorem FW.goto{l:Nat}{k':List Item}(hk:gotoIn l k=some k')(h:FW P G rd n k' ts H Q):FW P G rd n (.code (.goto l)::k) ts H Q :=
 FW.step (fun h=>todoOk_gotoIn hk (by rw[zAm,Bool.and_eq_true]at h; exact h.2)) (fun b tmps E w _ _ D cs=>.one (step_lone_go (by simp[stepG,stepG.exec,frm,hk]))) h
theorem RepV.c_inv{w:World}{E:En}{u v:Value}(h:RepV w E (.c u) v):v=u:=by
 cases h; rfl
theorem plain_cells{cs:Array Value}(h:cs.toList.all plain=true){w:World}{E:En}(i:Nat)(hi:i < (cs.toList.map AV.c).length) :
  ((cs.toList.map AV.c).getD i .un).isCell=true/\RepV w E ((cs.toList.map AV.c).getD i .un) (cs.getD i undef):=by
 have hi':i < cs.size:=by simpa using hi
 have e:(cs.toList.map AV.c).getD i .un=.c cs[i]:=by simp[List.getD,hi']
 have e2:cs.getD i undef=cs[i]:=by simp[Array.getD,hi']
 rw[e,e2];exact⟨rfl,.c (by
  rw[List.all_eq_true]at h;exact h cs[i] (by simp))⟩
theorem rep_const{v:Value}(h:constOk v=true)(w:World)(E:En):RepV w E (ofV v) v:=by
 cases v <;> first
  | exact .c h
  | (rename_i cs
     first
      | exact .agg (by simp) (fun i hi=>(plain_cells h (w:=w) (E:=E) i hi).1) (fun i hi=>(plain_cells h i hi).2)
      | exact .tup (by simp) (fun i hi=>(plain_cells h i hi).2))
theorem zAv{w:World}{E:En}{tmps:Array Value}(hT:RepT w E n ts tmps){x:Operand}(hx:zDi n x=true)(D:List Deferred) :
  RepV w E (ev ts x) (Act.eval ⟨tmps,D⟩ x):=by
 cases x with
 | tmp t=>exact hT.2 t (by simpa[zDi]using hx)
 | const v=>exact rep_const hx w E
 | global g=>exact .gp
 | func f=>exact .fn (by simp) (by simp) (fun i hi=>by simp at hi) (fun i hi=>by simp at hi)
theorem frm_eval(b:Frame)(tmps:Array Value)(todo:List Item)(D:List Deferred)(x:Operand):(frm b tmps todo D).eval x=Act.eval ⟨tmps,D⟩ x:=by
 cases x <;> rfl
theorem FW.cond{c:Operand}{x y:Code}{t:Bool}(hc:ev ts c=.c (.bool t))(hx:t=true->FW P G rd n (.code x::k) ts H Q)(hy:t=false->FW P G rd n (.code y::k) ts H Q) :
  FW P G rd n (.code (.cond c x y)::k) ts H Q:=by
 have key:∀(b:Frame) (tmps:Array Value) (E:En) (w:World),RepT w E n ts tmps->zDu n (.code (.cond c x y)::k)=true->∀(D:List Deferred) (cs:List Frame),
   Steps P (lone (frm b tmps (.code (.cond c x y)::k) D) cs w) (lone (frm b tmps (.code (if t then x else y)::k) D) cs w):=by
  intro b tmps E w hT hok D cs
  rw[zAm,Bool.and_eq_true]at hok;have hok1:zDi n c=true:=by
   have:=hok.1;simp only[zEn,zCc,Bool.and_eq_true]at this;exact this.1.1
  have he:=zAv hT hok1 D;rw[hc]at he;have he':=he.c_inv;refine .one (step_lone_go ?_);have h2:=frm_eval b tmps (.code (.cond c x y)::k) D c;simp only[frm]at h2;simp[stepG,stepG.exec,frm,h2,he']
 cases t with
 | true=>exact FW.step (by simp +contextual [zAm,zEn,zCc]) (by simpa using key) (hx rfl)
 | false=>exact FW.step (by simp +contextual [zAm,zEn,zCc]) (by simpa using key) (hy rfl)
def upd(ts:Nat->AV)(d:Nat)(v:AV):Nat->AV:=fun i=>if i=d then v else ts i
def put(ts:Nat->AV)(d:Option Nat)(v:AV):Nat->AV :=
 match d with
 | some d=>upd ts d v
 | none=>ts
def cput(tmps:Array Value)(d:Option Nat)(r:Value):Array Value :=
 match d with
 | some d=>tmps.setIfInBounds d r
 | none=>tmps
theorem RepT.put{w:World}{E:En}{tmps:Array Value}(hT:RepT w E n ts tmps){v:AV}{r:Value}(hr:RepV w E v r)(d:Option Nat) :
  RepT w E n (put ts d v) (cput tmps d r):=by
 cases d with
 | none=>exact hT
 | some d =>
  refine⟨by simpa[cput]using hT.1,fun i hi=>?_⟩;show RepV w E (if i=d then v else ts i) ((tmps.setIfInBounds d r).getD i undef);have hi':i < tmps.size:=by rw[hT.1]; exact hi
  by_cases e:i=d
  ·subst e;simp only[if_true];have:(tmps.setIfInBounds i r).getD i undef=r:=by simp[Array.getD,hi']
   rw[this]; exact hr
  ·rw[if_neg e];have:(tmps.setIfInBounds d r).getD i undef=tmps.getD i undef:=by
    rw[Array.getD_eq_getD_getElem?,Array.getD_eq_getD_getElem?,Array.getElem?_setIfInBounds_ne (fun h=>e h.symm)]
   rw[this]; exact hT.2 i hi
def OpRun(P:Program)(s:Sem Next)(c:Frame)(cs:List Frame)(w:World)(r:Value)(w':World):Prop :=
 s.run P w=.ok (.value r) w'\/(s.run P w=.ok .skip w'/\r=undef) \/
 (∃ f args w0,s.run P w=.ok (.enter f args) w0/\Steps P (lone (Frame.enter P f args .normal) (c::cs) w0) (lone (c.finish r) cs w')) \/
 (∃ l f tm a b w0,s.run P w=.ok (.round l f tm a b) w0/\Steps P (lone (Frame.round l f tm a b .normal) (c::cs) w0) (lone (c.finish r) cs w'))
def OpS(P:Program)(G:Gl)(n:Nat)(o:Oper)(ts:Nat->AV)(H:List AO)(K:AV->List AO->Prop):Prop :=
 ∀(E:En) (w:World) (tmps:Array Value),RelH G w E H->RepT w E n ts tmps->zBj n o=true->∀(D:List Deferred) (c:Frame) (cs:List Frame),
  ∃ v H' E' w' r,K v H'/\RelH G w' E' H'/\Grow H E w H' E' w'/\RepV w' E' v r/\OpRun P (execOp (Act.eval ⟨tmps,D⟩) o) c cs w r w'
def gval(ops:Array Oper)(ts:Nat->AV)(j:Nat):Option Bool :=
 match (ops[j]?).bind (·.dst)with
 | some d=>match ts d with
  | .c (.bool b)=>some b
  | _=>none
 | none=>none
def zAp(ops:Array Oper)(ts:Nat->AV)(o:Oper):Bool :=
 match o.guard with
 | none=>true
 | some (j,want)=>gval ops ts j==some want
theorem wanted_eq{ops:Array Oper}(hops:ops.all (zBj n)=true){w:World}{E:En}{tmps:Array Value}(hT:RepT w E n ts tmps)(o:Oper) :
  Region.wanted o (yielded ops tmps)=zAp ops ts o:=by
 unfold Region.wanted zAp;cases hg:o.guard with
 | none=>rfl
 | some p =>
  obtain⟨j,want⟩:=p;show(yielded ops tmps j==some want)=(gval ops ts j==some want);have e:yielded ops tmps j=gval ops ts j:=by
   unfold yielded gval;cases hj:ops[j]? with
   | none=>rfl
   | some oj =>
    simp only[Option.bind_some];cases hd:oj.dst with
    | none=>rfl
    | some d =>
     simp only[Option.bind_some];have hlt:d < n:=by
      have:=(Array.all_eq_true'.1 hops) oj (Array.mem_of_getElem? hj);simp only[zBj,hd,Bool.and_eq_true,decide_eq_true_eq]at this;exact this.1
     have hr:=hT.2 d hlt;have hlt':d < tmps.size:=by rw[hT.1]; exact hlt
     have e1:tmps[d]?=some (tmps.getD d undef):=by simp[Array.getD,hlt']
     rw[e1]
     generalize tmps.getD d undef=x at hr
     generalize ts d=a at hr
     cases hr <;> first | rfl | (cases x <;> rfl)
  rw[e]
theorem finish_frm(b:Frame)(tmps:Array Value)(ops:Array Oper)(i:Nat)(rest:List Nat)(k:List Item)(D:List Deferred)(v:Value)(o:Oper)(ho:ops[i]?=some o) :
  (frm b tmps (.inRegion ops (i::rest)::k) D).finish v=frm b (cput tmps o.dst v) (.inRegion ops rest::k) D:=by
 simp only[Frame.finish,frm,ho,Option.bind_some];cases o.dst <;> rfl
theorem stepG_frm_op{b:Frame}{tmps:Array Value}{ops:Array Oper}{i:Nat}{rest:List Nat}{k:List Item}{D:List Deferred}{cs:List Frame}{w:World}{o:Oper}(ho:ops[i]?=some o)
  (hw:Region.wanted o (yielded ops tmps)=true) (hd:isDefer o.op=false) :
  stepG P true { frame:=frm b tmps (.inRegion ops (i::rest)::k) D,callers:=cs,status:=.running,dying:=none } w =
   stepG.apply P true (frm b tmps (.inRegion ops (i::rest)::k) D) cs none (execOp (Act.eval ⟨tmps,D⟩) o) w:=by
 have he:(frm b tmps (.inRegion ops (i::rest)::k) D).eval=Act.eval ⟨tmps,D⟩:=funext (frm_eval b tmps _ D);simp only[frm]at he ⊢;have hnd:∀ c,o.op≠.defer c:=by intro c hc; rw[hc]at hd; simp[isDefer]at hd
 simp only[stepG,stepG.exec,ho,Option.map_some,Option.getD_some,hw,if_true,stepG.oper,Frame.oper?,he]
 split
 ·rename_i h1 h2 h3 h4 h5; exact absurd h5 (hnd _)
 ·rfl
theorem FW.opSkip{ops:Array Oper}{i:Nat}{rest:List Nat}{o:Oper}(ho:ops[i]?=some o)(hw:zAp ops ts o=false)(h:FW P G rd n (.inRegion ops rest::k) (put ts o.dst .un) H Q) :
  FW P G rd n (.inRegion ops (i::rest)::k) ts H Q:=by
 intro hk E w tmps hH hT b D cs hrd
 have hk':=hk;rw[zAm,Bool.and_eq_true]at hk';have hops:ops.all (zBj n)=true:=hk'.1;have hT':=hT.put (v:=.un) (r:=undef) (.tup (by rfl) (fun i hi=>by simp at hi)) o.dst;obtain⟨L,ts',H',E',w',tmps',D',todo',h1,h2,h3,h4,h6,h7,h8⟩:=h (by rw[zAm,Bool.and_eq_true]; exact⟨hops,hk'.2⟩) E w _ hH hT' b D cs hrd;refine⟨L,ts',H',E',w',tmps',D',todo',h1,h2,h3,h4,h6,h7,h8.pre P (.one (step_lone_go ?_))⟩;have hwt:Region.wanted o (yielded ops tmps)=false:=by rw[wanted_eq hops hT]; exact hw
 rw[<- finish_frm b tmps ops i rest k D undef o ho];simp[stepG,stepG.exec,frm,ho,hwt]
theorem FW.op{ops:Array Oper}{i:Nat}{rest:List Nat}{o:Oper}(ho:ops[i]?=some o)(hw:zAp ops ts o=true)(hd:isDefer o.op=false)
  (h:OpS P G n o ts H fun v H'=>FW P G rd n (.inRegion ops rest::k) (put ts o.dst v) H' Q) :
  FW P G rd n (.inRegion ops (i::rest)::k) ts H Q:=by
 intro hk E w tmps hH hT b D cs hrd
 have hk':=hk;rw[zAm,Bool.and_eq_true]at hk';have hops:ops.all (zBj n)=true:=hk'.1;have hoo:zBj n o=true:=(Array.all_eq_true'.1 hops) o (Array.mem_of_getElem? ho);have hwt:Region.wanted o (yielded ops tmps)=true:=by rw[wanted_eq hops hT]; exact hw
 obtain⟨v,H1,E1,w1,r,hK,hH1,hg1,hr1,hrun⟩:=h E w tmps hH hT hoo D (frm b tmps (.inRegion ops (i::rest)::k) D) cs;have hT1:=(hT.mono hg1.mono).put hr1 o.dst;obtain⟨L,ts',H',E',w',tmps',D',todo',h1,h2,h3,h4,h6,h7,h8⟩:=hK (by rw[zAm,Bool.and_eq_true]; exact⟨hops,hk'.2⟩) E1 w1 _ hH1 hT1 b D cs (hrd.mono hg1.mono);refine⟨L,ts',H',E',w',tmps',D',todo',h1,h2,hg1.trans h3,h4,h6,⟨h7.1,h7.2.le hg1.size⟩,h8.pre P ?_⟩;have hst:=stepG_frm_op (P:=P) (b:=b) (tmps:=tmps) (rest:=rest) (k:=k) (D:=D) (cs:=cs) (w:=w) ho hwt hd;have hfin:=finish_frm b tmps ops i rest k D r o ho
 rcases hrun with hr | ⟨hr,rfl⟩ | ⟨f,args,w0,hr,hsteps⟩ | ⟨l,f,tm,a,bb,w0,hr,hsteps⟩
 ·refine .one (step_lone_go ?_);rw[hst,<- hfin]; simp[stepG.apply,hr]
 ·refine .one (step_lone_go ?_);rw[hst,<- hfin]; simp[stepG.apply,hr]
 ·refine .head (step_lone_go ?_) (hfin ▸ hsteps);rw[hst]; simp[stepG.apply,hr,frm]
 ·refine .head (step_lone_go ?_) (hfin ▸ hsteps);rw[hst]; simp[stepG.apply,hr,frm]
end
theorem zF{p:Prop}[Decidable p](h:¬p):decide p=false:=decide_eq_false h
theorem zT{p:Prop}[Decidable p](h:p):decide p=true:=decide_eq_true h
theorem zM{α β:Type}{f:α->β}{as:List α}:(as.map f).length=as.length:=List.length_map f
theorem zL{α:Type}{l₁ l₂:List α}{n:Nat}(hn:n < l₁.length):(l₁++l₂)[n]?=l₁[n]?:=List.getElem?_append_left hn
theorem zQ{α:Type}{a:List α}{i j:Nat}(h:i≠j){v:α}:(a.set i v)[j]?=a[j]?:=List.getElem?_set_ne h
theorem zS{α:Type}{a:List α}{i:Nat}{v:α}(h:i < a.length):(a.set i v)[i]?=some v:=List.getElem?_set_self h
theorem zA(a b:Bool):((a&&b)=true)=(a=true/\b=true):=Bool.and_eq_true a b
end Go.Ab
