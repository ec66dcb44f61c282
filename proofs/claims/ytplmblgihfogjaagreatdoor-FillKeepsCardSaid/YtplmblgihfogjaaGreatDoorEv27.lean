/- A text of this claim. -/
import Derived.Test.YtplmblgihfogjaaGreatDoorEv24
set_option maxHeartbeats 40000000
set_option maxRecDepth 400000
set_option linter.all false
namespace Go.Ab
variable {P:Program} {G:Gl}
mutual
def AV.scal:AV->Bool
 | .c _=>true
 | .agg cs=>AV.scalL cs
 | .tup cs=>AV.scalL cs
 | _=>false
def AV.scalL:List AV->Bool
 | []=>true
 | a::l=>AV.scal a&&AV.scalL l
end
theorem scalL_eq:∀ l:List AV,AV.scalL l=l.all AV.scal
 | []=>rfl
 | a::l=>by simp[AV.scalL,scalL_eq l]
theorem scalL_getD{l:List AV}(h:AV.scalL l=true){i:Nat}(hi:i < l.length):(l.getD i .un).scal=true:=by
 rw[scalL_eq,List.all_eq_true]at h;have e:l.getD i .un=l[i]:=by simp[List.getD,hi]
 rw[e]; exact h _ (List.getElem_mem hi)
theorem RepV.scal{w w':World}{E E':En}{a:AV}{v:Value}(h:RepV w E a v)(hp:a.scal=true):RepV w' E' a v:=by
 induction h with
 | c h=>exact .c h
 | agg hl hc _ ih=>exact .agg hl hc (fun i hi=>ih i hi (scalL_getD (by simpa[AV.scal]using hp) hi))
 | tup hl _ ih=>exact .tup hl (fun i hi=>ih i hi (scalL_getD (by simpa[AV.scal]using hp) hi))
 | _=>simp[AV.scal]at hp
theorem AC.view(hG:GPure G){f:FuncId}{args args':List AV}{v:AV}{H:List AO}{n:Nat}(hf:mapO (frz n H) args=some args')(hp:AV.purL args'=true)(hv:v.scal=true)(h:Pur P G f args' v){K:AV->List AO->Prop}(hK:K v H):AC P G f args H K:=by
 have h1:=h [] (fun u _=>u=v) rfl;refine⟨h1.1,fun E w vargs hH hA cs=>?_⟩
 let E0:En:={ loc:=fun _=>none,fro:=fun b=>E.fro b\/LiveC H E b }
 have hfr:∀ b,E0.fro b->∃ c t f,w.heap[b]?=some (.cells c t f):=by
  rintro b (hb | ⟨j,o,lj,hj,ho,hlj,rfl⟩)
  ·exact hH.frob b hb
  ·obtain⟨l2,hl2,hro⟩:=hH.obj j o hj (by cases o <;> first | rfl | (simp[AO.isRow]at ho));rw[hlj]at hl2; cases hl2;cases o with
   | cells cs=>obtain⟨c2,t2,hc2,_⟩:=hro; exact⟨c2,t2,_,hc2⟩
   | arr sz es=>obtain⟨_,c2,t2,hc2,_⟩:=hro; exact⟨c2,t2,_,hc2⟩
   | map es clock=>simp[AO.isRow]at ho
   | mit mid since seen stepped=>simp[AO.isRow]at ho
   | loop al=>simp[AO.isRow]at ho
   | dead=>simp[AO.isRow]at ho
 have hnl:∀ b,¬ Live [] E0 b:=by rintro b ⟨id,o,l,ho,_⟩; simp at ho
 have hH0:RelH G w E0 []:=⟨fun id o ho=>by simp at ho,fun id id' o o' l l' ho=>by simp at ho,hfr,fun b hb=>hnl b,fun id l hl=>by simp[E0]at hl,
  fun g cs hg=>RepV.pure (E:=E) (E':=E0) (fun _ h=>.inl h) (hH.gl g cs hg) (by simpa[AV.pur]using hG g cs hg)⟩
 have hA0:RepL w E0 args' vargs:=by
  obtain⟨e1,e2⟩:=zEf hf;refine⟨by rw[e1]; exact hA.1,fun i hi=>?_⟩;have hi':i < args.length:=by omega
  exact zDh (E':=E0) hH (fun _ h=>.inl h) (fun b hb=>.inr hb) n (hA.2 i hi') (e2 i hi')
 obtain⟨u,H0,E',w',r,fr,hu,g1,g2,g3,g4,g5,g6⟩:=h1.2 E0 w vargs hH0 hA0 cs;subst hu;have hsame:∀ b,b < w.heap.size->w'.heap[b]?=w.heap[b]?:=fun b hb=>g2.same b hb (hnl b)
 have hm:Mono w E w' E:=⟨fun b hb=>hb,fun b hb=>by
  obtain⟨c,t,fz,hc⟩:=hH.frob b hb;exact hsame b (zBg hc),fun id l hl=>hl,g2.mono.row⟩
 have hR:RelH G w' E H:=by
  refine⟨fun id o ho hlv=>?_,hH.inj,fun b hb=>?_,hH.sep,hH.dom,fun g cs hg=>(hH.gl g cs hg).mono hm⟩
  ·obtain⟨l,hl,hr⟩:=hH.obj id o ho hlv;exact⟨l,hl,hr.mono hm (hsame _ (Live.lt hH ⟨id,o,l,ho,hlv,hl,rfl⟩))⟩
  ·obtain⟨c,t,fz,hc⟩:=hH.frob b hb;exact⟨c,t,fz,(hsame b (zBg hc)).trans hc⟩
 exact⟨u,H,E,w',r,fr,hK,hR,⟨hm,g2.size,fun b hb _=>hsame b hb,fun b hb=>.inl hb,fun b hb=>.inl hb,g2.os,g2.tape,g2.output⟩,g3.scal hv,g4,g5,g6⟩
theorem FW.next{rd:Option Nat}{n:Nat}{k:List Item}{ts:Nat->AV}{H:List AO}{Q:Lv->(Nat->AV)->List AO->Prop}{ops:Array Oper}{i:Nat}{rest:List Nat}{x:Operand}{dst:Option Nat}{ty:TypeId}{pos:String}{after:Array Edge}
  (ho:ops[i]?=some { dst:=dst,op:=.next x false,type:=ty,pos:=pos,after:=after,guard:=none })
  {id mid since clock:Nat} {seen:List Nat} {cands:List (Nat × AV × AV)} (h:aNext (ev ts x) H=some (id,mid,since,seen,clock,cands))
  (h0:cands=[]->FW P G rd n (.inRegion ops rest::k) (put ts dst (.tup [.c (.bool false)])) H Q)
  (h1:∀ e∈cands,FW P G rd n (.inRegion ops rest::k) (put ts dst (.tup [.c (.bool true),e.2.1,e.2.2])) (H.set id (.mit mid since (seen++[e.1]) clock)) Q):FW P G rd n (.inRegion ops (i::rest)::k) ts H Q :=
 FW.op ho (by simp[zAp]) rfl (OpS.next rfl h h0 h1)
theorem nodup_le{l:List Nat}{n:Nat}(hn:l.Nodup)(h:∀ i∈l,i < n):l.length<=n:=by
 have hp:l.Perm ((List.range n).filter fun j=>l.contains j):=(List.perm_ext_iff_of_nodup hn (List.nodup_range.filter _)).2 fun i=>by
  rw[List.mem_filter,List.mem_range];exact⟨fun hi=>⟨h i hi,by simpa using hi⟩,fun hi=>by simpa using hi.2⟩
 rw[hp.length_eq];exact Nat.le_trans (List.length_filter_le _ _) (by simp)
inductive OwnK(k:Nat)(H:List AO):AV->List AV->Prop
 | nil:OwnK k H (.c (.slice none 0 0)) []
 | row {id:Nat} {es:List AV} (h:H[id]?=some (.arr k es)) (h0:0 < es.length):OwnK k H (.sl id 0 es.length es.length) es
theorem OwnK.lt{k:Nat}{H:List AO}{s:AV}{es:List AV}(h:OwnK k H s es){j:Nat}(hj:zAw s=some j):j < H.length:=by
 cases h with
 | nil=>cases hj
 | row h _=>cases hj; exact(List.getElem?_eq_some_iff.1 h).1
theorem OwnK.keep{k:Nat}{H H':List AO}{s:AV}{es:List AV}(h:OwnK k H s es)(hk:∀ j,zAw s=some j->H'[j]?=H[j]?):OwnK k H' s es:=by
 cases h with
 | nil=>exact .nil
 | row h h0=>exact .row ((hk _ rfl).trans h) h0
theorem OwnK.cell{k:Nat}{H:List AO}{s:AV}{es:List AV}(h:OwnK k H s es):s.isCell=true/\s.isEl=true/\s.cells=[s]:=by
 cases h <;> exact⟨rfl,rfl,rfl⟩
theorem OwnK.append{k:Nat}{H:List AO}{s:AV}{es:List AV}(h:OwnK k H s es)(l:List AO):OwnK k (H++l) s es :=
 h.keep fun j hj=>zL (h.lt hj)
theorem OwnK.frz{k:Nat}{H:List AO}{s:AV}{es:List AV}(h:OwnK k H s es)(hp:AV.purL es=true){n:Nat}:Go.Ab.frz (n+2) H s=some (Go.Ab.frS es):=by
 cases h with
 | nil=>simp[Go.Ab.frz,AV.pur,Go.Ab.frS]
 | row h h0 =>
  have:Go.Ab.frS es=.isl es:=by cases es <;> simp_all [Go.Ab.frS]
  rw[this];unfold Go.Ab.frz;simp only[AV.pur,Bool.false_eq_true,if_false,h,Nat.zero_add,Nat.le_refl,if_true,List.drop_zero,List.take_length];rw[zFo hp]; rfl
theorem OwnK.done2{k:Nat}{H:List AO}{s v:AV}{es:List AV}(h:OwnK k H s es)(hp:AV.purL es=true)(hv:v.pur=true):∃ n,Go.Ab.frz n H (.tup [s,v])=some (.tup [Go.Ab.frS es,v]) :=
 ⟨3,by
  unfold Go.Ab.frz
  split
  ·rename_i hq;cases h with
   | nil=>rfl
   | row=>simp[AV.pur,AV.purL]at hq
  ·simp only[mapO,h.frz hp (n:=0)];rw[show Go.Ab.frz 2 H v=some v by simp[Go.Ab.frz,hv]];rfl⟩
theorem seg_frz{k n cap:Nat}{H:List AO}{id:Nat}{es:List AV}(h:H[id]?=some (.arr k es))(hn:n<=es.length)(hp:AV.purL (es.take n)=true){m:Nat}:Go.Ab.frz (m+2) H (.sl id 0 n cap)=some (.isl (es.take n)):=by
 unfold Go.Ab.frz;simp only[AV.pur,Bool.false_eq_true,if_false,h,Nat.zero_add,hn,if_true,List.drop_zero];rw[zFo hp]; rfl
theorem seg_done2{k n cap:Nat}{H:List AO}{id:Nat}{es:List AV}{v:AV}(h:H[id]?=some (.arr k es))(hn:n<=es.length)(hp:AV.purL (es.take n)=true)(hv:v.pur=true):∃ m,Go.Ab.frz m H (.tup [.sl id 0 n cap,v])=some (.tup [.isl (es.take n),v]) :=
 ⟨3,by
  unfold Go.Ab.frz
  split
  ·rename_i hq;simp[AV.pur,AV.purL]at hq
  ·simp only[mapO,seg_frz h hn hp (m:=0)];rw[show Go.Ab.frz 2 H v=some v by simp[Go.Ab.frz,hv]];rfl⟩
def apHk(k:Nat)(H:List AO)(s:AV)(es:List AV)(v:AV):List AO:=(match s with
 | .sl id _ _ _=>(H++[AO.arr k [v]]).set id AO.dead
 | _=>H++[AO.arr k [v]])++[AO.arr k (es++[v])]
theorem apHk_length{k:Nat}{H:List AO}{s:AV}{es:List AV}{v:AV}:(apHk k H s es v).length=H.length+2:=by
 unfold apHk; split <;> simp
theorem apHk_own{k:Nat}{H:List AO}{s:AV}{es:List AV}{v:AV}:OwnK k (apHk k H s es v) (.sl (H.length+1) 0 (es.length+1) (es.length+1)) (es++[v]):=by
 have h:(apHk k H s es v)[H.length+1]?=some (.arr k (es++[v])):=by
  unfold apHk
  split
  ·rw[List.getElem?_append_right (by simp)]; simp
  ·rw[List.getElem?_append_right (by simp)]; simp
 have:=OwnK.row h (by simp);simpa using this
theorem zFt{k:Nat}{H:List AO}{s:AV}{es:List AV}{v:AV}{j:Nat}(hj:j < H.length)(hs:zAw s≠some j):(apHk k H s es v)[j]?=H[j]?:=by
 unfold apHk
 split
 ·rename_i id _ _ _;have:id≠j:=fun e=>hs (by simp[zAw,e])
  rw[zL (by simp; omega),zQ this,zL hj]
 ·rw[zL (by simp; omega),zL hj]
theorem aAppK{t u e e':TypeId}(ht:P.underlying t=some (.slice e))(hu:P.underlying u=some (.slice e')){z:AV}{by' k:Nat}(hz:zBo P e=some z)(hz1:z.cells.length=k)(hb:zCr P e=some by')
  {H:List AO} {s:AV} {es:List AV} (h:OwnK k H s es) (v:AV) :
  zBk P t u s (.sl H.length 0 1 1) (H++[.arr k [v]])=some ⟨apC es.length by',.sl (H.length+1) 0 (es.length+1) (es.length+1),apHk k H s es v⟩:=by
 unfold zBk;simp only[ht,hu,hz,hb,hz1,elsOf];rw[show(H++[AO.arr k [v]])[H.length]?=some (.arr k [v]) by simp];simp only[List.length_cons,List.length_nil,Nat.zero_add,Nat.le_refl,and_self,if_true,List.drop_zero,List.take_succ_cons,List.take_zero];cases h with
 | nil=>simp[zDf,apHk,apC,hz1]
 | row h h0 =>
  rename_i id;have hid:=(List.getElem?_eq_some_iff.1 h).1;simp only[zL hid,h];simp[apHk,apC,h0]
def IsSl(s:AV)(l:List AV):Prop:=s=.isl l\/(l=[]/\s=.c (.slice none 0 0))
theorem IsSl.pur{s:AV}{l:List AV}(h:IsSl s l)(hp:AV.purL l=true):s.pur=true:=by
 rcases h with rfl | ⟨_,rfl⟩
 ·simpa[AV.pur]using hp
 ·rfl
theorem IsSl.cell{s:AV}{l:List AV}(h:IsSl s l):s.isCell=true/\s.isEl=true/\s.cells=[s]:=by
 rcases h with rfl | ⟨_,rfl⟩ <;> exact⟨rfl,rfl,rfl⟩
theorem IsSl.len{s:AV}{l:List AV}(h:IsSl s l){t e:TypeId}(ht:P.underlying t=some (.slice e)):aLen P t s=some (l.length:Int):=by
 rcases h with rfl | ⟨rfl,rfl⟩
 ·exact aLen_isl ht _
 ·exact aLen_nil ht
theorem IsSl.idx{s:AV}{l:List AV}(h:IsSl s l){t e:TypeId}(ht:P.underlying t=some (.slice e)){m:Nat}(hs:szT P e=some m){i:Int}(h0:i < (l.length:Int))(h1:0<=i)(H:List AO) :
  zAk P t s i H=some ((0<=i/\i < (l.length:Int))/\(l.getD i.toNat .un).cells.length=m,.iptr (l.getD i.toNat .un).cells 0):=by
 rcases h with rfl | ⟨rfl,rfl⟩
 ·exact aIdx_isl ht hs _ _ _
 ·simp at h0; omega
theorem zCf{α:Type}(d:α){l:List α}{i:Nat}(h:i < l.length):l.take (i+1)=l.take i++[l.getD i d]:=by
 rw[List.take_add_one,List.getElem?_eq_getElem h,Option.toList_some];simp[List.getD,h]
def zCz{α:Type}[DecidableEq α](d:α)(l:List α):Nat->List α
 | 0=>[]
 | 1=>l.take 1
 | i+2=>if l.getD (i+1) d=l.getD i d then zCz d l (i+1) else zCz d l (i+1)++[l.getD (i+1) d]
theorem compL_le{α:Type}[DecidableEq α](d:α)(l:List α):∀ i,(zCz d l i).length<=i
 | 0=>by simp[zCz]
 | 1=>by simp only[zCz,List.length_take]; omega
 | i+2=>by
  have:=compL_le d l (i+1);unfold zCz
  split
  ·omega
  ·simp; omega
theorem compL_all{α:Type}[DecidableEq α](d:α)(l:List α):∀ i,i<=l.length->(∀ j,0 < j->j < i->l.getD j d≠l.getD (j - 1) d)->zCz d l i=l.take i
 | 0,_,_=>by simp[zCz]
 | 1,_,_=>rfl
 | i+2,hi,h=>by
  unfold zCz;have hh:l.getD (i+1) d≠l.getD i d:=h (i+1) (by omega) (by omega);rw[if_neg hh,compL_all d l (i+1) (by omega) (fun j h1 h2=>h j h1 (by omega)),zCf d (by omega:i+1 < l.length)]
theorem compL_mem{α:Type}[DecidableEq α](d:α)(l:List α):∀ i,i<=l.length->∀ x,x∈zCz d l i ↔ x∈l.take i
 | 0,_,x=>by simp[zCz]
 | 1,_,x=>Iff.rfl
 | i+2,hi,x=>by
  have ih:=compL_mem d l (i+1) (by omega) x;rw[zCf d (by omega:i+1 < l.length),List.mem_append,List.mem_singleton];unfold zCz
  split
  ·rename_i e;rw[ih];refine⟨.inl,fun h=>h.elim id fun h=>?_⟩;rw[h,e,zCf d (by omega:i < l.length)];simp
  ·rw[List.mem_append,List.mem_singleton,ih]
theorem compL_sorted{α:Type}[DecidableEq α](d:α)(l:List α)(lt:α->α->Prop)(hle:∀ i j,i < j->j < l.length->¬ lt (l.getD j d) (l.getD i d))(htot:∀ x∈l,∀ y∈l,¬ lt x y->¬ lt y x->x=y)
  (htr:∀ x∈l,∀ y∈l,∀ z∈l,lt x y->¬ lt z y->lt x z) :
  ∀ i,i<=l.length->(zCz d l i).Pairwise lt/\∀ x∈zCz d l i,0 < i/\(x=l.getD (i - 1) d\/lt x (l.getD (i - 1) d))
 | 0,_=>⟨by simp[zCz],fun x hx=>by simp[zCz]at hx⟩
 | 1,hi=>by
  have e:l.take 1=[l.getD 0 d]:=by
   have:=zCf d (l:=l) (i:=0) (by omega);simpa using this
  unfold zCz;rw[e];exact⟨by simp,fun x hx=>⟨by omega,.inl (by simpa using hx)⟩⟩
 | i+2,hi=>by
  obtain⟨h1,h2⟩:=compL_sorted d l lt hle htot htr (i+1) (by omega);have hm:∀ j,j < l.length->l.getD j d∈l:=fun j hj=>by simp[List.getD,hj]
  have hmem:∀ x∈zCz d l (i+1),x∈l:=fun x hx=>List.mem_of_mem_take ((compL_mem d l (i+1) (by omega) x).1 hx)
  unfold zCz
  split
  ·rename_i e;refine⟨h1,fun x hx=>⟨by omega,?_⟩⟩;have:=(h2 x hx).2;simp only[Nat.add_sub_cancel]at this;rw[show i+2 - 1=i+1 by omega,e];exact this
  ·rename_i e;have hlt:lt (l.getD i d) (l.getD (i+1) d):=Classical.byContradiction fun hn=>e (htot _ (hm _ (by omega)) _ (hm _ (by omega)) (hle i (i+1) (by omega) (by omega)) hn)
   have hall:∀ x∈zCz d l (i+1),lt x (l.getD (i+1) d):=fun x hx=>by
    have:=(h2 x hx).2;simp only[Nat.add_sub_cancel]at this
    rcases this with h | h
    ·rw[h]; exact hlt
    ·exact htr x (hmem x hx) _ (hm i (by omega)) _ (hm (i+1) (by omega)) h (hle i (i+1) (by omega) (by omega))
   refine⟨List.pairwise_append.2 ⟨h1,by simp,fun x hx y hy=>?_⟩,fun x hx=>⟨by omega,?_⟩⟩
   ·rw[List.mem_singleton]at hy; rw[hy]; exact hall x hx
   ·rw[show i+2 - 1=i+1 by omega]
    rcases List.mem_append.1 hx with hx | hx
    ·exact .inr (hall x hx)
    ·exact .inl (by simpa using hx)
theorem sorted_ext{α:Type}(lt:α->α->Prop)(hI:∀ x,¬ lt x x):∀ {l m:List α},(∀ x∈l,∀ y∈l,lt x y->¬ lt y x)->l.Pairwise lt->m.Pairwise lt->(∀ x,x∈l ↔ x∈m)->l=m
 | [],m,_,_,_,h=>by
  cases m with
  | nil=>rfl
  | cons y m=>exact absurd ((h y).2 (by simp)) (by simp)
 | x::l,[],_,_,_,h=>absurd ((h x).1 (by simp)) (by simp)
 | x::l,y::m,ha,h1,h2,h=>by
  rw[List.pairwise_cons]at h1 h2;have hxy:x=y:=by
   rcases List.mem_cons.1 ((h x).1 (by simp))with h3 | h3
   ·exact h3
   ·rcases List.mem_cons.1 ((h y).2 (by simp))with h4 | h4
    ·exact h4.symm
    ·exact absurd (h2.1 x h3) (ha x (by simp) y (by simp[h4]) (h1.1 y h4))
  subst hxy;refine congrArg (x::·) (sorted_ext lt hI (fun a h3 b h4=>ha a (by simp[h3]) b (by simp[h4])) h1.2 h2.2 fun z=>⟨fun hz=>?_,fun hz=>?_⟩)
  ·rcases List.mem_cons.1 ((h z).1 (by simp[hz]))with h3 | h3
   ·subst h3; exact absurd (h1.1 z hz) (hI z)
   ·exact h3
  ·rcases List.mem_cons.1 ((h z).2 (by simp[hz]))with h3 | h3
   ·subst h3; exact absurd (h2.1 z hz) (hI z)
   ·exact h3
end Go.Ab
