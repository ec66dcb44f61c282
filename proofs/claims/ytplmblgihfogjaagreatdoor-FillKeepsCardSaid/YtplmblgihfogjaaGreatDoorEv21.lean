/- A text of this claim. -/
import Derived.Test.YtplmblgihfogjaaGreatDoorEv17
import Derived.Shelf.Sort.Plain
set_option maxHeartbeats 40000000
set_option maxRecDepth 400000
set_option linter.all false
namespace Go.Ab
inductive Own(H:List AO):AV->List AV->Prop
 | nil:Own H (.c (.slice none 0 0)) []
 | row {id:Nat} {es:List AV} (h:H[id]?=some (.arr 1 es)) (h0:0 < es.length):Own H (.sl id 0 es.length es.length) es
def zAw:AV->Option Nat
 | .sl id _ _ _=>some id
 | _=>none
def apH(H:List AO)(s:AV)(es:List AV)(v:AV):List AO:=(match s with
 | .sl id _ _ _=>(H++[AO.arr 1 [v]]).set id AO.dead
 | _=>H++[AO.arr 1 [v]])++[AO.arr 1 (es++[v])]
theorem apH_length{H:List AO}{s:AV}{es:List AV}{v:AV}:(apH H s es v).length=H.length+2:=by
 unfold apH; split <;> simp
theorem apH_own{H:List AO}{s:AV}{es:List AV}{v:AV}:Own (apH H s es v) (.sl (H.length+1) 0 (es.length+1) (es.length+1)) (es++[v]):=by
 have h:(apH H s es v)[H.length+1]?=some (.arr 1 (es++[v])):=by
  unfold apH
  split
  ·rw[List.getElem?_append_right (by simp)]; simp
  ·rw[List.getElem?_append_right (by simp)]; simp
 have:=Own.row h (by simp);simpa using this
theorem apH_get{H:List AO}{s:AV}{es:List AV}{v:AV}{j:Nat}(hj:j < H.length)(hs:zAw s≠some j):(apH H s es v)[j]?=H[j]?:=by
 unfold apH
 split
 ·rename_i id _ _ _;have:id≠j:=fun e=>hs (by simp[zAw,e])
  rw[zL (by simp; omega),zQ this,zL hj]
 ·rw[zL (by simp; omega),zL hj]
theorem Own.lt{H:List AO}{s:AV}{es:List AV}(h:Own H s es){j:Nat}(hj:zAw s=some j):j < H.length:=by
 cases h with
 | nil=>cases hj
 | row h _=>cases hj; exact(List.getElem?_eq_some_iff.1 h).1
theorem Own.keep{H H':List AO}{s:AV}{es:List AV}(h:Own H s es)(hk:∀ j,zAw s=some j->H'[j]?=H[j]?):Own H' s es:=by
 cases h with
 | nil=>exact .nil
 | row h h0=>exact .row ((hk _ rfl).trans h) h0
theorem Own.cell{H:List AO}{s:AV}{es:List AV}(h:Own H s es):s.isCell=true/\s.isEl=true/\s.cells=[s]:=by
 cases h <;> exact⟨rfl,rfl,rfl⟩
theorem Own.append{H:List AO}{s:AV}{es:List AV}(h:Own H s es)(l:List AO):Own (H++l) s es :=
 h.keep fun j hj=>zL (h.lt hj)
section
variable {P:Program}
def apC(n by':Nat):Prop:=(n+1)*by'<=2^40/\n+1<=2^40
theorem aApp1{t u e e':TypeId}(ht:P.underlying t=some (.slice e))(hu:P.underlying u=some (.slice e')){z:AV}{by':Nat}(hz:zBo P e=some z)(hz1:z.cells.length=1)(hb:zCr P e=some by')
  {H:List AO} {s:AV} {es:List AV} (h:Own H s es) (v:AV) :
  zBk P t u s (.sl H.length 0 1 1) (H++[.arr 1 [v]])=some ⟨apC es.length by',.sl (H.length+1) 0 (es.length+1) (es.length+1),apH H s es v⟩:=by
 unfold zBk;simp only[ht,hu,hz,hb,hz1,elsOf];rw[show(H++[AO.arr 1 [v]])[H.length]?=some (.arr 1 [v]) by simp];simp only[List.length_cons,List.length_nil,Nat.zero_add,Nat.le_refl,and_self,if_true,List.drop_zero,List.take_succ_cons,List.take_zero];cases h with
 | nil=>simp[zDf,apH,apC,hz1]
 | row h h0 =>
  rename_i id;have hid:=(List.getElem?_eq_some_iff.1 h).1;simp only[zL hid,h];simp[apH,apC,h0]
def frS:List AV->AV
 | []=>.c (.slice none 0 0)
 | l=>.isl l
def apHs(H:List AO)(s:AV)(es l:List AV):List AO:=match l with
 | []=>H
 | _=>(match s with
  | .sl id _ _ _=>H.set id .dead
  | _=>H)++[.arr 1 (es++l)]
def apSs(H:List AO)(s:AV)(n:Nat)(l:List AV):AV:=match l with
 | []=>s
 | _=>.sl H.length 0 (n+l.length) (n+l.length)
theorem aAppL{t u e e':TypeId}(ht:P.underlying t=some (.slice e))(hu:P.underlying u=some (.slice e')){z:AV}{by':Nat}(hz:zBo P e=some z)(hz1:z.cells.length=1)(hb:zCr P e=some by')
  {H:List AO} {s:AV} {es:List AV} (h:Own H s es) {l:List AV} (hl:∀ x∈l,x.isCell=true) :
  ∃ C,zBk P t u s (.isl l) H=some ⟨C,apSs H s es.length l,apHs H s es l⟩/\((es.length+l.length)*by'<=2^40->es.length+l.length<=2^40->C):=by
 unfold zBk;simp only[ht,hu,hz,hb,hz1,elsOf];have hc:0 < l.length->(l.getD 0 .un).cells.length=1:=fun h0=>by
  cases l with
  | nil=>simp at h0
  | cons x l =>
   have:=hl x (by simp);simp[List.getD,zBc this]
 cases h with
 | nil =>
  cases l with
  | nil=>exact⟨_,rfl,fun _ _=>hc⟩
  | cons x l =>
   simp only[zDf,apHs,apSs,hz1,List.length_cons,List.length_nil,Nat.zero_add,List.nil_append];exact⟨_,rfl,fun h1 h2=>⟨hc,h1,h2⟩⟩
 | row h h0 =>
  cases l with
  | nil=>exact⟨_,rfl,fun _ _=>hc⟩
  | cons x l =>
   simp only[h,Nat.zero_add,Nat.le_refl,h0,and_self,if_true,List.drop_zero,List.take_length,apHs,apSs];exact⟨_,rfl,fun h1 h2=>⟨hc,h1,h2⟩⟩
theorem aAppF{t u e e':TypeId}(ht:P.underlying t=some (.slice e))(hu:P.underlying u=some (.slice e')){z:AV}{by':Nat}(hz:zBo P e=some z)(hz1:z.cells.length=1)(hb:zCr P e=some by')
  {H:List AO} {s:AV} {es:List AV} (h:Own H s es) {l:List AV} (hl:∀ x∈l,x.isCell=true) :
  ∃ C,zBk P t u s (frS l) H=some ⟨C,apSs H s es.length l,apHs H s es l⟩/\((es.length+l.length)*by'<=2^40->es.length+l.length<=2^40->C):=by
 cases l with
 | nil =>
  have:zBk P t u s (frS []) H=some ⟨True,s,H⟩:=by
   unfold zBk;simp only[ht,hu,hz,hb,frS,elsOf];cases h with
   | nil=>simp[zDf]
   | row hid h0=>rfl
  exact⟨True,this,fun _ _=>trivial⟩
 | cons x l=>exact aAppL ht hu hz hz1 hb h hl
theorem aAppZ{t u e e':TypeId}(ht:P.underlying t=some (.slice e))(hu:P.underlying u=some (.slice e')){z:AV}{by':Nat}(hz:zBo P e=some z)(hz1:z.cells.length=1)(hb:zCr P e=some by')
  {H:List AO} {l:List AV} (hl:∀ x∈l,x.isCell=true) (h0:0 < l.length) :
  ∃ C,zBk P t u .zs (.isl l) H=some ⟨C,.sl H.length 0 l.length l.length,H++[.arr 1 l]⟩/\(l.length*by'<=2^40->l.length<=2^40->C):=by
 unfold zBk;simp only[ht,hu,hz,hb,hz1,elsOf];cases l with
 | nil=>simp at h0
 | cons x l =>
  simp only[zDf,hz1];exact⟨_,rfl,fun h1 h2=>⟨fun _=>by simp[List.getD,zBc (hl x (by simp))],h1,h2⟩⟩
theorem apSs_own{H:List AO}{s:AV}{es l:List AV}(h:Own H s es):Own (apHs H s es l) (apSs H s es.length l) (es++l):=by
 cases l with
 | nil=>simpa[apHs,apSs]using h
 | cons x l =>
  have h1:(apHs H s es (x::l))[H.length]?=some (.arr 1 (es++x::l)):=by
   unfold apHs;simp only
   split
   ·rw[List.getElem?_append_right (by simp)]; simp
   ·rw[List.getElem?_append_right (by simp)]; simp
  have:=Own.row h1 (by simp; omega);simpa[apSs,List.length_append]using this
theorem apHs_get{H:List AO}{s:AV}{es l:List AV}{j:Nat}(hj:j < H.length)(hs:zAw s≠some j):(apHs H s es l)[j]?=H[j]?:=by
 unfold apHs
 split
 ·rfl
 ·split
  ·rename_i id _ _ _;have:id≠j:=fun e=>hs (by simp[zAw,e])
   rw[zL (by simp; omega),zQ this]
  ·rw[zL hj]
theorem ownId_apSs{H:List AO}{s:AV}{n:Nat}{l:List AV}{j:Nat}(hj:j < H.length)(hs:zAw s≠some j):zAw (apSs H s n l)≠some j:=by
 unfold apSs
 split
 ·exact hs
 ·simp[zAw]; omega
theorem frS_pur{l:List AV}(h:AV.purL l=true):(frS l).pur=true:=by
 cases l with
 | nil=>rfl
 | cons x l=>simpa[frS,AV.pur]using h
theorem frS_ne{l:List AV}(h:0 < l.length):frS l=.isl l:=by
 cases l with
 | nil=>simp at h
 | cons x l=>rfl
theorem zFo{n:Nat}{H:List AO}:∀ {l:List AV},AV.purL l=true->mapO (frz (n+1) H) l=some l
 | [],_=>rfl
 | x::l,h=>by
  rw[purL_eq,List.all_eq_true]at h;have h1:x.pur=true:=h x (by simp);have h2:AV.purL l=true:=by rw[purL_eq,List.all_eq_true]; exact fun y hy=>h y (by simp[hy])
  rw[mapO,zFo h2,show frz (n+1) H x=some x by simp[frz,h1]]
theorem Own.frz{H:List AO}{s:AV}{es:List AV}(h:Own H s es)(hp:AV.purL es=true){n:Nat}:frz (n+2) H s=some (frS es):=by
 cases h with
 | nil=>simp[Go.Ab.frz,AV.pur,frS]
 | row h h0 =>
  have:frS es=.isl es:=by cases es <;> simp_all [frS]
  rw[this];unfold Go.Ab.frz;simp only[AV.pur,Bool.false_eq_true,if_false,h,Nat.zero_add,Nat.le_refl,if_true,List.drop_zero,List.take_length];rw[zFo hp]; rfl
theorem Own.done{H:List AO}{s:AV}{es:List AV}(h:Own H s es)(hp:AV.purL es=true):∃ n,Go.Ab.frz n H s=some (frS es):=⟨2,h.frz hp⟩
theorem Own.done2{H:List AO}{s v:AV}{es:List AV}(h:Own H s es)(hp:AV.purL es=true)(hv:v.pur=true):∃ n,Go.Ab.frz n H (.tup [s,v])=some (.tup [frS es,v]) :=
 ⟨3,by
  unfold Go.Ab.frz
  split
  ·rename_i hq;cases h with
   | nil=>rfl
   | row=>simp[AV.pur,AV.purL]at hq
  ·simp only[mapO,h.frz hp (n:=0)];rw[show Go.Ab.frz 2 H v=some v by simp[Go.Ab.frz,hv]];rfl⟩
theorem Own.done1{H:List AO}{s v:AV}{es:List AV}(h:Own H s es)(hp:AV.purL es=true)(hv:v.pur=true):∃ n,Go.Ab.frz n H (.tup [v,s])=some (.tup [v,frS es]) :=
 ⟨3,by
  unfold Go.Ab.frz
  split
  ·rename_i hq;cases h with
   | nil=>rfl
   | row=>simp[AV.pur,AV.purL]at hq
  ·simp only[mapO,h.frz hp (n:=0)];rw[show Go.Ab.frz 2 H v=some v by simp[Go.Ab.frz,hv]];rfl⟩
theorem aLen_isl{t e:TypeId}(h:P.underlying t=some (.slice e))(l:List AV):aLen P t (.isl l)=some (l.length:Int):=by unfold aLen; rw[h]
theorem aLen_nil{t e:TypeId}(h:P.underlying t=some (.slice e)):aLen P t (.c (.slice none 0 0))=some 0:=by unfold aLen; simp only[h]
theorem aLen_frS{t e:TypeId}(h:P.underlying t=some (.slice e))(l:List AV):aLen P t (frS l)=some (l.length:Int):=by
 cases l with
 | nil=>exact aLen_nil h
 | cons x l=>exact aLen_isl h _
theorem aIdx_isl{t e:TypeId}(h:P.underlying t=some (.slice e)){m:Nat}(hs:szT P e=some m)(l:List AV)(i:Int)(H:List AO) :
  zAk P t (.isl l) i H=some ((0<=i/\i < (l.length:Int))/\(l.getD i.toNat .un).cells.length=m,.iptr (l.getD i.toNat .un).cells 0):=by unfold zAk; simp only[h,hs]
theorem aIdx_sl{t e:TypeId}(h:P.underlying t=some (.slice e)){m:Nat}(hs:szT P e=some m){id st len cap:Nat}{es:List AV}{H:List AO}(hid:H[id]?=some (.arr m es))(i:Int) :
  zAk P t (.sl id st len cap) i H=some (0<=i/\i < (len:Int),.eptr id (st+i.toNat) 0):=by unfold zAk; simp only[h,hs,hid,if_true]
theorem zAj{α:Type}(f:α->AV)(l:List α)(d:α){i:Nat}(h:i < l.length):(l.map f).getD i .un=f (l.getD i d):=by simp[List.getD,h]
theorem zAi{α:Type}(f:α->AV)(l:List α)(h:∀ x,(f x).pur=true):AV.purL (l.map f)=true:=by
 rw[purL_eq,List.all_eq_true]
 intro x hx
 obtain⟨w,_,rfl⟩:=List.mem_map.1 hx;exact h w
end
open Go.Sort
theorem rel_grow{G:Gl}{E:En}{H:List AO}:∀(os:List Obj) {w:World},RelH G w E H->RelH G (grow w os.toArray) E H/\Grow H E w H E (grow w os.toArray)
 | [],w,h=>by rw[show(([]:List Obj).toArray)=#[] from rfl,grow_empty]; exact⟨h,Grow.refl _ _ _⟩
 | o::os,w,h=>by
  have h1:=zEg h o;rw[alloc_eq_grow]at h1;have h2:=rel_grow os h1.1;rw[grow_grow]at h2;have e:(#[o]++os.toArray:Array Obj)=(o::os).toArray:=by simp
  rw[e]at h2;exact⟨h2.1,h1.2.trans h2.2⟩
def SortsInts(P:Program)(f:FuncId):Prop:=∀(blk off cap:Nat) (zs:List Int) (w:World),Holds (Value.int .i64) w blk off zs.toArray->blk < w.heap.size->zs.length < 4611686018427387904 ->
 Calls P f #[.slice (some ⟨blk,off,none⟩) zs.length cap] w fun e w'=>e=.returned (.tuple #[])/\∃ n os,w'=grow (putRow (Value.int .i64) (Sort.ahead w n) blk off (zs.mergeSort fun x y=>decide (x<=y)).toArray) os
def srt(zs:List Int):List Int:=zs.mergeSort fun x y=>decide (x<=y)
theorem zCw(zs:List Int):(srt zs).length=zs.length:=by simp[srt]
theorem srt_mem{zs:List Int}{x:Int}:x∈srt zs ↔ x∈zs:=by simp[srt]
abbrev IA(n:Int):AV:=.c (.int .i64 n)
variable {P:Program} {G:Gl}
theorem AC.sortInts{f:FuncId}(hf:zDv P f)(hS:SortsInts P f){H:List AO}{id cap len:Nat}{zs:List Int}(hid:H[id]?=some (.arr 1 (zs.map IA)))(hl:zs.length=len)(h0:0 < len)(hc:len<=cap)(hsz:len < 4611686018427387904)
  {K:AV->List AO->Prop} (hK:K (.tup []) (H.set id (.arr 1 ((srt zs).map IA)))):AC P G f [.sl id 0 len cap] H K:=by
 refine⟨hf,fun E w vargs hH hA cs=>?_⟩;obtain⟨hn,hA⟩:=hA;have hv:=hA 0 (by simp);have hvs:vargs=#[vargs.getD 0 undef]:=by
  have h1:vargs.size=1:=hn;apply Array.ext
  ·simpa using h1
  ·intro i h2 h3
   have:i=0:=by simp at h3; omega
   subst this;simp[Array.getD,h1]
 rw[hvs]
 generalize vargs.getD 0 undef=x at hv
 simp only[List.getD,List.getElem?_cons_zero,Option.getD_some]at hv;cases hv with
 | sl hloc g1 g2 g3 =>
  rename_i l ad cc;obtain⟨rfl,n,hrow,hle⟩:=g3 (by omega);obtain⟨l',hl',hszl,c,t,hcell,hs,hr⟩:=hH.obj id _ hid rfl;rw[hloc]at hl'; cases hl';have hszl0:=hszl;rw[hszl]at hle ⊢;simp only[Nat.mul_one,Nat.zero_mul,Nat.add_zero,zM]at hle hs hr ⊢;have hblk:l.b < w.heap.size:=zBg hcell;have hval:∀ j,j < zs.length->c.getD (l.base+j) undef=.int .i64 (zs.getD j 0):=fun j hj=>by
   have h1:=(hr j hj).2.2 0 (by omega);have e:(zs.map IA).getD j .un=IA (zs.getD j 0):=zAj IA zs 0 hj;rw[e]at h1;simp only[IA,AV.cells,List.getD,List.getElem?_cons_zero,Option.getD_some,Nat.add_zero]at h1;have h2:=h1.2
   generalize c.getD (l.base+j) undef=q at h2 ⊢
   cases h2;rfl
  have hH0:Holds (Value.int .i64) w l.b l.base zs.toArray:=fun j hj=>by
   have hj':j < zs.length:=by simpa using hj
   refine⟨?_,by simp[World.frozen?,hcell]⟩;rw[cell?_row' hcell (by omega),hval j hj'];simp[List.getD,hj']
  subst hl;obtain⟨e,w',fr,⟨rfl,m,os,rfl⟩,h3,h4,h5⟩:=hS l.b l.base cc zs w hH0 hblk hsz cs;have hA1:=zFk (w':=Sort.ahead w m) hH rfl;have hG1:Grow H E w H E (Sort.ahead w m):=⟨hA1.2,Nat.le_refl _,fun _ _ _=>rfl,fun _ h=>.inl h,fun _ h=>.inl h,rfl,rfl,⟨rfl,by first | exact Nat.le_refl _ | exact Nat.le_add_right _ _⟩⟩;have hpr:(putRow (Value.int .i64) (Sort.ahead w m) l.b l.base (srt zs).toArray).heap[l.b]?=some (.cells (putCells (Value.int .i64) l.base (srt zs).toArray c) t (0,0)):=by
   simp[putRow,mapBlock,Sort.ahead,Array.getElem?_modify,hcell,onCells]
  have hW:=zBw (w':=putRow (Value.int .i64) (Sort.ahead w m) l.b l.base (srt zs).toArray) hA1.1 hid rfl hloc (.arr 1 ((srt zs).map IA)) (by simp[Sort.ahead]) (fun b hb=>by
    simp[putRow,mapBlock,Array.getElem?_modify,fun e=>hb (Eq.symm e)]
    intro e; exact absurd e.symm hb) (fun n' hn'=>by
    simp only[zAu,hpr];have:(Sort.ahead w m).heap[l.b]?=some (.cells c t (0,0)):=hcell;simp only[zAu,this]at hn';simpa[putCells]using hn') rfl rfl ⟨rfl,Nat.le_refl _⟩ (fun hm=>⟨hszl0,_,t,hpr,by simp[putCells,zCw]; omega,fun i hi=>by
    have hi':i < (srt zs).length:=by simpa using hi
    have hi2:i < zs.length:=by rw[<- zCw]; exact hi'
    have e:((srt zs).map IA).getD i .un=IA ((srt zs).getD i 0):=zAj IA (srt zs) 0 hi';rw[e];refine⟨rfl,rfl,fun j hj=>⟨by
     have:j=0:=by omega
     subst this; rfl,?_⟩⟩
    have hj0:j=0:=by omega
    subst hj0;have hlt:l.base+i < c.size:=by omega
    have e2:(putCells (Value.int .i64) l.base (srt zs).toArray c).getD (l.base+i*1+0) undef=.int .i64 ((srt zs).getD i 0):=by
     rw[Nat.mul_one,Nat.add_zero,Array.getD_eq_getD_getElem?,putCells,Array.getElem?_mapIdx,Array.getElem?_eq_getElem hlt,Option.map_some,Option.getD_some,if_pos ⟨by omega,by simp; omega⟩];simp[List.getD,hi']
    rw[e2];exact .c rfl⟩)
  have hg:=rel_grow os.toList hW.1;rw[show os.toList.toArray=os by simp]at hg;exact⟨_,_,E,_,_,fr,hK,hg.1,(hG1.trans hW.2).trans hg.2,.tup rfl (fun i hi=>by simp at hi),h3,h4,h5⟩
variable {P:Program} {G:Gl}
theorem FW.loopInv{rd:Option Nat}{n:Nat}{todo:List Item}{Q:Lv->(Nat->AV)->List AO->Prop}(I:Nat->(Nat->AV)->List AO->Prop)(left:Nat){ts:Nat->AV}{H:List AO}(h0:I left ts H)
  (hs:∀ left,(∀ m,m < left->∀ ts H,I m ts H->FW P G rd n todo ts H Q)->∀ ts H,I left ts H->FW P G rd n todo ts H Q):FW P G rd n todo ts H Q:=by
 have key:∀ k ts H,I k ts H->FW P G rd n todo ts H Q:=by
  intro k
  induction k using Nat.strongRecOn with
  | ind k ih=>exact hs k ih
 exact key _ _ _ h0
def upto{α:Type}(f:Int->List α)(k:Int):Nat->List α
 | 0=>[]
 | n+1=>f k++upto f (k+1) n
theorem zDk{α:Type}(f:Int->List α)(k:Int)(n:Nat):upto f k (n+1)=f k++upto f (k+1) n:=rfl
theorem zEa{α:Type}(f:Int->List α)(L:Nat):∀(n:Nat) (k:Int),(∀ i,k<=i->i < k+n->(f i).length=L)->(upto f k n).length=n*L
 | 0,k,h=>by simp[upto]
 | n+1,k,h=>by
  rw[zDk,List.length_append,h k (by omega) (by omega),zEa f L n (k+1) (fun i h1 h2=>h i (by omega) (by omega)),Nat.succ_mul]; omega
theorem upto_le{α:Type}(f:Int->List α)(L:Nat):∀(n:Nat) (k:Int),(∀ i,k<=i->i < k+n->(f i).length<=L)->(upto f k n).length<=n*L
 | 0,k,h=>by simp[upto]
 | n+1,k,h=>by
  have h1:=h k (by omega) (by omega);have h2:=upto_le f L n (k+1) (fun i h1 h2=>h i (by omega) (by omega));rw[zDk,List.length_append,Nat.succ_mul]; omega
theorem mem_upto{α:Type}{f:Int->List α}{x:α}:∀ {n:Nat} {k:Int},x∈upto f k n->∃ i,k<=i/\i < k+n/\x∈f i
 | 0,k,h=>by simp[upto]at h
 | n+1,k,h=>by
  rw[zDk,List.mem_append]at h
  rcases h with h | h
  ·exact⟨k,by omega,by omega,h⟩
  ·obtain⟨i,h1,h2,h3⟩:=mem_upto h;exact⟨i,by omega,by omega,h3⟩
theorem zCx{α:Type}{a b c:List α}(h:a++b=c):a.length<=c.length:=by rw[<- h]; simp
theorem apC_of{n by':Nat}(h:n<=2^20)(hb:by'<=2^10):apC n by':=by
 unfold apC;have:(n+1)*by'<=(2^20+1)*2^10:=Nat.mul_le_mul (by omega) hb;omega
theorem apI{H:List AO}{s:AV}{es:List Int}{v:Int}:Own (apH H s (es.map IA) (IA v)) (.sl (H.length+1) 0 ((es.map IA).length+1) ((es.map IA).length+1)) ((es++[v]).map IA):=by
 rw[List.map_append];exact apH_own
theorem ownNe{id st len cap j:Nat}(h:id≠j):zAw (.sl id st len cap)≠some j:=by
 simp only[zAw,ne_eq,Option.some.injEq]; exact h
theorem zAc{H:List AO}{j:Nat}{o:AO}(h:H[j]?=some o):j < H.length:=(List.getElem?_eq_some_iff.1 h).1
theorem Own.sort{f:FuncId}(hf:zDv P f)(hS:SortsInts P f){H:List AO}{s:AV}{zs:List Int}(h:Own H s (zs.map IA))(h0:0 < zs.length)(hsz:zs.length<=2^20){K:AV->List AO->Prop}
  (hK:∀ H',Own H' s ((srt zs).map IA)->(∀ j,zAw s≠some j->H'[j]?=H[j]?)->K (.tup []) H'):AC P G f [s] H K:=by
 generalize hes:zs.map IA=es at h
 cases h with
 | nil=>cases zs <;> simp_all
 | row hid hl =>
  rename_i id;subst hes;refine AC.sortInts hf hS hid (by simp) (by simpa using hl) (Nat.le_refl _) (by simp; omega) (hK _ ?_ ?_)
  ·have h1:=zAc hid;have h2:(H.set id (.arr 1 ((srt zs).map IA)))[id]?=some (.arr 1 ((srt zs).map IA)):=by rw[zS h1]
   have:=Own.row h2 (by simp[zCw]; omega);simpa[zCw]using this
  ·intro j hj
   exact zQ (fun e=>hj (by simp[zAw,e]))
end Go.Ab
