/- One of the texts that this claim stands on. -/
import Derived.Test.YtnfnhccebebflaaGreatEv17
set_option maxHeartbeats 40000000
set_option maxRecDepth 400000
set_option linter.all false
namespace Go.Ab
inductive Own(H:List AO):AV->List AV->Prop
 | nil:Own H (.c (.slice none 0 0)) []
 | row {id:Nat} {es:List AV} (h:H[id]?=some (.arr 1 es)) (h0:0 < es.length):Own H (.sl id 0 es.length es.length) es
def zAl:AV->Option Nat
 | .sl id _ _ _=>some id
 | _=>none
def apH(H:List AO)(s:AV)(es:List AV)(v:AV):List AO:=(match s with
 | .sl id _ _ _=>(H++[AO.arr 1 [v]]).set id AO.dead
 | _=>H++[AO.arr 1 [v]])++[AO.arr 1 (es++[v])]
theorem apH_length{H:List AO}{s:AV}{es:List AV}{v:AV}:(apH H s es v).length=H.length+2:=by
 unfold apH; split <;> simp
theorem apH_own{H:List AO}{s:AV}{es:List AV}{v:AV}:Own (apH H s es v) (.sl (H.length+1) 0 (es.length+1) (es.length+1)) (es++[v]):=by
 have h:(apH H s es v)[H.length+1]?=some (.arr 1 (es++[v])):=by
  unfold apH
  split
  ·rw[List.getElem?_append_right (by simp)]; simp
  ·rw[List.getElem?_append_right (by simp)]; simp
 have:=Own.row h (by simp);simpa using this
theorem zFt{H:List AO}{s:AV}{es:List AV}{v:AV}{j:Nat}(hj:j < H.length)(hs:zAl s≠some j):(apH H s es v)[j]?=H[j]?:=by
 unfold apH
 split
 ·rename_i id _ _ _;have:id≠j:=fun e=>hs (by simp[zAl,e])
  rw[zL (by simp; omega),zQ this,zL hj]
 ·rw[zL (by simp; omega),zL hj]
theorem Own.lt{H:List AO}{s:AV}{es:List AV}(h:Own H s es){j:Nat}(hj:zAl s=some j):j < H.length:=by
 cases h with
 | nil=>cases hj
 | row h _=>cases hj; exact(List.getElem?_eq_some_iff.1 h).1
theorem Own.keep{H H':List AO}{s:AV}{es:List AV}(h:Own H s es)(hk:∀ j,zAl s=some j->H'[j]?=H[j]?):Own H' s es:=by
 cases h with
 | nil=>exact .nil
 | row h h0=>exact .row ((hk _ rfl).trans h) h0
theorem Own.cell{H:List AO}{s:AV}{es:List AV}(h:Own H s es):s.isCell=true/\s.isEl=true/\s.cells=[s]:=by
 cases h <;> exact⟨rfl,rfl,rfl⟩
theorem Own.append{H:List AO}{s:AV}{es:List AV}(h:Own H s es)(l:List AO):Own (H++l) s es :=
 h.keep fun j hj=>zL (h.lt hj)
section
variable {P:Program}
def apC(n by':Nat):Prop:=(n+1)*by'<=2^40/\n+1<=2^40
theorem aApp1{t u e e':TypeId}(ht:P.underlying t=some (.slice e))(hu:P.underlying u=some (.slice e')){z:AV}{by':Nat}(hz:zBk P e=some z)(hz1:z.cells.length=1)(hb:zCe P e=some by')
  {H:List AO} {s:AV} {es:List AV} (h:Own H s es) (v:AV) :
  zBb P t u s (.sl H.length 0 1 1) (H++[.arr 1 [v]])=some ⟨apC es.length by',.sl (H.length+1) 0 (es.length+1) (es.length+1),apH H s es v⟩:=by
 unfold zBb;simp only[ht,hu,hz,hb,hz1,elsOf];rw[show(H++[AO.arr 1 [v]])[H.length]?=some (.arr 1 [v]) by simp];simp only[List.length_cons,List.length_nil,Nat.zero_add,Nat.le_refl,and_self,if_true,List.drop_zero,List.take_succ_cons,List.take_zero];cases h with
 | nil=>simp[zCh,apH,apC,hz1]
 | row h h0 =>
  rename_i id;have hid:=(List.getElem?_eq_some_iff.1 h).1;simp only[zL hid,h];simp[apH,apC,h0]
def frS:List AV->AV
 | []=>.c (.slice none 0 0)
 | l=>.isl l
def apHs(H:List AO)(s:AV)(es l:List AV):List AO:=match l with
 | []=>H
 | _=>(match s with
  | .sl id _ _ _=>H.set id .dead
  | _=>H)++[.arr 1 (es++l)]
def apSs(H:List AO)(s:AV)(n:Nat)(l:List AV):AV:=match l with
 | []=>s
 | _=>.sl H.length 0 (n+l.length) (n+l.length)
theorem aAppL{t u e e':TypeId}(ht:P.underlying t=some (.slice e))(hu:P.underlying u=some (.slice e')){z:AV}{by':Nat}(hz:zBk P e=some z)(hz1:z.cells.length=1)(hb:zCe P e=some by')
  {H:List AO} {s:AV} {es:List AV} (h:Own H s es) {l:List AV} (hl:∀ x∈l,x.isCell=true) :
  ∃ C,zBb P t u s (.isl l) H=some ⟨C,apSs H s es.length l,apHs H s es l⟩/\((es.length+l.length)*by'<=2^40->es.length+l.length<=2^40->C):=by
 unfold zBb;simp only[ht,hu,hz,hb,hz1,elsOf];have hc:0 < l.length->(l.getD 0 .un).cells.length=1:=fun h0=>by
  cases l with
  | nil=>simp at h0
  | cons x l =>
   have:=hl x (by simp);simp[List.getD,zAx this]
 cases h with
 | nil =>
  cases l with
  | nil=>exact⟨_,rfl,fun _ _=>hc⟩
  | cons x l =>
   simp only[zCh,apHs,apSs,hz1,List.length_cons,List.length_nil,Nat.zero_add,List.nil_append];exact⟨_,rfl,fun h1 h2=>⟨hc,h1,h2⟩⟩
 | row h h0 =>
  cases l with
  | nil=>exact⟨_,rfl,fun _ _=>hc⟩
  | cons x l =>
   simp only[h,Nat.zero_add,Nat.le_refl,h0,and_self,if_true,List.drop_zero,List.take_length,apHs,apSs];exact⟨_,rfl,fun h1 h2=>⟨hc,h1,h2⟩⟩
theorem aAppF{t u e e':TypeId}(ht:P.underlying t=some (.slice e))(hu:P.underlying u=some (.slice e')){z:AV}{by':Nat}(hz:zBk P e=some z)(hz1:z.cells.length=1)(hb:zCe P e=some by')
  {H:List AO} {s:AV} {es:List AV} (h:Own H s es) {l:List AV} (hl:∀ x∈l,x.isCell=true) :
  ∃ C,zBb P t u s (frS l) H=some ⟨C,apSs H s es.length l,apHs H s es l⟩/\((es.length+l.length)*by'<=2^40->es.length+l.length<=2^40->C):=by
 cases l with
 | nil =>
  have:zBb P t u s (frS []) H=some ⟨True,s,H⟩:=by
   unfold zBb;simp only[ht,hu,hz,hb,frS,elsOf];cases h with
   | nil=>simp[zCh]
   | row hid h0=>rfl
  exact⟨True,this,fun _ _=>trivial⟩
 | cons x l=>exact aAppL ht hu hz hz1 hb h hl
theorem aAppZ{t u e e':TypeId}(ht:P.underlying t=some (.slice e))(hu:P.underlying u=some (.slice e')){z:AV}{by':Nat}(hz:zBk P e=some z)(hz1:z.cells.length=1)(hb:zCe P e=some by')
  {H:List AO} {l:List AV} (hl:∀ x∈l,x.isCell=true) (h0:0 < l.length) :
  ∃ C,zBb P t u .zs (.isl l) H=some ⟨C,.sl H.length 0 l.length l.length,H++[.arr 1 l]⟩/\(l.length*by'<=2^40->l.length<=2^40->C):=by
 unfold zBb;simp only[ht,hu,hz,hb,hz1,elsOf];cases l with
 | nil=>simp at h0
 | cons x l =>
  simp only[zCh,hz1];exact⟨_,rfl,fun h1 h2=>⟨fun _=>by simp[List.getD,zAx (hl x (by simp))],h1,h2⟩⟩
theorem apSs_own{H:List AO}{s:AV}{es l:List AV}(h:Own H s es):Own (apHs H s es l) (apSs H s es.length l) (es++l):=by
 cases l with
 | nil=>simpa[apHs,apSs]using h
 | cons x l =>
  have h1:(apHs H s es (x::l))[H.length]?=some (.arr 1 (es++x::l)):=by
   unfold apHs;simp only
   split
   ·rw[List.getElem?_append_right (by simp)]; simp
   ·rw[List.getElem?_append_right (by simp)]; simp
  have:=Own.row h1 (by simp; omega);simpa[apSs,List.length_append]using this
theorem zEh{H:List AO}{s:AV}{es l:List AV}{j:Nat}(hj:j < H.length)(hs:zAl s≠some j):(apHs H s es l)[j]?=H[j]?:=by
 unfold apHs
 split
 ·rfl
 ·split
  ·rename_i id _ _ _;have:id≠j:=fun e=>hs (by simp[zAl,e])
   rw[zL (by simp; omega),zQ this]
  ·rw[zL hj]
theorem zCz{H:List AO}{s:AV}{n:Nat}{l:List AV}{j:Nat}(hj:j < H.length)(hs:zAl s≠some j):zAl (apSs H s n l)≠some j:=by
 unfold apSs
 split
 ·exact hs
 ·simp[zAl]; omega
theorem frS_pur{l:List AV}(h:AV.purL l=true):(frS l).pur=true:=by
 cases l with
 | nil=>rfl
 | cons x l=>simpa[frS,AV.pur]using h
theorem zFa{l:List AV}(h:0 < l.length):frS l=.isl l:=by
 cases l with
 | nil=>simp at h
 | cons x l=>rfl
theorem zEc{n:Nat}{H:List AO}:∀ {l:List AV},AV.purL l=true->mapO (frz (n+1) H) l=some l
 | [],_=>rfl
 | x::l,h=>by
  rw[purL_eq,List.all_eq_true]at h;have h1:x.pur=true:=h x (by simp);have h2:AV.purL l=true:=by rw[purL_eq,List.all_eq_true]; exact fun y hy=>h y (by simp[hy])
  rw[mapO,zEc h2,show frz (n+1) H x=some x by simp[frz,h1]]
theorem Own.frz{H:List AO}{s:AV}{es:List AV}(h:Own H s es)(hp:AV.purL es=true){n:Nat}:frz (n+2) H s=some (frS es):=by
 cases h with
 | nil=>simp[Go.Ab.frz,AV.pur,frS]
 | row h h0 =>
  have:frS es=.isl es:=by cases es <;> simp_all [frS]
  rw[this];unfold Go.Ab.frz;simp only[AV.pur,Bool.false_eq_true,if_false,h,Nat.zero_add,Nat.le_refl,if_true,List.drop_zero,List.take_length];rw[zEc hp]; rfl
theorem Own.done{H:List AO}{s:AV}{es:List AV}(h:Own H s es)(hp:AV.purL es=true):∃ n,Go.Ab.frz n H s=some (frS es):=⟨2,h.frz hp⟩
theorem Own.done2{H:List AO}{s v:AV}{es:List AV}(h:Own H s es)(hp:AV.purL es=true)(hv:v.pur=true):∃ n,Go.Ab.frz n H (.tup [s,v])=some (.tup [frS es,v]) :=
 ⟨3,by
  unfold Go.Ab.frz
  split
  ·rename_i hq;cases h with
   | nil=>rfl
   | row=>simp[AV.pur,AV.purL]at hq
  ·simp only[mapO,h.frz hp (n:=0)];rw[show Go.Ab.frz 2 H v=some v by simp[Go.Ab.frz,hv]];rfl⟩
theorem Own.done1{H:List AO}{s v:AV}{es:List AV}(h:Own H s es)(hp:AV.purL es=true)(hv:v.pur=true):∃ n,Go.Ab.frz n H (.tup [v,s])=some (.tup [v,frS es]) :=
 ⟨3,by
  unfold Go.Ab.frz
  split
  ·rename_i hq;cases h with
   | nil=>rfl
   | row=>simp[AV.pur,AV.purL]at hq
  ·simp only[mapO,h.frz hp (n:=0)];rw[show Go.Ab.frz 2 H v=some v by simp[Go.Ab.frz,hv]];rfl⟩
theorem aLen_isl{t e:TypeId}(h:P.underlying t=some (.slice e))(l:List AV):aLen P t (.isl l)=some (l.length:Int):=by unfold aLen; rw[h]
theorem aLen_nil{t e:TypeId}(h:P.underlying t=some (.slice e)):aLen P t (.c (.slice none 0 0))=some 0:=by unfold aLen; simp only[h]
theorem aLen_sl{t e:TypeId}(h:P.underlying t=some (.slice e))(id st len cap:Nat):aLen P t (.sl id st len cap)=some (len:Int):=by unfold aLen; rw[h]
theorem aLen_frS{t e:TypeId}(h:P.underlying t=some (.slice e))(l:List AV):aLen P t (frS l)=some (l.length:Int):=by
 cases l with
 | nil=>exact aLen_nil h
 | cons x l=>exact aLen_isl h _
theorem aIdx_isl{t e:TypeId}(h:P.underlying t=some (.slice e)){m:Nat}(hs:szT P e=some m)(l:List AV)(i:Int)(H:List AO) :
  zAn P t (.isl l) i H=some ((0<=i/\i < (l.length:Int))/\(l.getD i.toNat .un).cells.length=m,.iptr (l.getD i.toNat .un).cells 0):=by unfold zAn; simp only[h,hs]
theorem aIdx_sl{t e:TypeId}(h:P.underlying t=some (.slice e)){m:Nat}(hs:szT P e=some m){id st len cap:Nat}{es:List AV}{H:List AO}(hid:H[id]?=some (.arr m es))(i:Int) :
  zAn P t (.sl id st len cap) i H=some (0<=i/\i < (len:Int),.eptr id (st+i.toNat) 0):=by unfold zAn; simp only[h,hs,hid,if_true]
theorem zAe{α:Type}(f:α->AV)(l:List α)(d:α){i:Nat}(h:i < l.length):(l.map f).getD i .un=f (l.getD i d):=by simp[List.getD,h]
theorem zAc{α:Type}(f:α->AV)(l:List α)(h:∀ x,(f x).pur=true):AV.purL (l.map f)=true:=by
 rw[purL_eq,List.all_eq_true]
 intro x hx
 obtain⟨w,_,rfl⟩:=List.mem_map.1 hx;exact h w
end
end Go.Ab
