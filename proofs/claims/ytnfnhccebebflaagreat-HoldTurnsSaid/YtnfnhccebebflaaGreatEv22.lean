/- One of the texts that this claim stands on. -/
import Derived.Test.YtnfnhccebebflaaGreatEv21
import Derived.Shelf.Sort.Plain
set_option maxHeartbeats 40000000
set_option maxRecDepth 400000
set_option linter.all false
namespace Go.Ab
open Go.Sort
theorem rel_grow{G:Gl}{E:En}{H:List AO}:∀(os:List Obj) {w:World},RelH G w E H->RelH G (grow w os.toArray) E H/\Grow H E w H E (grow w os.toArray)
 | [],w,h=>by rw[show(([]:List Obj).toArray)=#[] from rfl,grow_empty]; exact⟨h,Grow.refl _ _ _⟩
 | o::os,w,h=>by
  have h1:=rel_alloc_plain h o;rw[alloc_eq_grow]at h1;have h2:=rel_grow os h1.1;rw[grow_grow]at h2;have e:(#[o]++os.toArray:Array Obj)=(o::os).toArray:=by simp
  rw[e]at h2;exact⟨h2.1,h1.2.trans h2.2⟩
def SortsInts(P:Program)(f:FuncId):Prop:=∀(blk off cap:Nat) (zs:List Int) (w:World),Holds (Value.int .i64) w blk off zs.toArray->blk < w.heap.size->zs.length < 4611686018427387904 ->
 Calls P f #[.slice (some ⟨blk,off,none⟩) zs.length cap] w fun e w'=>e=.returned (.tuple #[])/\∃ n os,w'=grow (putRow (Value.int .i64) (Sort.ahead w n) blk off (zs.mergeSort fun x y=>decide (x<=y)).toArray) os
def srt(zs:List Int):List Int:=zs.mergeSort fun x y=>decide (x<=y)
theorem zCm(zs:List Int):(srt zs).length=zs.length:=by simp[srt]
theorem srt_mem{zs:List Int}{x:Int}:x∈srt zs ↔ x∈zs:=by simp[srt]
abbrev IA(n:Int):AV:=.c (.int .i64 n)
variable {P:Program} {G:Gl}
theorem AC.sortInts{f:FuncId}(hf:zDo P f)(hS:SortsInts P f){H:List AO}{id cap len:Nat}{zs:List Int}(hid:H[id]?=some (.arr 1 (zs.map IA)))(hl:zs.length=len)(h0:0 < len)(hc:len<=cap)(hsz:len < 4611686018427387904)
  {K:AV->List AO->Prop} (hK:K (.tup []) (H.set id (.arr 1 ((srt zs).map IA)))):AC P G f [.sl id 0 len cap] H K:=by
 refine⟨hf,fun E w vargs hH hA cs=>?_⟩;obtain⟨hn,hA⟩:=hA;have hv:=hA 0 (by simp);have hvs:vargs=#[vargs.getD 0 undef]:=by
  have h1:vargs.size=1:=hn;apply Array.ext
  ·simpa using h1
  ·intro i h2 h3
   have:i=0:=by simp at h3; omega
   subst this;simp[Array.getD,h1]
 rw[hvs]
 generalize vargs.getD 0 undef=x at hv
 simp only[List.getD,List.getElem?_cons_zero,Option.getD_some]at hv;cases hv with
 | sl hloc g1 g2 g3 =>
  rename_i l ad cc;obtain⟨rfl,n,hrow,hle⟩:=g3 (by omega);obtain⟨l',hl',hszl,c,t,hcell,hs,hr⟩:=hH.obj id _ hid rfl;rw[hloc]at hl'; cases hl';have hszl0:=hszl;rw[hszl]at hle ⊢;simp only[Nat.mul_one,Nat.zero_mul,Nat.add_zero,zM]at hle hs hr ⊢;have hblk:l.b < w.heap.size:=zAu hcell;have hval:∀ j,j < zs.length->c.getD (l.base+j) undef=.int .i64 (zs.getD j 0):=fun j hj=>by
   have h1:=(hr j hj).2.2 0 (by omega);have e:(zs.map IA).getD j .un=IA (zs.getD j 0):=zAe IA zs 0 hj;rw[e]at h1;simp only[IA,AV.cells,List.getD,List.getElem?_cons_zero,Option.getD_some,Nat.add_zero]at h1;have h2:=h1.2
   generalize c.getD (l.base+j) undef=q at h2 ⊢
   cases h2;rfl
  have hH0:Holds (Value.int .i64) w l.b l.base zs.toArray:=fun j hj=>by
   have hj':j < zs.length:=by simpa using hj
   refine⟨?_,by simp[World.frozen?,hcell]⟩;rw[cell?_row' hcell (by omega),hval j hj'];simp[List.getD,hj']
  subst hl;obtain⟨e,w',fr,⟨rfl,m,os,rfl⟩,h3,h4,h5⟩:=hS l.b l.base cc zs w hH0 hblk hsz cs;have hA1:=zFg (w':=Sort.ahead w m) hH rfl;have hG1:Grow H E w H E (Sort.ahead w m):=⟨hA1.2,Nat.le_refl _,fun _ _ _=>rfl,fun _ h=>.inl h,fun _ h=>.inl h,rfl,rfl,⟨rfl,by first | exact Nat.le_refl _ | exact Nat.le_add_right _ _⟩⟩;have hpr:(putRow (Value.int .i64) (Sort.ahead w m) l.b l.base (srt zs).toArray).heap[l.b]?=some (.cells (putCells (Value.int .i64) l.base (srt zs).toArray c) t (0,0)):=by
   simp[putRow,mapBlock,Sort.ahead,Array.getElem?_modify,hcell,onCells]
  have hW:=zBs (w':=putRow (Value.int .i64) (Sort.ahead w m) l.b l.base (srt zs).toArray) hA1.1 hid rfl hloc (.arr 1 ((srt zs).map IA)) (by simp[Sort.ahead]) (fun b hb=>by
    simp[putRow,mapBlock,Array.getElem?_modify,fun e=>hb (Eq.symm e)]
    intro e; exact absurd e.symm hb) (fun n' hn'=>by
    simp only[zAt,hpr];have:(Sort.ahead w m).heap[l.b]?=some (.cells c t (0,0)):=hcell;simp only[zAt,this]at hn';simpa[putCells]using hn') rfl rfl ⟨rfl,Nat.le_refl _⟩ (fun hm=>⟨hszl0,_,t,hpr,by simp[putCells,zCm]; omega,fun i hi=>by
    have hi':i < (srt zs).length:=by simpa using hi
    have hi2:i < zs.length:=by rw[<- zCm]; exact hi'
    have e:((srt zs).map IA).getD i .un=IA ((srt zs).getD i 0):=zAe IA (srt zs) 0 hi';rw[e];refine⟨rfl,rfl,fun j hj=>⟨by
     have:j=0:=by omega
     subst this; rfl,?_⟩⟩
    have hj0:j=0:=by omega
    subst hj0;have hlt:l.base+i < c.size:=by omega
    have e2:(putCells (Value.int .i64) l.base (srt zs).toArray c).getD (l.base+i*1+0) undef=.int .i64 ((srt zs).getD i 0):=by
     rw[Nat.mul_one,Nat.add_zero,Array.getD_eq_getD_getElem?,putCells,Array.getElem?_mapIdx,Array.getElem?_eq_getElem hlt,Option.map_some,Option.getD_some,if_pos ⟨by omega,by simp; omega⟩];simp[List.getD,hi']
    rw[e2];exact .c rfl⟩)
  have hg:=rel_grow os.toList hW.1;rw[show os.toList.toArray=os by simp]at hg;exact⟨_,_,E,_,_,fr,hK,hg.1,(hG1.trans hW.2).trans hg.2,.tup rfl (fun i hi=>by simp at hi),h3,h4,h5⟩
variable {P:Program} {G:Gl}
theorem FW.loopInv{rd:Option Nat}{n:Nat}{todo:List Item}{Q:Lv->(Nat->AV)->List AO->Prop}(I:Nat->(Nat->AV)->List AO->Prop)(left:Nat){ts:Nat->AV}{H:List AO}(h0:I left ts H)
  (hs:∀ left,(∀ m,m < left->∀ ts H,I m ts H->FW P G rd n todo ts H Q)->∀ ts H,I left ts H->FW P G rd n todo ts H Q):FW P G rd n todo ts H Q:=by
 have key:∀ k ts H,I k ts H->FW P G rd n todo ts H Q:=by
  intro k
  induction k using Nat.strongRecOn with
  | ind k ih=>exact hs k ih
 exact key _ _ _ h0
def upto{α:Type}(f:Int->List α)(k:Int):Nat->List α
 | 0=>[]
 | n+1=>f k++upto f (k+1) n
theorem upto_succ{α:Type}(f:Int->List α)(k:Int)(n:Nat):upto f k (n+1)=f k++upto f (k+1) n:=rfl
theorem upto_length{α:Type}(f:Int->List α)(L:Nat):∀(n:Nat) (k:Int),(∀ i,k<=i->i < k+n->(f i).length=L)->(upto f k n).length=n*L
 | 0,k,h=>by simp[upto]
 | n+1,k,h=>by
  rw[upto_succ,List.length_append,h k (by omega) (by omega),upto_length f L n (k+1) (fun i h1 h2=>h i (by omega) (by omega)),Nat.succ_mul]; omega
theorem zEj{α:Type}{f:Int->List α}{x:α}:∀ {n:Nat} {k:Int},x∈upto f k n->∃ i,k<=i/\i < k+n/\x∈f i
 | 0,k,h=>by simp[upto]at h
 | n+1,k,h=>by
  rw[upto_succ,List.mem_append]at h
  rcases h with h | h
  ·exact⟨k,by omega,by omega,h⟩
  ·obtain⟨i,h1,h2,h3⟩:=zEj h;exact⟨i,by omega,by omega,h3⟩
theorem len_le_of_append{α:Type}{a b c:List α}(h:a++b=c):a.length<=c.length:=by rw[<- h]; simp
theorem zEq{n by':Nat}(h:n<=2^20)(hb:by'<=2^10):apC n by':=by
 unfold apC;have:(n+1)*by'<=(2^20+1)*2^10:=Nat.mul_le_mul (by omega) hb;omega
theorem apI{H:List AO}{s:AV}{es:List Int}{v:Int}:Own (apH H s (es.map IA) (IA v)) (.sl (H.length+1) 0 ((es.map IA).length+1) ((es.map IA).length+1)) ((es++[v]).map IA):=by
 rw[List.map_append];exact apH_own
theorem ownNe{id st len cap j:Nat}(h:id≠j):zAl (.sl id st len cap)≠some j:=by
 simp only[zAl,ne_eq,Option.some.injEq]; exact h
theorem zAd{H:List AO}{j:Nat}{o:AO}(h:H[j]?=some o):j < H.length:=(List.getElem?_eq_some_iff.1 h).1
theorem Own.sort{f:FuncId}(hf:zDo P f)(hS:SortsInts P f){H:List AO}{s:AV}{zs:List Int}(h:Own H s (zs.map IA))(h0:0 < zs.length)(hsz:zs.length<=2^20){K:AV->List AO->Prop}
  (hK:∀ H',Own H' s ((srt zs).map IA)->(∀ j,zAl s≠some j->H'[j]?=H[j]?)->K (.tup []) H'):AC P G f [s] H K:=by
 generalize hes:zs.map IA=es at h
 cases h with
 | nil=>cases zs <;> simp_all
 | row hid hl =>
  rename_i id;subst hes;refine AC.sortInts hf hS hid (by simp) (by simpa using hl) (Nat.le_refl _) (by simp; omega) (hK _ ?_ ?_)
  ·have h1:=zAd hid;have h2:(H.set id (.arr 1 ((srt zs).map IA)))[id]?=some (.arr 1 ((srt zs).map IA)):=by rw[zS h1]
   have:=Own.row h2 (by simp[zCm]; omega);simpa[zCm]using this
  ·intro j hj
   exact zQ (fun e=>hj (by simp[zAl,e]))
end Go.Ab
