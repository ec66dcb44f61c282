/- A text of this claim. -/
import Derived.Test.YtplmblgihfogjaaGreatDoorEv39
import Derived.Shelf.Spec.SlicesInsertGrow
set_option maxHeartbeats 40000000
set_option maxRecDepth 400000
set_option linter.all false
namespace Go.Ab.Pd
open Go.Proofs Go.Shelf Go.RowKit Go.Lib
theorem ntmpsI:(Tryz.f209).ntmps=95:=rfl
theorem ins_shift(b off n c i vc:Nat)(va:Addr)(w w1 w2:World)(hi:i < n)(hroom:n+1<=c)(hn:n<=1048576)
  (hov:∀ lb cb,(callFunc 253 #[.slice (some va) 1 vc,.slice (some ⟨b,off+(i+1)*3,none⟩) lb cb]).run Tryz.prog w=.ok (.value (.bool false)) w)
  (hcp1:∀ ty dc sc,(Builtin.copy_ #[218,218] ty #[.slice (some ⟨b,off+(i+1)*3,none⟩) (n - i) dc,.slice (some ⟨b,off+i*3,none⟩) (n+1 - i) sc]).run Tryz.prog w.drew=.ok (goInt (n - i:Nat)) w1)
  (hcp2:∀ ty dc,(Builtin.copy_ #[218,218] ty #[.slice (some ⟨b,off+i*3,none⟩) (n+1 - i) dc,.slice (some va) 1 vc]).run Tryz.prog w1=.ok (goInt 1) w2) :
  Calls Tryz.prog 209 #[.slice (some ⟨b,off,none⟩) n c,.int .i64 i,.slice (some va) 1 vc] w fun e w' =>
   e=.returned (.slice (some ⟨b,off,none⟩) (n+1) c)/\w'=w2:=by
 have mixed:Tryz.prog.follows Departure.mixedOrders=true:=by kernel_rfl
 have hz2:¬ ((i:Int)=(n:Int)):=by omega
 have hw1:IntKind.i64.wrap ((i:Int)+1)=(i:Int)+1:=by rw[IntKind.wrap_i64]; omega
 have hw2:IntKind.i64.wrap ((n:Int)+1)=(n:Int)+1:=by rw[IntKind.wrap_i64]; omega
 have hb1:(0:Int)<=(i:Int)+1:=by omega
 have hin:i<=n:=by omega
 have htn:((i:Int)+1).toNat=i+1:=by omega
 have hb2:¬ (c=i+1):=by omega
 have hb3:(i:Int)<=(n:Int)+1:=by omega
 have hb4:¬ (c=i):=by omega
 have u1:=run_underlying (P:=Tryz.prog) un218
 go_enter Tryz.func209,ntmpsI
 go_wp2_with (simp only[hov])
 go_region_law_o (refine step_copy_runI rfl _ _ 218 218 rfl _ _ (by simp[Act.eval,Act.put]) (by simp[Act.eval,Act.put]) (hcp1 _ _ _) ?_)
 go_wp2_with (at_builtin; refine wpList_copy_runI _ rfl _ _ 218 218 rfl _ _ rfl rfl (hcp2 _ _) ?_)
 go_ret
 exact⟨rfl,rfl⟩
theorem ins_grow(b off n c i vc nb G:Nat)(va:Addr)(w w1 w2 w3:World)(hi:i < n)(hnc:n<=c)(hroom:c < n+1)(hn:n<=1048576)(hG:n+1<=G)
  (hrz:∀ ty,(Builtin.append_ #[218,3] ty #[.slice (some ⟨b,off,none⟩) i c,.int .i64 ((n:Int)+1 - (i:Int))]).run Tryz.prog w=.ok (.slice (some ⟨nb,0,none⟩) (n+1) G) w1)
  (hcpA:∀ ty dc,(Builtin.copy_ #[218,218] ty #[.slice (some ⟨nb,i*3,none⟩) (n+1 - i) dc,.slice (some va) 1 vc]).run Tryz.prog w1=.ok (goInt 1) w2)
  (hcpB:∀ ty dc sc,(Builtin.copy_ #[218,218] ty #[.slice (some ⟨nb,(i+1)*3,none⟩) (n - i) dc,.slice (some ⟨b,off+i*3,none⟩) (n - i) sc]).run Tryz.prog w2.drew=.ok (goInt (n - i:Nat)) w3) :
  Calls Tryz.prog 209 #[.slice (some ⟨b,off,none⟩) n c,.int .i64 i,.slice (some va) 1 vc] w fun e w' =>
   e=.returned (.slice (some ⟨nb,0,none⟩) (n+1) G)/\w'=w3:=by
 have mixed:Tryz.prog.follows Departure.mixedOrders=true:=by kernel_rfl
 have hz2:¬ ((i:Int)=(n:Int)):=by omega
 have hz3:(c:Int) < (n:Int)+1:=by omega
 have hw1:IntKind.i64.wrap ((i:Int)+1)=(i:Int)+1:=by rw[IntKind.wrap_i64]; omega
 have hw2:IntKind.i64.wrap ((n:Int)+1)=(n:Int)+1:=by rw[IntKind.wrap_i64]; omega
 have hb1:(0:Int)<=(i:Int)+1:=by omega
 have hin:i<=n:=by omega
 have htn:((i:Int)+1).toNat=i+1:=by omega
 have hb3:(i:Int)<=(n:Int):=by omega
 have hGi:¬ (G=i):=by omega
 have hGim:¬ (G=i+1):=by omega
 have hci:¬ (c=i):=by omega
 have u1:=run_underlying (P:=Tryz.prog) un218
 go_enter Tryz.func209,ntmpsI
 go_wp2_with (first
  | (at_builtin; refine Lib.wpList_append_run _ rfl _ _ _ _ rfl _ _ rfl rfl _ _ (hrz _) ?_)
  | (at_builtin; refine wpList_copy_runI _ rfl _ _ 218 218 rfl _ _ rfl rfl (hcpA _ _) ?_)
  | (at_builtin; refine wpList_copy_runI _ rfl _ _ 218 218 rfl _ _ rfl rfl (hcpB _ _ _) ?_))
 go_region_law_o (refine step_copy_runI rfl _ _ 218 218 rfl (.slice (some ⟨nb,(i+1)*3,none⟩) (n - i) (G - (i+1))) (.slice (some ⟨b,off+i*3,none⟩) (n - i) (c - i)) (by simp[Act.eval,Act.put]) (by simp[Act.eval,Act.put]) (hcpB _ (G - (i+1)) (c - i)) ?_)
 go_wp2
 go_ret
 exact⟨rfl,rfl⟩
open Go.Proofs
def Slt.av(s:Slt):AV:=.agg [I s.fr,I s.till,I s.own]
theorem Slt.cells(s:Slt):s.av.cells=[I s.fr,I s.till,I s.own]:=rfl
def calA(l:List Slt):AV:=if l=[] then .c (.slice none 0 0) else .isl (l.map Slt.av)
theorem zDy(l:List Slt):IsSl (calA l) (l.map Slt.av):=by
 unfold calA
 split
 ·rename_i h;exact .inr ⟨by rw[h]; rfl,rfl⟩
 ·exact .inl rfl
theorem calA_pur(l:List Slt):(calA l).pur=true:=(zDy l).pur (zAi Slt.av _ (fun _=>rfl))
def spC(f t:Int):Int:=if (decide (f < 0)||(decide (1099511627776 < t)||decide (t<=f)))=true then 2 else 0
theorem e154:Ent Tryz.prog 154 Tryz.f154 [] 1:=.mk Tryz.func154 rfl
theorem spchk_pur(f t:Int):Pur Tryz.prog GG 154 [.agg [I f,I t]] (I (spC f t)):=by
 unfold spC;cases h1:decide (f < 0) <;> cases h2:decide (1099511627776 < t) <;> cases h3:decide (t<=f)
 all_goals
  refine goQ e154 TOk.nil 0 ?_;simp only[push_cast,seval,↓kw2,h1,h2,h3];exact⟨_,rfl,zAa rfl rfl⟩
theorem spC_0{f t:Int}:spC f t=0 ↔ 0<=f/\f < t/\t<=1099511627776:=by
 unfold spC
 split
 ·rename_i h;simp only[Bool.or_eq_true,decide_eq_true_eq]at h;omega
 ·rename_i h;simp only[Bool.or_eq_true,decide_eq_true_eq]at h;omega
theorem e207:Ent Tryz.prog 207 Tryz.f207 [] 1:=.mk Tryz.func207 rfl
theorem cmay_pur(s:Slt):Pur Tryz.prog GG 207 [s.av] (B (decide s.may)):=by
 have ht:=spchk_pur s.fr s.till;show Pur Tryz.prog GG 207 [.agg [I s.fr,I s.till,I s.own]] _;have e:decide s.may=(decide (spC s.fr s.till=0)&&(decide (1<=s.own)&&decide (s.own<=1099511627776))):=by
  rw[Bool.eq_iff_iff,decide_eq_true_iff];simp only[decide_eq_true_eq,Bool.and_eq_true,spC_0];unfold Slt.may
  constructor
  ·rintro⟨a,b,c,d,e⟩
   exact⟨⟨a,b,c⟩,d,e⟩
  ·rintro⟨⟨a,b,c⟩,d,e⟩
   exact⟨a,b,c,d,e⟩
 rw[e];cases h1:decide (spC s.fr s.till=0) <;> cases h2:decide (1<=s.own) <;> cases h3:decide (s.own<=1099511627776)
 all_goals
  refine goQ e207 TOk.nil 0 ?_;simp only[push_cast,seval,↓kw2];refine AC.pur ht ?_;refine goN ?_;simp only[push_cast,seval,↓kw2,h1,h2,h3];exact⟨_,rfl,zAa rfl rfl⟩
theorem e205:Ent Tryz.prog 205 Tryz.f205 [] 1:=.mk Tryz.func205 rfl
theorem cchk_pur{l:List Slt}(hc:calO 0 l)(hl:l.length<=4096):Pur Tryz.prog GG 205 [calA l] (I 0):=by
 have hs:=zDy l;have hp:=calA_pur l;obtain⟨k1,k2,k3⟩:=hs.cell;have hlen:=hs.len un218;rw[List.length_map]at hlen;have hidx:=fun(i:Nat) (hi:i < l.length) (H:List AO)=>hs.idx (P:=Tryz.prog) un218 sz217 (i:=(i:Int)) (by rw[List.length_map]; omega) (by omega) H
 have hd:decide (4096 < (l.length:Int))=false:=decide_eq_false (by omega)
 generalize calA l=S at *
 refine goQ e205 TOk.nil 0 ?_ (by simp[AV.purL,AV.pur,hp]);simp only[push_cast,seval,↓kw2,k1,k2,k3,hlen,hd];refine FW.loopInv (fun m ts H=>∃(i:Nat) (b:Int),i+m=l.length/\calO b (l.drop i)/\ts 3=I b/\ts 9=S/\ts 10=I (l.length:Int)/\ts 11=I (i:Int)) l.length
  ⟨0,0,by omega,hc,rfl,rfl,rfl,rfl⟩ ?_
 rintro m ih ts H ⟨i,b,hi,hb,t3,t9,t10,t11⟩
 refine FW.inLoop ?_
 by_cases hlt:i < l.length
 ·have hd1:decide ((i:Int) < (l.length:Int))=true:=by simp[hlt]
  have hx:=hidx i hlt;have hgy:=zAj Slt.av l default hlt;simp only[Int.toNat_natCast]at hx;rw[hgy]at hx;rw[zBa default hlt]at hb
  generalize l.getD i default=x at hx hb
  obtain⟨h1,h2,h3⟩:=hb;have hcx:=Slt.cells x;have hm:=cmay_pur x;rw[decide_eq_true h1]at hm;have hdl:decide (x.fr < b)=false:=decide_eq_false (by omega);have hbb:(0<=(i:Int)/\(i:Int) < ((l.map Slt.av).length:Int)):=⟨by omega,by rw[List.length_map]; omega⟩;have hi1:=zAl (n:=(i:Int)+1) (by omega) (by omega);refine goN ?_;simp only[push_cast,seval,↓kw2,t3,t9,t10,t11,hd1,hx,hcx,zAd,getA,zAe,setA,zAb];refine⟨hbb,AC.pur hm ?_⟩;refine goN ?_;simp only[push_cast,seval,↓kw2,t3,t9,t10,t11,zAd,getA,zAe,setA,zAb,hdl,hi1];exact ih (m - 1) (by omega) _ _ ⟨i+1,x.till,by omega,h3,rfl,t9,t10,rfl⟩
 ·have hd1:decide ((i:Int) < (l.length:Int))=false:=by simp; omega
  refine goN ?_;simp only[push_cast,seval,↓kw2,t3,t9,t10,t11,hd1];exact⟨_,rfl,zAa rfl rfl⟩
theorem e256:Ent Tryz.prog 256 Tryz.f256 [] 2:=.mk Tryz.func256 rfl
theorem after1_pur(s:Slt)(a:Int):Pur Tryz.prog GG 256 [s.av,I a] (I (if s.till<=a then -1 else 1)):=by
 show Pur Tryz.prog GG 256 [.agg [I s.fr,I s.till,I s.own],I a] _
 by_cases h:s.till<=a
 ·rw[if_pos h];refine goQ e256 TOk.nil 0 ?_;simp only[push_cast,seval,↓kw2,decide_eq_true h];exact⟨_,rfl,zAa rfl rfl⟩
 ·rw[if_neg h];refine goQ e256 TOk.nil 0 ?_;simp only[push_cast,seval,↓kw2,decide_eq_false h];exact⟨_,rfl,zAa rfl rfl⟩
end Go.Ab.Pd
namespace Go
theorem run_copy_k{P:Program}(w:World)(dT sT ty elem:TypeId)(b o dLen dCap:Nat)(a:Addr)(sLen sCap k:Nat)(cs:List Value)
  (hu:P.underlying dT=some (.slice elem)) (hs:(P.info? elem).map (·.size)=some k) (hn:cs.length=Nat.min sLen dLen*k)
  (hsrc:∀ j v,cs[j]?=some v->w.cell? (a.add j)=some v) (hc:∀ j,j < cs.length->(w.cell? ⟨b,o+j,none⟩).isSome=true) (hf:∀ j,j < cs.length->w.frozen? ⟨b,o+j,none⟩=false) (h1:∀ v∈cs,v.oneCell'=true) :
  (Builtin.copy_ #[dT,sT] ty #[.slice (some ⟨b,o,none⟩) dLen dCap,.slice (some a) sLen sCap]).run P w=.ok (goInt (Nat.min sLen dLen)) (w.setCells b o cs):=by
 have hl:=run_firstCells_some (P:=P) w k (Nat.min sLen dLen) a sLen sCap cs hn hsrc;have hst:=run_storeCells_cells (P:=P) b o cs 0 w (by simpa using hc) (by simpa using hf) h1;cases hq:P.info? elem with
 | none=>simp[hq]at hs
 | some i =>
  have hi:i.size=k:=by simpa[hq]using hs
  simp only[Nat.add_zero]at hst;simp[Builtin.copy_,run_underlying hu,Builtin.lenOf,sizeOf,typeInfo,hq,hi,hl,hst]
end Go
namespace Go.Ab.Pd
open Go.Proofs Go.Lib
def zBb:List Slt->List Value
 | []=>[]
 | s::l=>.int .i64 s.fr::.int .i64 s.till::.int .i64 s.own::zBb l
theorem vals_len:∀ l:List Slt,(zBb l).length=l.length*3
 | []=>rfl
 | s::l=>by simp only[zBb,List.length_cons,vals_len l]; omega
theorem vals_app:∀ l m:List Slt,zBb (l++m)=zBb l++zBb m
 | [],m=>rfl
 | s::l,m=>by simp only[List.cons_append,zBb,vals_app l m]
theorem vals_take:∀(l:List Slt) (i:Nat),(zBb l).take (i*3)=zBb (l.take i)
 | [],i=>by simp[zBb]
 | s::l,0=>by simp[zBb]
 | s::l,i+1=>by
  rw[show(i+1)*3=i*3+1+1+1 by omega];simp only[zBb,List.take_succ_cons,vals_take l i]
theorem vals_drop:∀(l:List Slt) (i:Nat),(zBb l).drop (i*3)=zBb (l.drop i)
 | [],i=>by simp[zBb]
 | s::l,0=>by simp[zBb]
 | s::l,i+1=>by
  rw[show(i+1)*3=i*3+1+1+1 by omega];simp only[zBb,List.drop_succ_cons,vals_drop l i]
theorem vals_get:∀(l:List Slt) (q j:Nat),q < l.length->j < 3->((l.getD q default).av.cells).getD j .un=.c ((zBb l).getD (q*3+j) undef)
 | s::l,0,j,_,hj=>by
  have:j=0\/j=1\/j=2:=by omega
  rcases this with rfl | rfl | rfl <;> rfl
 | s::l,q+1,j,hq,hj=>by
  rw[show(q+1)*3+j=(q*3+j)+1+1+1 by omega];have:=vals_get l q j (by simpa using hq) hj;simpa[zBb]using this
theorem vals_one:∀(l:List Slt),∀ v∈zBb l,v.oneCell'=true
 | s::l,v,hv=>by
  simp only[zBb,List.mem_cons]at hv
  rcases hv with rfl | rfl | rfl | hv
  ·rfl
  ·rfl
  ·rfl
  ·exact vals_one l v hv
theorem row_is{w:World}{E:En}{l:List Slt}{lo:Loc}:RelO w E (.arr 3 (l.map Slt.av)) lo ↔ lo.sz=3/\∃ c t,w.heap[lo.b]?=some (.cells c t (0,0))/\lo.base+l.length*3<=c.size/\∀ p,p < l.length*3->c.getD (lo.base+p) undef=(zBb l).getD p undef:=by
 have hg:∀ q,q < l.length->(l.map Slt.av).getD q .un=(l.getD q default).av:=fun q hq=>by simp[List.getD,hq]
 constructor
 ·rintro⟨h0,c,t,h1,h2,h3⟩
  rw[List.length_map]at h2 h3;refine⟨h0,c,t,h1,h2,fun p hp=>?_⟩;have hq:p / 3 < l.length:=by omega
  have h4:=(h3 (p / 3) hq).2.2 (p % 3) (by omega);rw[hg _ hq,vals_get l _ _ hq (by omega)]at h4;have h5:=h4.2.c_inv;rw[show lo.base+p / 3*3+p % 3=lo.base+p by omega,show p / 3*3+p % 3=p by omega]at h5;exact h5
 ·rintro⟨h0,c,t,h1,h2,h3⟩
  refine⟨h0,c,t,h1,by rw[List.length_map]; exact h2,fun q hq=>?_⟩;rw[List.length_map]at hq;rw[hg _ hq];refine⟨rfl,rfl,fun j hj=>?_⟩;rw[vals_get l _ _ hq hj,show lo.base+q*3+j=lo.base+(q*3+j) by omega,h3 _ (by omega)];refine⟨rfl,.c ?_⟩;have:(zBb l).getD (q*3+j) undef∈zBb l:=by
   have hlt:q*3+j < (zBb l).length:=by rw[vals_len]; omega
   simp[List.getD,hlt]
  have hint:∀(l:List Slt),∀ v∈zBb l,plain v=true:=by
   intro l
   induction l with
   | nil=>intro v hv; cases hv
   | cons s l ih =>
    intro v hv
    simp only[zBb,List.mem_cons]at hv
    rcases hv with rfl | rfl | rfl | hv
    ·rfl
    ·rfl
    ·rfl
    ·exact ih v hv
  exact hint l _ this
theorem setCells_ab{b o:Nat}{t:TypeId}{vs:List Value}{w:World}{c:Array Value}(hb:w.heap[b]?=some (.cells c t (0,0)))(hs:o+vs.length<=c.size)(h1:∀ v∈vs,v.oneCell'=true) :
  ∃ c',(w.setCells b o vs).heap[b]?=some (.cells c' t (0,0))/\c'.size=c.size/\(w.setCells b o vs).heap.size=w.heap.size/\(∀ b',b'≠b->(w.setCells b o vs).heap[b']?=w.heap[b']?) /\
   (w.setCells b o vs).os=w.os/\(w.setCells b o vs).tape=w.tape/\OutOk w (w.setCells b o vs)/\∀ p,c'.getD p undef=if o<=p/\p < o+vs.length then vs.getD (p - o) undef else c.getD p undef:=by
 obtain⟨w',c',g2,g3,g4,g5,g6,g7,g8,g9,g10⟩:=zBy (P:=Tryz.prog) b t vs o 0 w c hb (by omega) h1;have hst:=run_storeCells_cells (P:=Tryz.prog) b o vs 0 w (fun j hj=>by
   rw[cell?_row' hb (by omega)]; rfl) (fun j hj=>by simp[World.frozen?,hb]) h1
 rw[g2]at hst;simp only[Nat.add_zero]at hst g10;have e:w'=w.setCells b o vs:=by injection hst
 subst e;exact⟨c',g3,g4,g5,g6,g7,g8,g9,g10⟩
def insAt(l:List Slt)(i:Nat)(x:Slt):List Slt:=l.take i++x::l.drop i
theorem insAt_len{l:List Slt}{i:Nat}{x:Slt}(hi:i<=l.length):(insAt l i x).length=l.length+1:=by
 unfold insAt;simp;omega
theorem insAt_get{l:List Slt}{i:Nat}{x:Slt}(hi:i<=l.length)(p:Nat):(zBb (insAt l i x)).getD p undef=if p < i*3 then (zBb l).getD p undef else if p < i*3+3 then (zBb [x]).getD (p - i*3) undef else (zBb l).getD (p - 3) undef:=by
 unfold insAt;rw[show x::l.drop i=[x]++l.drop i from rfl,vals_app,vals_app,<- vals_take,<- vals_drop];have h1:((zBb l).take (i*3)).length=i*3:=by rw[List.length_take,vals_len]; omega
 have h2:(zBb [x]).length=3:=rfl;simp only[List.getD]
 split
 ·rename_i h;rw[List.getElem?_append_left (by omega),List.getElem?_take,if_pos h]
 ·rename_i h;rw[List.getElem?_append_right (by omega),h1]
  split
  ·rename_i h3;rw[List.getElem?_append_left (by omega)]
  ·rename_i h3;rw[List.getElem?_append_right (by omega),h2,List.getElem?_drop]
   congr 2
   omega
theorem args3{w:World}{E:En}{a b c:AV}{vargs:Array Value}(h:RepL w E [a,b,c] vargs):∃ x y z,vargs=#[x,y,z]/\RepV w E a x/\RepV w E b y/\RepV w E c z:=by
 obtain⟨hn,hA⟩:=h;have h1:vargs.size=3:=hn;refine⟨vargs.getD 0 undef,vargs.getD 1 undef,vargs.getD 2 undef,?_,hA 0 (by simp),hA 1 (by simp),hA 2 (by simp)⟩;apply Array.ext
 ·simpa using h1
 ·intro i h2 h3
  have:i=0\/i=1\/i=2:=by simp at h3; omega
  rcases this with rfl | rfl | rfl <;> simp[Array.getD,h1]
theorem callableI:zDv Tryz.prog 209:=⟨_,Tryz.func209,rfl,by decide⟩
theorem cell_row{w:World}{b:Nat}{c:Array Value}{t:TypeId}(h:w.heap[b]?=some (.cells c t (0,0))){off:Nat}{cs:List Value}{m:Nat}(hle:off+m<=c.size)(hcs:cs.length<=m)(hv:∀ p,p < m->c.getD (off+p) undef=cs.getD p undef):∀ j v,cs[j]?=some v->w.cell? ⟨b,off+j,none⟩=some v:=fun j v hj=>by
 have hlt:j < cs.length:=(List.getElem?_eq_some_iff.1 hj).1;rw[cell?_row' h (by omega),hv j (by omega)];simp[List.getD,hj]
theorem drew_row{w:World}(b:Nat):w.drew.heap[b]?=w.heap[b]?:=rfl
theorem insert_mid{l:List Slt}(x:Slt){i n:Nat}(hi:i < n)(hnl:l.length=n)(hl:n<=4096){id vid:Nat}(hne:vid≠id){H:List AO}(h0:H[id]?=some (.arr 3 (l.map Slt.av)))(h1:H[vid]?=some (.arr 3 ([x].map Slt.av))){K:AV->List AO->Prop}
  (hK:∀ id' H',H'[id']?=some (.arr 3 ((insAt l i x).map Slt.av))->K (.sl id' 0 (n+1) (n+1)) H'):AC Tryz.prog GG 209 [.sl id 0 n n,I i,.sl vid 0 1 1] H K:=by
 refine⟨callableI,fun E w vargs hH hA cs=>?_⟩;obtain⟨a,b,c,rfl,ra,rb,rc⟩:=args3 hA;have eb:=rb.c_inv;subst eb;obtain⟨lo,hlo,hr⟩:=hH.obj id _ h0 rfl;obtain⟨lv,hlv,hrv⟩:=hH.obj vid _ h1 rfl;have hlb:lv.b≠lo.b:=fun e=>hne (hH.inj vid id _ _ lv lo h1 rfl h0 rfl hlv hlo e)
 obtain⟨hsz,c0,t0,hc0,hb0,hv0⟩:=row_is.1 hr;obtain⟨hszv,cv,tv,hcv,hbv,hvv⟩:=row_is.1 hrv;cases ra with | sl hloc g1 g2 g3 =>
 rename_i l1 ad cc;rw[hlo]at hloc; cases hloc;obtain⟨rfl,mrow,hrow,hle⟩:=g3 (by omega);cases rc with | sl hloc q1 q2 q3 =>
 rename_i l2 ad2 cc2;rw[hlv]at hloc; cases hloc;obtain⟨rfl,mrow2,hrow2,hle2⟩:=q3 (by omega);have hrs:mrow=c0.size:=by
  unfold zAu at hrow;rw[hc0]at hrow;simpa using hrow.symm
 rw[hsz]at hle ⊢;rw[hszv]at hle2 ⊢;simp only[Nat.zero_mul,Nat.add_zero,Nat.zero_add,List.length_singleton]at hle hbv hle2 ⊢;rw[hnl]at hb0 hv0;have hlb':lo.b < w.heap.size:=zBg hc0;have hlvb:lv.b < w.heap.size:=zBg hcv;have hcl:(zBb l).length=n*3:=by rw[vals_len,hnl]
 have hcs:=cell_row hc0 (off:=lo.base) (cs:=zBb l) (m:=n*3) (by omega) (by omega) hv0;have hvs:=cell_row hcv (off:=lv.base) (cs:=zBb [x]) (m:=3) (by omega) (by rw[vals_len]; exact Nat.le_refl _) (fun p hp=>hvv p (by simpa using hp));have hxl:(zBb [x]).length=3:=rfl;have hdl:((zBb l).drop (i*3)).length=(n - i)*3:=by rw[List.length_drop,hcl,Nat.sub_mul]
 have h1c:=vals_one l;have h1v:=vals_one [x]
 by_cases hroom:n+1<=cc
 ·
  have hs0:lo.base+(n+1)*3<=c0.size:=by
   have:(n+1)*3<=cc*3:=Nat.mul_le_mul_right _ hroom;omega
  obtain⟨c1,a1,a2,a3,a4,a5,a6,a7,a8⟩:=setCells_ab (w:=w.drew) (b:=lo.b) (o:=lo.base+(i+1)*3) (vs:=(zBb l).drop (i*3)) (c:=c0) (t:=t0) hc0 (by rw[hdl]; omega) (fun v hv=>h1c v (List.mem_of_mem_drop hv));obtain⟨c2,b1,b2,b3,b4,b5,b6,b7,b8⟩:=setCells_ab (w:=w.drew.setCells lo.b (lo.base+(i+1)*3) ((zBb l).drop (i*3))) (b:=lo.b) (o:=lo.base+i*3) (vs:=zBb [x]) (c:=c1) (t:=t0) a1 (by rw[hxl]; omega) h1v;have hmin:Nat.min (n+1 - i) (n - i)=n - i:=Nat.min_eq_right (by omega);have hmin2:Nat.min 1 (n+1 - i)=1:=Nat.min_eq_left (by omega);have hinfo:(Tryz.prog.info? 217).map (·.size)=some 3:=by kernel_rfl
  have hcv1:(w.drew.setCells lo.b (lo.base+(i+1)*3) ((zBb l).drop (i*3))).heap[lv.b]?=some (.cells cv tv (0,0)):=(a4 _ hlb).trans hcv;have hvs1:=cell_row hcv1 (off:=lv.base) (cs:=zBb [x]) (m:=3) (by omega) (by rw[vals_len]; exact Nat.le_refl _) (fun p hp=>hvv p (by simpa using hp));have hcp1:∀ ty dc sc,(Builtin.copy_ #[218,218] ty #[.slice (some ⟨lo.b,lo.base+(i+1)*3,none⟩) (n - i) dc,.slice (some ⟨lo.b,lo.base+i*3,none⟩) (n+1 - i) sc]).run Tryz.prog w.drew=.ok (goInt (n - i:Nat)) (w.drew.setCells lo.b (lo.base+(i+1)*3) ((zBb l).drop (i*3))):=fun ty dc sc=>by
   have:=run_copy_k (P:=Tryz.prog) w.drew 218 218 ty 217 lo.b (lo.base+(i+1)*3) (n - i) dc ⟨lo.b,lo.base+i*3,none⟩ (n+1 - i) sc 3 ((zBb l).drop (i*3)) un218 hinfo (by rw[hmin,hdl])
    (fun j v hj=>by
     rw[Addr.add_lit,Nat.add_assoc];exact hcs (i*3+j) v (by rwa [List.getElem?_drop]at hj))
    (fun j hj=>by rw[cell?_row' (w:=w.drew) hc0 (by omega)]; rfl) (fun j hj=>by simp[World.frozen?,drew_row,hc0]) (fun v hv=>h1c v (List.mem_of_mem_drop hv))
   rw[hmin]at this;exact this
  have hcp2:∀ ty dc,(Builtin.copy_ #[218,218] ty #[.slice (some ⟨lo.b,lo.base+i*3,none⟩) (n+1 - i) dc,.slice (some ⟨lv.b,lv.base,none⟩) 1 cc2]).run Tryz.prog (w.drew.setCells lo.b (lo.base+(i+1)*3) ((zBb l).drop (i*3)))=.ok (goInt 1) ((w.drew.setCells lo.b (lo.base+(i+1)*3) ((zBb l).drop (i*3))).setCells lo.b (lo.base+i*3) (zBb [x])):=fun ty dc=>by
   have:=run_copy_k (P:=Tryz.prog) (w.drew.setCells lo.b (lo.base+(i+1)*3) ((zBb l).drop (i*3))) 218 218 ty 217 lo.b (lo.base+i*3) (n+1 - i) dc ⟨lv.b,lv.base,none⟩ 1 cc2 3 (zBb [x]) un218 hinfo (by rw[hmin2]; rfl)
    (fun j v hj=>by
     rw[Addr.add_lit];exact hvs1 j v hj)
    (fun j hj=>by rw[cell?_row' a1 (by omega)]; rfl) (fun j hj=>by simp[World.frozen?,a1]) h1v
   rw[hmin2]at this;exact this
  have hov:∀ lb cb,(callFunc 253 #[.slice (some ⟨lv.b,lv.base,none⟩) 1 cc2,.slice (some ⟨lo.b,lo.base+(i+1)*3,none⟩) lb cb]).run Tryz.prog w=.ok (.value (.bool false)) w:=fun lb cb=>by
   rw[run_callFunc_extern Tryz.func253 (by kernel_rfl) (by kernel_rfl) (by kernel_rfl) (e:=Extern.SlicesOverlaps.overlaps #[218,218] #[4]) (by kernel_rfl),
    Lib.run_overlaps_apart w 218 4 217 un218 3 (fun w=>zBd sz217 w) ⟨lv.b,lv.base,none⟩ ⟨lo.b,lo.base+(i+1)*3,none⟩ 1 cc2 lb cb hlb tv t0 cv.size c0.size (by simp[World.shape?,hcv]) (by simp[World.shape?,hc0]) (by omega) (by simp[World.frozen?,hcv]) (by simp[World.frozen?,hcv])]
   rfl
  obtain⟨e,w',fr,⟨rfl,rfl⟩,s3,s4,s5⟩:=ins_shift lo.b lo.base n cc i cc2 ⟨lv.b,lv.base,none⟩ w _ _ hi hroom (by omega) hov hcp1 hcp2 cs;have hdr:=zFk (w':=w.drew) hH rfl;have gdr:Grow H E w H E w.drew:=⟨hdr.2,Nat.le_refl _,fun _ _ _=>rfl,fun _ h=>.inl h,fun _ h=>.inl h,rfl,rfl,⟨rfl,by first | exact Nat.le_refl _ | exact Nat.le_add_right _ _⟩⟩;have hw:=zBw hdr.1 (w':=(w.drew.setCells lo.b (lo.base+(i+1)*3) ((zBb l).drop (i*3))).setCells lo.b (lo.base+i*3) (zBb [x])) h0 rfl hlo (.arr 3 ((insAt l i x).map Slt.av)) (by rw[b3,a3]) (fun b' hb'=>by rw[b4 _ hb',a4 _ hb'])
   (fun m hm=>by
    unfold zAu at *;rw[b1];rw[drew_row,hc0]at hm;simp only[b2,a2]at *;exact hm) (by rw[b5,a5]) (by rw[b6,a6]) (a7.trans b7)
   (fun hm=>row_is.2 ⟨hsz,c2,t0,b1,by rw[insAt_len (by omega),hnl,b2,a2]; omega,fun p hp=>by
    rw[insAt_len (by omega),hnl]at hp;rw[insAt_get (by omega),b8,hxl]
    by_cases p1:p < i*3
    ·rw[if_pos p1,if_neg (by omega),a8,if_neg (by omega)];exact hv0 p (by omega)
    ·rw[if_neg p1]
     by_cases p2:p < i*3+3
     ·rw[if_pos p2,if_pos (by omega)]
      congr 1
      omega
     ·rw[if_neg p2,if_neg (by omega),a8,if_pos (by rw[hdl,Nat.sub_mul]; omega)];simp only[List.getD,List.getElem?_drop]
      congr 2
      omega⟩)
  exact⟨_,_,E,_,_,fr,hK id _ (List.getElem?_set_self (zAc h0)),hw.1,gdr.trans hw.2,.sl hlo (Nat.le_refl _) hroom (fun _=>⟨by simp[hsz],c2.size,by unfold zAu; rw[b1],by rw[hsz,b2,a2]; omega⟩),s3,s4,s5⟩
 ·
  have hcn:cc < n+1:=by omega
  obtain⟨inf,zv,hinf,hiz,hib,his,hpos,hzs⟩:=info_of_zeroEl (P:=Tryz.prog) ze217 by217;have his3:inf.size=3:=his;have hzs3:zv.cells.size=3:=hzs;have hinfo:(Tryz.prog.info? 217).map (·.size)=some 3:=by rw[hinf]; simp[his3]
  have holdl:((zBb l).take (i*3)).length=i*3:=by rw[List.length_take,hcl]; omega
  have hik:i+(n+1 - i)=n+1:=by omega
  have hold:(Builtin.firstCells inf.size i (.slice (some ⟨lo.b,lo.base,none⟩) i cc)).run Tryz.prog w.drew=.ok ((zBb l).take (i*3)).toArray w.drew :=
   run_firstCells_some w.drew inf.size i ⟨lo.b,lo.base,none⟩ i cc _ (by rw[his3,holdl]) (fun j v hj=>by
    rw[Addr.add_lit];rw[List.getElem?_take]at hj
    split at hj
    ·exact hcs j v hj
    ·cases hj)
  have hfit:Builtin.nextslicecap (n+1) cc*inf.bytes<=281474976710656:=growslice_fits hcn (by rw[hib]; omega);have hrz0:=fun ty=>Lib.run_append_grow_zeros (P:=Tryz.prog) w 218 3 ty 217 inf zv .i64 .i64 un218 un3 hinf hiz (some ⟨lo.b,lo.base,none⟩) i cc _ hold (n+1 - i) (by omega) (by omega) (by omega) (by omega) (by rw[hib]; omega) (by rw[hik]; exact hfit)
  rw[hik]at hrz0;have hge:=grownCap_ge w (n+1) cc 217
  generalize grownCap w (n+1) cc 217=G at hrz0 hge
  obtain⟨ROW,hROW⟩:∃ ROW:Array Value,ROW=((zBb l).take (i*3)).toArray++Builtin.zeroCells zv.cells (n+1 - i)++Builtin.zeroCells zv.cells (G - (n+1)):=⟨_,rfl⟩;rw[<- hROW]at hrz0;have hRs:ROW.size=G*3:=by
   rw[hROW];simp only[Array.size_append,List.size_toArray,size_zeroCells,holdl,hzs3,<- Nat.add_mul]
   congr 1
   omega
  have hRg:∀ p,p < i*3->ROW.getD p undef=(zBb l).getD p undef:=fun p hp=>by
   rw[hROW,Array.getD_eq_getD_getElem?,Array.append_assoc,Array.getElem?_append_left (by rw[List.size_toArray,holdl]; exact hp)];simp[List.getD,List.getElem?_take,hp]
  have hdr:=zFk (w':=w.drew) hH rfl;have gdr:Grow H E w H E w.drew:=⟨hdr.2,Nat.le_refl _,fun _ _ _=>rfl,fun _ h=>.inl h,fun _ h=>.inl h,rfl,rfl,⟨rfl,by first | exact Nat.le_refl _ | exact Nat.le_add_right _ _⟩⟩;have hal:=zFq hdr.1 (.cells ROW 217) (.arr 3 []) ⟨w.drew.heap.size,0,3⟩ rfl (fun E' hm _=>⟨rfl,ROW,217,getElem?_alloc_new w.drew _,by simp,fun i hi=>by simp at hi⟩);have hnew:=getElem?_alloc_new w.drew (Obj.cells ROW 217);have hol:∀ b',b' < w.heap.size->(w.drew.alloc (.cells ROW 217)).heap[b']?=w.heap[b']?:=fun b' hb'=>heap_alloc_old w.drew _ hb'
  have hszw:w.drew.heap.size=w.heap.size:=rfl;rw[hszw]at hnew hal;obtain⟨al1,al2,al3⟩:=hal;obtain⟨w1,hw1⟩:∃ w1,w1=w.drew.alloc (.cells ROW 217):=⟨_,rfl⟩;rw[<- hw1]at hrz0 al1 al2 hnew hol;have hbn:lo.b≠w.heap.size:=by omega
  have hvn:lv.b≠w.heap.size:=by omega
  have hG3:(n+1)*3<=G*3:=Nat.mul_le_mul_right _ hge;obtain⟨c1,a1,a2,a3,a4,a5,a6,a7,a8⟩:=setCells_ab (w:=w1) (b:=w.heap.size) (o:=i*3) (vs:=zBb [x]) hnew (by rw[hxl,hRs]; omega) h1v;obtain⟨c2,b1,b2,b3,b4,b5,b6,b7,b8⟩:=setCells_ab (w:=(w1.setCells w.heap.size (i*3) (zBb [x])).drew) (b:=w.heap.size) (o:=(i+1)*3) (vs:=(zBb l).drop (i*3)) a1 (by rw[hdl,a2,hRs]; omega) (fun v hv=>h1c v (List.mem_of_mem_drop hv));have hmin:Nat.min (n - i) (n - i)=n - i:=Nat.min_self _;have hmin2:Nat.min 1 (n+1 - i)=1:=Nat.min_eq_left (by omega);have hcv1:w1.heap[lv.b]?=some (.cells cv tv (0,0)):=(hol _ hlvb).trans hcv;have hvs1:=cell_row hcv1 (off:=lv.base) (cs:=zBb [x]) (m:=3) (by omega) (by rw[vals_len]; exact Nat.le_refl _) (fun p hp=>hvv p (by simpa using hp));have hco1:(w1.setCells w.heap.size (i*3) (zBb [x])).drew.heap[lo.b]?=some (.cells c0 t0 (0,0)):=(a4 _ hbn).trans ((hol _ hlb').trans hc0);have hcs1:=cell_row hco1 (off:=lo.base) (cs:=zBb l) (m:=n*3) (by omega) (by omega) hv0;have hrz:∀ ty,(Builtin.append_ #[218,3] ty #[.slice (some ⟨lo.b,lo.base,none⟩) i cc,.int .i64 ((n:Int)+1 - (i:Int))]).run Tryz.prog w=.ok (.slice (some ⟨w.heap.size,0,none⟩) (n+1) G) w1:=fun ty=>by
   rw[show(n:Int)+1 - (i:Int)=((n+1 - i:Nat):Int) by omega];exact hrz0 ty
  have hcpA:∀ ty dc,(Builtin.copy_ #[218,218] ty #[.slice (some ⟨w.heap.size,i*3,none⟩) (n+1 - i) dc,.slice (some ⟨lv.b,lv.base,none⟩) 1 cc2]).run Tryz.prog w1=.ok (goInt 1) (w1.setCells w.heap.size (i*3) (zBb [x])):=fun ty dc=>by
   have:=run_copy_k (P:=Tryz.prog) w1 218 218 ty 217 w.heap.size (i*3) (n+1 - i) dc ⟨lv.b,lv.base,none⟩ 1 cc2 3 (zBb [x]) un218 hinfo (by rw[hmin2]; rfl)
    (fun j v hj=>by
     rw[Addr.add_lit];exact hvs1 j v hj)
    (fun j hj=>by rw[cell?_row' hnew (by rw[hxl]at hj; omega)]; rfl) (fun j hj=>by simp[World.frozen?,hnew]) h1v
   rw[hmin2]at this;exact this
  have hcpB:∀ ty dc sc,(Builtin.copy_ #[218,218] ty #[.slice (some ⟨w.heap.size,(i+1)*3,none⟩) (n - i) dc,.slice (some ⟨lo.b,lo.base+i*3,none⟩) (n - i) sc]).run Tryz.prog (w1.setCells w.heap.size (i*3) (zBb [x])).drew=.ok (goInt (n - i:Nat)) ((w1.setCells w.heap.size (i*3) (zBb [x])).drew.setCells w.heap.size ((i+1)*3) ((zBb l).drop (i*3))):=fun ty dc sc=>by
   have:=run_copy_k (P:=Tryz.prog) (w1.setCells w.heap.size (i*3) (zBb [x])).drew 218 218 ty 217 w.heap.size ((i+1)*3) (n - i) dc ⟨lo.b,lo.base+i*3,none⟩ (n - i) sc 3 ((zBb l).drop (i*3)) un218 hinfo (by rw[hmin,hdl])
    (fun j v hj=>by
     rw[Addr.add_lit,Nat.add_assoc];exact hcs1 (i*3+j) v (by rwa [List.getElem?_drop]at hj))
    (fun j hj=>by rw[cell?_row' (w:=(w1.setCells w.heap.size (i*3) (zBb [x])).drew) a1 (by rw[hdl]at hj; rw[a2,hRs]; omega)]; rfl) (fun j hj=>by simp[World.frozen?,drew_row,a1]) (fun v hv=>h1c v (List.mem_of_mem_drop hv))
   rw[hmin]at this;exact this
  obtain⟨e,w',fr,⟨rfl,rfl⟩,s3,s4,s5⟩:=ins_grow lo.b lo.base n cc i cc2 w.heap.size G ⟨lv.b,lv.base,none⟩ w _ _ _ hi g2 hcn (by omega) hge hrz hcpA hcpB cs;have hgN:(H++[AO.arr 3 []])[H.length]?=some (.arr 3 []):=zAb;have hw:=zBw al1 (w':=(w1.setCells w.heap.size (i*3) (zBb [x])).drew.setCells w.heap.size ((i+1)*3) ((zBb l).drop (i*3))) hgN rfl al3 (.arr 3 ((insAt l i x).map Slt.av)) (b3.trans a3) (fun b' hb'=>(b4 _ hb').trans (a4 _ hb'))
   (fun m hm=>by
    unfold zAu at *;rw[b1];rw[hnew]at hm;simp only[b2,a2]at *;exact hm) (b5.trans a5) (b6.trans a6) ((a7.trans (show OutOk (w1.setCells w.heap.size (i*3) (zBb [x])) (w1.setCells w.heap.size (i*3) (zBb [x])).drew from ⟨rfl,by first | exact Nat.le_refl _ | exact Nat.le_add_right _ _⟩)).trans b7)
   (fun hm=>row_is.2 ⟨rfl,c2,217,b1,by show 0+_<=_; rw[insAt_len (by omega),hnl,b2,a2,hRs]; omega,fun p hp=>by
    rw[insAt_len (by omega),hnl]at hp;rw[insAt_get (by omega),b8,Nat.zero_add]
    by_cases p1:p < i*3
    ·rw[if_pos p1,if_neg (by omega),a8,if_neg (by omega)];exact hRg p p1
    ·rw[if_neg p1]
     by_cases p2:p < i*3+3
     ·rw[if_pos p2,if_neg (by omega),a8,if_pos (by rw[hxl]; omega)]
     ·rw[if_neg p2,if_pos (by rw[hdl,Nat.sub_mul]; omega)];simp only[List.getD,List.getElem?_drop]
      congr 2
      omega⟩)
  refine⟨_,_,E.put H.length ⟨w.heap.size,0,3⟩,_,_,fr,hK H.length _ (List.getElem?_set_self (by simp)),hw.1,(gdr.trans al2).trans hw.2,.sl al3 (Nat.le_refl _) hge (fun _=>⟨by simp,c2.size,by unfold zAu; rw[b1],by show 0+(0+G)*3<=_; rw[b2,a2,hRs]; omega⟩),s3,s4,s5⟩
theorem natlt{i j:Nat}(h:i < j):decide ((i:Int) < (j:Int))=true:=by simp[h]
theorem natge{i j:Nat}(h:¬i < j):decide ((i:Int) < (j:Int))=false:=by simp; omega
theorem half_w{i j:Nat}(h:i+j<=2^20):IntKind.i64.wrap ((IntKind.u64.wrap (IntKind.i64.wrap ((i:Int)+(j:Int)))).fdiv (2^min 1 IntKind.u64.bits))=(((i+j) / 2:Nat):Int):=by
 rw[zAl (n:=(i:Int)+(j:Int)) (by omega) (by omega),wrapU (n:=(i:Int)+(j:Int)) ⟨by omega,by omega⟩];have e:((i:Int)+(j:Int)).fdiv (2^min 1 IntKind.u64.bits)=(((i+j) / 2:Nat):Int):=by
  rw[show((i:Int)+(j:Int))=((i+j:Nat):Int) by omega];exact fdiv_nat (i+j) 2
 rw[e,zAl (by omega) (by omega)]
theorem e255:Ent Tryz.prog 255 Tryz.f255 [] 3:=.mk Tryz.func255 rfl
theorem bsf_ac{l:List Slt}{b a:Int}(hc:calO b l)(hl:l.length<=4096){H:List AO}{K:AV->List AO->Prop}(hK:K (.tup [I (afterN a l:Nat),B false]) H):AC Tryz.prog GG 255 [calA l,I a,.fn 256 [] []] H K:=by
 have hs:=zDy l;obtain⟨k1,k2,k3⟩:=hs.cell;have hlen:=hs.len un218;rw[List.length_map]at hlen;have hidx:=fun(i:Nat) (hi:i < l.length) (H:List AO)=>hs.idx (P:=Tryz.prog) un218 sz217 (i:=(i:Int)) (by rw[List.length_map]; omega) (by omega) H
 have hle:=after_le a l
 generalize calA l=S at *
 refine goE e255 TOk.nil 0 ?_;simp only[push_cast,seval,↓kw2,k1,k2,k3,hlen];refine FW.loopInv (fun m ts H'=>∃(i j:Nat),i+m=j/\i<=afterN a l/\afterN a l<=j/\j<=l.length/\H'=H/\ts 0=S/\ts 1=I a/\ts 2=.fn 256 [] []/\ts 8=I (l.length:Int)/\ts 9=I (i:Int)/\ts 10=I (j:Int)) l.length
  ⟨0,l.length,by omega,by omega,by omega,by omega,rfl,rfl,rfl,rfl,rfl,rfl,rfl⟩ ?_
 rintro m ih ts H' ⟨i,j,hm,h1,h2,h3,rfl,t0,t1,t2,t8,t9,t10⟩
 refine FW.inLoop ?_;have hx0:∀ q,q < l.length->∀ H,zAk Tryz.prog 218 S (q:Int) H=some ((0<=(q:Int)/\(q:Int) < ((l.map Slt.av).length:Int))/\(l.getD q default).av.cells.length=3,.iptr (l.getD q default).av.cells 0):=fun q hq H=>by
  have hx:=hidx q hq H;have hgy:=zAj Slt.av l default hq;simp only[Int.toNat_natCast]at hx;rw[hgy]at hx;exact hx
 by_cases hlt:i < j
 ·have hd1:=natlt hlt;have hhw:=half_w (i:=i) (j:=j) (by omega);have hhl:(i+j) / 2 < l.length:=by omega
  have hx:=hx0 _ hhl;have hg:=@after_ge a b l ((i+j) / 2) hc;have hl2:=@after_lt a l ((i+j) / 2);have hbb:(0<=(((i+j) / 2:Nat):Int)/\(((i+j) / 2:Nat):Int) < ((l.map Slt.av).length:Int)):=⟨by omega,by rw[List.length_map]; omega⟩
  generalize hh:(i+j) / 2=h at hhw hx hg hl2 hbb hhl
  generalize l.getD h default=x at hx hg hl2
  have hcx:=Slt.cells x;have ha:=after1_pur x a;simp only[Slt.av]at ha;have hh1:=zAl (n:=(h:Int)+1) (by omega) (by omega)
  by_cases hta:x.till<=a
  ·rw[if_pos hta]at ha;refine goN ?_;simp only[push_cast,seval,↓kw2,t0,t1,t2,t8,t9,t10,hd1,hhw,hx,hcx];refine⟨hbb,AC.pur ha ?_⟩;refine goN ?_;simp only[push_cast,seval,↓kw2,t0,t1,t2,t8,t9,t10,hh1];exact ih (j - (h+1)) (by omega) _ _ ⟨h+1,j,by omega,by
    rcases Nat.lt_or_ge h (afterN a l)with q | q
    ·omega
    ·have:=hg q hhl; omega,h2,h3,rfl,t0,t1,t2,t8,rfl,t10⟩
  ·rw[if_neg hta]at ha;refine goN ?_;simp only[push_cast,seval,↓kw2,t0,t1,t2,t8,t9,t10,hd1,hhw,hx,hcx];refine⟨hbb,AC.pur ha ?_⟩;refine goN ?_;simp only[push_cast,seval,↓kw2,t0,t1,t2,t8,t9,t10];exact ih (h - i) (by omega) _ _ ⟨i,h,by omega,h1,by
    rcases Nat.lt_or_ge h (afterN a l)with q | q
    ·have:=hl2 q; omega
    ·omega,by omega,rfl,t0,t1,t2,t8,t9,rfl⟩
 ·have hd1:=natge hlt;have hia:afterN a l=i:=by omega
  rw[hia]at hK
  by_cases hin:i < l.length
  ·have hd2:=natlt hin;have hx:=hx0 _ hin;have hg:=@after_ge a b l i hc (by omega) hin
   generalize l.getD i default=x at hx hg
   have hcx:=Slt.cells x;have ha:=after1_pur x a;simp only[Slt.av]at ha;rw[if_neg (by omega)]at ha;have hbb:(0<=(i:Int)/\(i:Int) < ((l.map Slt.av).length:Int)):=⟨by omega,by rw[List.length_map]; omega⟩;refine goN ?_;simp only[push_cast,seval,↓kw2,t0,t1,t2,t8,t9,t10,hd1,hd2,hx,hcx];refine⟨hbb,AC.pur ha ?_⟩;refine goN ?_;simp only[push_cast,seval,↓kw2,t0,t1,t2,t8,t9,t10];exact⟨_,rfl,hK⟩
  ·have hd2:=natge hin;refine goN ?_;simp only[push_cast,seval,↓kw2,t0,t1,t2,t8,t9,t10,hd1,hd2];exact⟨_,rfl,hK⟩
theorem e211:Ent Tryz.prog 211 Tryz.f211 [] 2:=.mk Tryz.func211 rfl
theorem caft_pur{l:List Slt}{b:Int}(a:Int)(hc:calO b l)(hl:l.length<=4096):Pur Tryz.prog GG 211 [calA l,I a] (I (afterN a l:Nat)):=by
 have hp:=calA_pur l;refine goQ e211 TOk.nil 0 ?_ (by simp[AV.purL,AV.pur,hp]);simp only[push_cast,seval,↓kw2];refine bsf_ac hc hl ?_;refine goN ?_;simp only[push_cast,seval,↓kw2];exact⟨_,rfl,zAa rfl rfl⟩
theorem e208:Ent Tryz.prog 208 Tryz.f208 [] 2:=.mk Tryz.func208 rfl
theorem free_pur{l:List Slt}{b:Int}(f t:Int)(hc:calO b l)(hl:l.length<=4096):Pur Tryz.prog GG 208 [calA l,.agg [I f,I t]] (B (zFm f t l)):=by
 have hs:=zDy l;have hp:=calA_pur l;obtain⟨k1,k2,k3⟩:=hs.cell;have hlen:=hs.len un218;rw[List.length_map]at hlen;have hle:=after_le f l;have hidx:=fun(i:Nat) (hi:i < l.length) (H:List AO)=>hs.idx (P:=Tryz.prog) un218 sz217 (i:=(i:Int)) (by rw[List.length_map]; omega) (by omega) H
 have ha:=caft_pur f hc hl;unfold zFm
 generalize calA l=S at *
 by_cases hk:afterN f l=l.length
 ·have hd:decide (((afterN f l:Nat):Int)=(l.length:Int))=true:=decide_eq_true (by omega);rw[decide_eq_true hk,Bool.true_or];refine goQ e208 TOk.nil 0 ?_ (by simp[AV.purL,AV.pur,hp]);simp only[push_cast,seval,↓kw2,k1,k2,k3];refine AC.pur ha ?_;refine goN ?_;simp only[push_cast,seval,↓kw2,k1,k2,k3,hlen,hd];exact⟨_,rfl,zAa rfl rfl⟩
 ·have hd:decide (((afterN f l:Nat):Int)=(l.length:Int))=false:=decide_eq_false (by omega);have hlt:afterN f l < l.length:=by omega
  rw[decide_eq_false hk,Bool.false_or];have hx:=hidx _ hlt;have hgy:=zAj Slt.av l default hlt;simp only[Int.toNat_natCast]at hx;rw[hgy]at hx;have hbb:(0<=((afterN f l:Nat):Int)/\((afterN f l:Nat):Int) < ((l.map Slt.av).length:Int)):=⟨by omega,by rw[List.length_map]; omega⟩
  generalize l.getD (afterN f l) default=x at hx
  have hcx:=Slt.cells x;refine goQ e208 TOk.nil 0 ?_ (by simp[AV.purL,AV.pur,hp]);simp only[push_cast,seval,↓kw2,k1,k2,k3];refine AC.pur ha ?_;refine goN ?_;simp only[push_cast,seval,↓kw2,k1,k2,k3,hlen,hd,hx,hcx];refine⟨hbb,?_⟩;exact⟨_,rfl,zAa rfl rfl⟩
theorem e157:Ent Tryz.prog 157 Tryz.f157 [] 2:=.mk Tryz.func157 rfl
theorem cFree_pur{l:List Slt}{f t:Int}(hc:calO 0 l)(hl:l.length<=4096)(hft:spC f t=0):Pur Tryz.prog GG 157 [calA l,.agg [I f,I t]] (.tup [B (zFm f t l),I 0]):=by
 have hp:=calA_pur l;have h1:=cchk_pur hc hl;have h2:=spchk_pur f t;rw[hft]at h2;have h3:=free_pur f t hc hl
 generalize calA l=S at *
 refine goQ e157 TOk.nil 0 ?_ (by simp[AV.purL,AV.pur,hp]);simp only[push_cast,seval,↓kw2];refine AC.pur h1 ?_;refine goN ?_;simp only[push_cast,seval,↓kw2];refine AC.pur h2 ?_;refine goN ?_;simp only[push_cast,seval,↓kw2];refine AC.pur h3 ?_;refine goN ?_;simp only[push_cast,seval,↓kw2];exact⟨_,rfl,zAa rfl rfl⟩
end Go.Ab.Pd
