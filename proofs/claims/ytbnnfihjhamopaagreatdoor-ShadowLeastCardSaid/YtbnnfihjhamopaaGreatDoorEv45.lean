/- One of the texts that this claim stands on. -/
import Derived.Test.YtbnnfihjhamopaaGreatDoorEv43
import Derived.Test.YtbnnfihjhamopaaGreatDoorEv38
import Derived.Test.YtbnnfihjhamopaaGreatDoorEv44
set_option maxHeartbeats 40000000
set_option maxRecDepth 400000
set_option linter.all false
namespace Go.Ab.Pd
open Go.Proofs
open Go.Proofs.Tryz renaming prog->zP
theorem e163:Ent zP 163 Tryz.f163 [] 1:=.mk Tryz.func163 rfl
attribute [push_cast] Tryz.f163
theorem cloneS_ac{l:List Slt}{s:AV}(hs:IsSl s (l.map Slt.av))(hl:l.length<=2^16){H:List AO}{K:AV->List AO->Prop}(hK:∀ r X,LiveS 3 (H++X) s r (l.map Slt.av)->(∀ i,zAt r=some i->H.length<=i)->K r (H++X)):AC zP GG 163 [s] H K:=by
 rcases hs with rfl | ⟨h0,rfl⟩
 ·cases l with
  | nil =>
   refine goE e163 TOk.nil 0 ?_;simp(maxSteps:=2000000)only[push_cast,seval,↓kw2,zAq,aEqS,zEs,zBr,elsOf,zDx,List.map_nil];exact⟨_,rfl,hK _ _ .zs (fun i h=>by cases h)⟩
  | cons x l =>
   obtain⟨C,happ,hC⟩:=aAppZK (P:=zP) zFh zFh ze172 rfl by172 (H:=H++[AO.arr 3 []]) (l:=(x::l).map Slt.av) (fun y hy=>by
    obtain⟨j,_,rfl⟩:=List.mem_map.1 hy;rfl) (by simp)
   generalize hL:x::l=L at hl hK happ hC
   have hLp:0 < L.length:=by rw[<- hL]; simp
   refine goE e163 TOk.nil 0 ?_;simp(maxSteps:=2000000)only[push_cast,seval,↓kw2,zAq,aEqS,zEs,happ];refine⟨hC (by rw[zM]; omega) (by rw[zM]; omega),_,rfl,?_⟩;have:=hK (.sl (H++[AO.arr 3 []]).length 0 L.length L.length) ([AO.arr 3 []]++[AO.arr 3 (L.map Slt.av)]) (LiveS.row' (by
    rw[<- List.append_assoc,zAg]; rfl) hLp) (fun i h=>by cases h; simp)
   simpa[zM]using this
 ·have hl0:l=[]:=List.map_eq_nil_iff.1 h0;subst hl0;refine goE e163 TOk.nil 0 ?_;simp(maxSteps:=2000000)only[push_cast,seval,↓kw2,zAq,aEqS,zEs];exact⟨_,rfl,by simpa using hK _ [] .nil (fun i h=>by cases h)⟩
theorem cloneS_pur{l:List Slt}{s:AV}(hs:IsSl s (l.map Slt.av))(hl:l.length<=2^16)(hp:AV.purL (l.map Slt.av)=true):Pur zP GG 163 [s] s :=
 frz_live hs hp (IsSl.purL1 hs hp) (cloneS_ac hs hl fun r X h _=>h)
theorem appS{H:List AO}{id vid n:Nat}{es:List AV}{x:Slt}(h0:H[id]?=some (.arr 3 es))(hn:es.length=n)(hp:0 < n)(h1:H[vid]?=some (.arr 3 [x.av])) :
  zBr zP 131 131 (.sl id 0 n n) (.sl vid 0 1 1) H=some ⟨True/\(n+1)*24<=2^40/\n+1<=2^40,.sl H.length 0 (n+1) (n+1),H.set id .dead++[.arr 3 (es++[x.av])]⟩:=by
 have hel:elsOf H 3 (.sl vid 0 1 1)=some (True,[x.av]):=by
  unfold elsOf;simp only[h1];rfl
 unfold zBr;simp only[zFh,ze172,by172,show(AV.agg [I 0,I 0,I 0]).cells.length=3 from rfl,hel,h0];subst hn;simp[hp]
theorem appN{H:List AO}{vid:Nat}{x:Slt}(h1:H[vid]?=some (.arr 3 [x.av])) :
  zBr zP 131 131 (.c (.slice none 0 0)) (.sl vid 0 1 1) H=some ⟨True/\(0+1)*24<=2^40/\0+1<=2^40,.sl H.length 0 (0+1) (0+1),H++[.arr 3 [x.av]]⟩:=by
 have hel:elsOf H 3 (.sl vid 0 1 1)=some (True,[x.av]):=by
  unfold elsOf;simp only[h1];rfl
 unfold zBr;simp only[zFh,ze172,by172,show(AV.agg [I 0,I 0,I 0]).cells.length=3 from rfl,hel];rfl
theorem e162:Ent zP 162 Tryz.f162 [11,15] 3:=.mk Tryz.func162 rfl
attribute [push_cast] Tryz.f162
theorem insert_ac{l:List Slt}(x:Slt){i:Nat}(hi:i<=l.length)(hl:l.length<=4096){c s:AV}{H:List AO}(hs:LiveS 3 H c s (l.map Slt.av))(hc:l=[]->s=.c (.slice none 0 0)){vid:Nat}(hv:H[vid]?=some (.arr 3 [x.av]))(hne:zAt s≠some vid){K:AV->List AO->Prop}
  (hK:∀ id' H',H'[id']?=some (.arr 3 ((insAt l i x).map Slt.av))->K (.sl id' 0 (l.length+1) (l.length+1)) H'):AC zP GG 162 [s,I i,.sl vid 0 1 1] H K:=by
 generalize hL:l.map Slt.av=L at hs
 have hlen:L.length=l.length:=by rw[<- hL,zM]
 have key:(l=[]/\s=.c (.slice none 0 0))\/∃ id,s=.sl id 0 l.length l.length/\0 < l.length/\H[id]?=some (.arr 3 (l.map Slt.av)):=by
  cases hs with
  | nil=>exact .inl ⟨List.length_eq_zero_iff.1 (by simpa using hlen.symm),rfl⟩
  | zs =>
   have h0:=List.length_eq_zero_iff.1 (show l.length=0 by simpa using hlen.symm);have:=hc h0;cases this
  | row h h0 =>
   rename_i id;exact .inr ⟨id,by rw[<- hlen],by omega,by rw[hL]; exact h⟩
 clear hs hc hL hlen
 rcases key with ⟨rfl,rfl⟩ | ⟨id,rfl,h0,hid⟩
 ·have hi0:i=0:=by simpa using hi
  subst hi0;have hap:=appN hv;refine goE e162 TOk.nil 0 ?_;simp(maxSteps:=2000000)only[push_cast,seval,↓kw2,zCp,zBj,hap,natc0]
  first
   | exact⟨by decide,_,rfl,hK _ _ zAc⟩
   | exact⟨_,rfl,hK _ _ zAc⟩
 ·have hvi:vid≠id:=fun e=>hne (by rw[e]; rfl)
  by_cases hin:i=l.length
  ·subst hin;have hap:=appS hid zM h0 hv;have hd:decide ((l.length:Int)=(l.length:Int))=true:=zT rfl;refine goE e162 TOk.nil 0 ?_;simp(maxSteps:=2000000)only[push_cast,seval,↓kw2,zCp,zBj,hap,hd,hid,Int.toNat_natCast];refine⟨by omega,⟨by omega,by omega⟩,_,rfl,hK _ _ ?_⟩;rw[List.getElem?_append_right (by simp),List.length_set,Nat.sub_self];simp[insAt]
  ·exact insert_mid x (by omega) rfl hl hvi hid hv hK
end Go.Ab.Pd
