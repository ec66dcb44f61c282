/- One of the texts that this claim stands on. -/
import Derived.Test.YtnfnhccebebflaaGreatEv41
import Derived.Test.YtnfnhccebebflaaGreatEv40
set_option maxHeartbeats 40000000
set_option maxRecDepth 400000
set_option linter.all false
namespace Go.Ab.Pd
open Go.Proofs
open Go.Proofs.Tryz renaming prog->zP
theorem e261:Ent zP 261 Tryz.f261 [] 1:=.mk Tryz.func261 rfl
attribute [push_cast] Tryz.f261
theorem meet1_pur(w:Int):Pur zP GG 261 [U w] (B (!decide (w=0))):=by
 refine goQ e261 TOk.nil 0 ?_;simp only[push_cast,seval,↓kw2];exact⟨_,rfl,zAa rfl rfl⟩
theorem getD_lt{l:List Int}{i:Nat}(h:i < l.length):l.getD i 0=l[i]:=by simp[List.getD,h]
def meetV(xs ys:List Int):Bool:=anyN (fun i=>!decide ((List.zipWith andW xs ys).getD i 0=0)) (List.zipWith andW xs ys).length 0
theorem meetV_bits{xs ys:List Int}(hx:∀ w∈xs,inU w)(hy:∀ w∈ys,inU w)(hl:xs.length=ys.length)(h16:xs.length<=2^16):meetV xs ys=false ↔ ∀ m,¬(zBv xs m=true/\zBv ys m=true):=by
 have iz:=zip_inU andW_inU xs ys;have hz:meetV xs ys=false ↔ ∀ w∈List.zipWith andW xs ys,w=0:=by
  unfold meetV;rw[Bool.eq_false_iff,Ne,anyN_iff]
  constructor
  ·intro h w hw
   obtain⟨i,hi,rfl⟩:=List.getElem_of_mem hw
   by_cases h0:(List.zipWith andW xs ys)[i]=0
   ·exact h0
   ·exact absurd ⟨i,by omega,by omega,by rw[getD_lt hi,zF h0]; rfl⟩ h
  ·rintro h ⟨j,_,hj,hp⟩
   have hjl:j < (List.zipWith andW xs ys).length:=by omega
   rw[getD_lt hjl,h _ (List.getElem_mem hjl)]at hp;simp at hp
 rw[hz,zero_bits iz]
 constructor
 ·rintro h m ⟨h1,h2⟩
  have:=h m;rw[and_bit hx hy hl,h1,h2]at this;cases this
 ·intro h m
  rw[and_bit hx hy hl];cases h1:zBv xs m
  ·rfl
  ·cases h2:zBv ys m
   ·rfl
   ·exact absurd ⟨h1,h2⟩ (h m)
theorem e222:Ent zP 222 Tryz.f222 [] 3:=.mk Tryz.func222 rfl
attribute [push_cast] Tryz.f222
theorem meet_pur{n:Int}{xs ys:List Int}(hx:∀ w∈xs,inU w)(hy:∀ w∈ys,inU w)(c1:schk n xs=0)(c2:schk n ys=0):Pur zP GG 222 [I n,.isl (xs.map U),.isl (ys.map U)] (.tup [B (meetV xs ys),I 0]):=by
 obtain⟨hn,lx,_⟩:=(schk_bits hx).1 c1;obtain⟨_,ly,_⟩:=(schk_bits hy).1 c2;have p1:=scheck_pur n xs;have p2:=scheck_pur n ys;rw[c1]at p1;rw[c2]at p2;have hA:=and_ok n hx hy (by omega) (by omega) (by omega) p1 p2;have h1:=(IsSet.isl hx).pur;have h2:=(IsSet.isl hy).pur;refine goQ e222 TOk.nil 0 ?_ (by simp[AV.purL,AV.pur,h1,h2]);simp only[push_cast,seval,↓kw2];refine AC.pur hA ?_;refine goN ?_;simp only[push_cast,seval,↓kw2];refine hasU (l:=List.zipWith andW xs ys) (.inl rfl) (by rw[List.length_zipWith]; omega) (fun _ H=>H=[]) (pr:=fun i=>!decide ((List.zipWith andW xs ys).getD i 0=0)) ?_ rfl ?_
 ·rintro i H K hi rfl hK
  exact AC.pur (meet1_pur _) (hK _ rfl)
 rintro H' ⟨_,_,rfl⟩
 refine goN ?_;simp only[push_cast,seval,↓kw2];exact⟨_,rfl,zAa rfl rfl⟩
def apartV(a b c:Int)(X Y:Plc):Bool:=(zAw a b c X.x X.y X.z X.p X.q X.r).all (fun k=>!decide (k∈zAw a b c Y.x Y.y Y.z Y.p Y.q Y.r))&&(zDa a b c X.x X.y X.z X.p X.q X.r X.s X.t X.u).all (fun k=>!decide (k∈zDa a b c Y.x Y.y Y.z Y.p Y.q Y.r Y.s Y.t Y.u))
theorem meet_ofL{n:Int}(hn:1<=n/\n<=12288){k l:List Int}(hk:∀ i∈k,0<=i/\i < n)(hl:∀ i∈l,0<=i/\i < n):meetV (ofL n k) (ofL n l)=!(k.all fun i=>!decide (i∈l)):=by
 have hw:zBe n=(n+63) / 64:=by rw[zBe,if_pos hn]
 have hb:=meetV_bits (zCu n k) (zCu n l) (by rw[ofL_length,ofL_length]) (by rw[ofL_length]; omega);have he:(∀ m,¬(zBv (ofL n k) m=true/\zBv (ofL n l) m=true)) ↔ (k.all fun i=>!decide (i∈l))=true:=by
  rw[List.all_eq_true]
  constructor
  ·intro h i hi
   have h0:=(hk i hi).1;have:=h i.toNat;rw[zEw hn hk,zEw hn hl,show((i.toNat:Nat):Int)=i by omega]at this;simp only[decide_eq_true_eq,not_and]at this;simp[this hi]
  ·rintro h m ⟨h1,h2⟩
   rw[zEw hn hk,decide_eq_true_eq]at h1;rw[zEw hn hl,decide_eq_true_eq]at h2;have:=h _ h1;simp[h2]at this
 cases hm:meetV (ofL n k) (ofL n l)
 ·rw[he.1 (hb.1 hm)]; rfl
 ·cases ha:(k.all fun i=>!decide (i∈l))
  ·rfl
  ·rw[hb.2 (he.2 ha)]at hm; cases hm
theorem e170:Ent zP 170 Tryz.f170 [] 3:=.mk Tryz.func170 rfl
attribute [push_cast] Tryz.f170
def apE(a b c:Int)(X Y:Plc):Int:=if X.ok a b c then pchk a b c Y.x Y.y Y.z Y.p Y.q Y.r Y.s Y.t Y.u else pchk a b c X.x X.y X.z X.p X.q X.r X.s X.t X.u
theorem apart_pur(a b c:Int)(X Y:Plc):Pur zP GG 170 [.agg [I a,I b,I c],X.av,Y.av] (.tup [B (if X.ok a b c/\Y.ok a b c then apartV a b c X Y else false),I (apE a b c X Y)]):=by
 obtain⟨x,y,z,p,q,r,s,t,u⟩:=X;obtain⟨x',y',z',p',q',r',s',t',u'⟩:=Y;show Pur zP GG 170 [.agg [I a,I b,I c],PL x y z p q r s t u,PL x' y' z' p' q' r' s' t' u'] _;unfold apE
 by_cases h1:okPl a b c x y z p q r s t u
 ·rw[if_pos (show Plc.ok a b c ⟨x,y,z,p,q,r,s,t,u⟩ from h1)]
  by_cases h2:okPl a b c x' y' z' p' q' r' s' t' u'
  ·rw[if_pos ⟨h1,h2⟩];simp only;rw[okPl_pchk h2];have hd:=h1.1;have hmu:=zBz hd;have hmv:zAs a b c=a*b*c:=by rw[zAs,if_pos hd]
   have hN:1<=zAs a b c/\zAs a b c<=4096:=by
    have hd':=hd;unfold okD at hd';have:0 < a*b*c:=Int.mul_pos (Int.mul_pos (by omega) (by omega)) (by omega);omega
   have hn1:∀ k∈srt (zAw a b c x y z p q r),0<=k/\k < zAs a b c:=fun k hk=>by rw[hmv]; exact(zCt hd h1.2.1 (srt_mem.1 hk)).2
   have hn2:∀ k∈srt (zAw a b c x' y' z' p' q' r'),0<=k/\k < zAs a b c:=fun k hk=>by rw[hmv]; exact(zCt hd h2.2.1 (srt_mem.1 hk)).2
   have hl1:∀ k∈zDa a b c x y z p q r s t u,0<=k/\k < 3*zAs a b c:=fun k hk=>by rw[hmv]; exact links_mem hd h1.2.1 k hk
   have hl2:∀ k∈zDa a b c x' y' z' p' q' r' s' t' u',0<=k/\k < 3*zAs a b c:=fun k hk=>by rw[hmv]; exact links_mem hd h2.2.1 k hk
   have w3:=zAh (n:=3*zAs a b c) (by omega) (by omega);have m1:=meet_pur (zCu _ _) (zCu _ _) (schk_ofL (n:=zAs a b c) (by omega) hn1) (schk_ofL (n:=zAs a b c) (by omega) hn2);have m2:=meet_pur (zCu _ _) (zCu _ _) (schk_ofL (n:=3*zAs a b c) (by omega) hl1) (schk_ofL (n:=3*zAs a b c) (by omega) hl2);rw[meet_ofL (by omega) hn1 hn2]at m1;rw[meet_ofL (by omega) hl1 hl2]at m2;have e1:((srt (zAw a b c x y z p q r)).all fun i=>!decide (i∈srt (zAw a b c x' y' z' p' q' r')))=((zAw a b c x y z p q r).all fun i=>!decide (i∈zAw a b c x' y' z' p' q' r')):=by
    rw[Bool.eq_iff_iff,List.all_eq_true,List.all_eq_true]
    constructor
    ·intro h k hk
     have:=h k (srt_mem.2 hk);simpa[srt_mem]using this
    ·intro h k hk
     have:=h k (srt_mem.1 hk);simpa[srt_mem]using this
   rw[e1]at m1;have hV:apartV a b c ⟨x,y,z,p,q,r,s,t,u⟩ ⟨x',y',z',p',q',r',s',t',u'⟩=(((zAw a b c x y z p q r).all fun i=>!decide (i∈zAw a b c x' y' z' p' q' r'))&&((zDa a b c x y z p q r s t u).all fun i=>!decide (i∈zDa a b c x' y' z' p' q' r' s' t' u'))):=rfl;rw[hV]
   generalize ((zAw a b c x y z p q r).all fun i=>!decide (i∈zAw a b c x' y' z' p' q' r'))=g1 at m1
   generalize ((zDa a b c x y z p q r s t u).all fun i=>!decide (i∈zDa a b c x' y' z' p' q' r' s' t' u'))=g2 at m2
   cases g1 <;> cases g2
   all_goals
    refine goQ e170 zCp 0 ?_;simp only[push_cast,seval,↓kw2,h1,h2];refine AC.pur m1 ?_;refine goW zCp [] 0 ?_;simp only[push_cast,seval,↓kw2,w3];refine AC.pur m2 ?_;refine goW zCp [] 0 ?_;simp only[push_cast,seval,↓kw2];exact⟨_,rfl,zAa rfl rfl⟩
  ·have hp2:=nok_pchk (x:=⟨x',y',z',p',q',r',s',t',u'⟩) h2;rw[if_neg (fun h=>h2 h.2)];refine goQ e170 zFr 0 ?_;simp only[push_cast,seval,↓kw2];refine AC.pur (sets_pur _ _ _ _ _ _ _ _ _ _ _ _ h1) ?_;refine goW zFr [] 0 ?_;simp only[push_cast,seval,↓kw2];refine AC.pur (setsN_pur _ _ _ _ _ _ _ _ _ _ _ _ hp2) ?_;simp only at hp2;refine goW zFr [] 0 ?_;simp only[push_cast,seval,↓kw2,hp2];exact⟨_,rfl,zAa rfl rfl⟩
 ·have hp1:=nok_pchk (x:=⟨x,y,z,p,q,r,s,t,u⟩) h1;rw[if_neg (show ¬Plc.ok a b c ⟨x,y,z,p,q,r,s,t,u⟩ from h1),if_neg (fun h=>h1 h.1)];refine goQ e170 zFr 0 ?_;simp only[push_cast,seval,↓kw2];refine AC.pur (setsN_pur _ _ _ _ _ _ _ _ _ _ _ _ hp1) ?_;simp only at hp1;refine goW zFr [] 0 ?_;simp only[push_cast,seval,↓kw2,hp1];exact⟨_,rfl,zAa rfl rfl⟩
end Go.Ab.Pd
