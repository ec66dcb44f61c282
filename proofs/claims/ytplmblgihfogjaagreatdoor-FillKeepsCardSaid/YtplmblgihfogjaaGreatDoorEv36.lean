/- A text of this claim. -/
import Derived.Test.YtplmblgihfogjaaGreatDoorEv35
set_option maxHeartbeats 40000000
set_option maxRecDepth 400000
set_option linter.all false
namespace Go.Ab.Pd
open Go.Proofs
open Go.Proofs.Tryz renaming prog->zP
def oddM(n:Int)(l:List Int)(i:Nat):Bool:=decide (l.getD i 0<=(if i=0 then -1 else l.getD (i - 1) 0))||decide (n<=l.getD i 0)
def zEy(n:Int)(l:List Int):Bool:=!anyN (oddM n l) l.length 0
theorem e246:Ent zP 246 Tryz.f246 [] 3:=.mk Tryz.func246 rfl
theorem marks1_ac{n last k:Int}{H:List AO}{q r:Nat}(hq:H[q]?=some (.cells [I last]))(hr:H[r]?=some (.cells [I n])){K:AV->List AO->Prop}
  (hK:K (B (decide (k<=last)||decide (n<=k))) (H.set q (.cells [I k]))):AC zP GG 246 [I k,.ptr q 0,.ptr r 0] H K:=by
 by_cases h1:k<=last
 ·have d1:=zT h1;rw[d1,Bool.true_or]at hK;refine goE e246 TOk.nil 0 ?_;simp only[push_cast,seval,↓kw2,hq,hr,d1];exact⟨_,rfl,hK⟩
 ·have d1:=zF h1;rw[d1,Bool.false_or]at hK;refine goE e246 TOk.nil 0 ?_;simp only[push_cast,seval,↓kw2,hq,hr,d1];exact⟨_,rfl,hK⟩
theorem e193:Ent zP 193 Tryz.f193 [] 2:=.mk Tryz.func193 rfl
theorem marks_pur(n:Int){s:AV}{l:List Int}(hs:IsSl s (l.map IA))(hl:l.length<=2^20):Pur zP GG 193 [I n,s] (B (zEy n l)):=by
 have hpu:=hs.pur (zAi IA _ (fun _=>rfl));obtain⟨k1,k2,k3⟩:=hs.cell;unfold zEy;refine goQ e193 TOk.nil 0 ?_ (by simp[AV.purL,AV.pur,hpu]);simp only[push_cast,seval,↓kw2,k1,k2,k3];refine hasI hs hl (fun i H=>H=[AO.cells [I n],AO.cells [I (if i=0 then -1 else l.getD (i - 1) 0)]]) (pr:=oddM n l) ?_ rfl ?_
 ·rintro i H K hi rfl hK
  refine marks1_ac (q:=1) (r:=0) rfl rfl ?_;exact hK _ (by simp)
 rintro H' ⟨_,_,rfl⟩
 refine goN ?_;simp only[push_cast,seval,↓kw2];exact⟨_,rfl,zAa rfl rfl⟩
def hitV(a b c:Int)(X:Plc)(node link:Int):Bool:=(decide (0<=node)&&decide (node∈zAo a b c X.x X.y X.z X.p X.q X.r))||(decide (0<=link)&&decide (link∈zBh a b c X.x X.y X.z X.p X.q X.r X.s X.t X.u))
theorem inS_ofL{n:Int}(hn:1<=n/\n<=12288){l:List Int}(hl:∀ k∈l,0<=k/\k < n)(k:Int):inS n (ofL n l) k=decide (k∈l):=by
 unfold inS
 by_cases h:0<=k/\k < n
 ·rw[zT h,Bool.true_and,zEb hn hl,show((k.toNat:Nat):Int)=k by omega]
 ·rw[zF h,Bool.false_and,zF fun hm=>h (hl k hm)]
theorem e197:Ent zP 197 Tryz.f197 [] 4:=.mk Tryz.func197 rfl
theorem hit_pur(a b c:Int)(X:Plc)(hX:X.ok a b c)(node link:Int):Pur zP GG 197 [.agg [I a,I b,I c],X.av,I node,I link] (.tup [B (if -1<=node/\node < zAf a b c/\-1<=link/\link < 3*zAf a b c then hitV a b c X node link else false),I (if -1<=node/\node < zAf a b c/\-1<=link/\link < 3*zAf a b c then 0 else 2)]):=by
 obtain⟨x,y,z,p,q,r,s,t,u⟩:=X;have h1:okPl a b c x y z p q r s t u:=hX;have hd:=h1.1;have hmu:=zBx hd;have hmv:zAf a b c=a*b*c:=by rw[zAf,if_pos hd]
 have hN:1<=zAf a b c/\zAf a b c<=4096:=by
  have hd':=hd;unfold okD at hd';have:0 < a*b*c:=Int.mul_pos (Int.mul_pos (by omega) (by omega)) (by omega);omega
 have hn1:∀ k∈srt (zAo a b c x y z p q r),0<=k/\k < zAf a b c:=fun k hk=>by rw[hmv]; exact(zDc hd h1.2.1 (srt_mem.1 hk)).2
 have hl1:∀ k∈zBh a b c x y z p q r s t u,0<=k/\k < 3*zAf a b c:=fun k hk=>by rw[hmv]; exact zDx hd h1.2.1 k hk
 have w3:=zAl (n:=3*zAf a b c) (by omega) (by omega);have m1:=has_is (zAt _ _) (zCa (n:=zAf a b c) (by omega) hn1) node;have m2:=has_is (zAt _ _) (zCa (n:=3*zAf a b c) (by omega) hl1) link;rw[inS_ofL (by omega) hn1,show decide (node∈srt (zAo a b c x y z p q r))=decide (node∈zAo a b c x y z p q r) from decide_eq_decide.2 srt_mem]at m1;rw[inS_ofL (by omega) hl1]at m2;have hV:hitV a b c ⟨x,y,z,p,q,r,s,t,u⟩ node link=((decide (0<=node)&&decide (node∈zAo a b c x y z p q r))||(decide (0<=link)&&decide (link∈zBh a b c x y z p q r s t u))):=rfl;rw[hV]
 generalize decide (node∈zAo a b c x y z p q r)=g1 at m1
 generalize decide (link∈zBh a b c x y z p q r s t u)=g2 at m2
 show Pur zP GG 197 [.agg [I a,I b,I c],PL x y z p q r s t u,I node,I link] _;have hch:(decide (node < -1)=true)\/(decide (node < -1)=false/\decide (zAf a b c<=node)=true)\/(decide (node < -1)=false/\decide (zAf a b c<=node)=false/\decide (link < -1)=true)\/(decide (node < -1)=false/\decide (zAf a b c<=node)=false/\decide (link < -1)=false/\decide (3*zAf a b c<=link)=true)\/(decide (node < -1)=false/\decide (zAf a b c<=node)=false/\decide (link < -1)=false/\decide (3*zAf a b c<=link)=false):=by
  generalize decide (node < -1)=qh2
  generalize decide (zAf a b c<=node)=qh3
  generalize decide (link < -1)=qh4
  generalize decide (3*zAf a b c<=link)=qh5
  cases qh2 <;> cases qh3 <;> cases qh4 <;> cases qh5 <;> simp
 rcases hch with h2 | ⟨h2,h3⟩ | ⟨h2,h3,h4⟩ | ⟨h2,h3,h4,h5⟩ | ⟨h2,h3,h4,h5⟩
 ·have hr:¬(-1<=node/\node < zAf a b c/\-1<=link/\link < 3*zAf a b c):=by
   have:=of_decide_eq_true h2;omega
  rw[if_neg hr,if_neg hr];refine goQ e197 zCk 0 ?_;simp only[push_cast,seval,↓kw2,h1,w3,h2];exact⟨_,rfl,zAa rfl rfl⟩
 ·have hr:¬(-1<=node/\node < zAf a b c/\-1<=link/\link < 3*zAf a b c):=by
   have:=of_decide_eq_true h3;omega
  rw[if_neg hr,if_neg hr];refine goQ e197 zCk 0 ?_;simp only[push_cast,seval,↓kw2,h1,w3,h2,h3];exact⟨_,rfl,zAa rfl rfl⟩
 ·have hr:¬(-1<=node/\node < zAf a b c/\-1<=link/\link < 3*zAf a b c):=by
   have:=of_decide_eq_true h4;omega
  rw[if_neg hr,if_neg hr];refine goQ e197 zCk 0 ?_;simp only[push_cast,seval,↓kw2,h1,w3,h2,h3,h4];exact⟨_,rfl,zAa rfl rfl⟩
 ·have hr:¬(-1<=node/\node < zAf a b c/\-1<=link/\link < 3*zAf a b c):=by
   have:=of_decide_eq_true h5;omega
  rw[if_neg hr,if_neg hr];refine goQ e197 zCk 0 ?_;simp only[push_cast,seval,↓kw2,h1,w3,h2,h3,h4,h5];exact⟨_,rfl,zAa rfl rfl⟩
 ·have hr:-1<=node/\node < zAf a b c/\-1<=link/\link < 3*zAf a b c:=by
   have e2:=of_decide_eq_false h2;have e3:=of_decide_eq_false h3;have e4:=of_decide_eq_false h4;have e5:=of_decide_eq_false h5;omega
  rw[if_pos hr,if_pos hr]
  by_cases hn:0<=node
  ·have d1:=zT hn;cases g1
   ·by_cases hk:0<=link
    ·have d2:=zT hk;cases g2
     all_goals
      refine goQ e197 zCk 0 ?_;simp only[push_cast,seval,↓kw2,h1,w3,h2,h3,h4,h5];refine AC.pur m1 ?_;refine goW zCk [] 0 ?_;simp only[push_cast,seval,↓kw2,w3];refine AC.pur m2 ?_;refine goW zCk [] 0 ?_;simp only[push_cast,seval,↓kw2,d1,d2];exact⟨_,rfl,zAa rfl (by simp[d1,d2])⟩
    ·have d2:=zF hk;refine goQ e197 zCk 0 ?_;simp only[push_cast,seval,↓kw2,h1,w3,h2,h3,h4,h5];refine AC.pur m1 ?_;refine goW zCk [] 0 ?_;simp only[push_cast,seval,↓kw2,w3];refine AC.pur m2 ?_;refine goW zCk [] 0 ?_;simp only[push_cast,seval,↓kw2,d1,d2];exact⟨_,rfl,zAa rfl (by simp[d1,d2])⟩
   ·skip
    refine goQ e197 zCk 0 ?_;simp only[push_cast,seval,↓kw2,h1,w3,h2,h3,h4,h5];refine AC.pur m1 ?_;refine goW zCk [] 0 ?_;simp only[push_cast,seval,↓kw2,w3];refine AC.pur m2 ?_;refine goW zCk [] 0 ?_;simp only[push_cast,seval,↓kw2,d1];exact⟨_,rfl,zAa rfl (by simp[d1])⟩
  ·have d1:=zF hn
   by_cases hk:0<=link
   ·have d2:=zT hk;cases g2
    all_goals
     refine goQ e197 zCk 0 ?_;simp only[push_cast,seval,↓kw2,h1,w3,h2,h3,h4,h5];refine AC.pur m1 ?_;refine goW zCk [] 0 ?_;simp only[push_cast,seval,↓kw2,w3];refine AC.pur m2 ?_;refine goW zCk [] 0 ?_;simp only[push_cast,seval,↓kw2,d1,d2];exact⟨_,rfl,zAa rfl (by simp[d1,d2])⟩
   ·have d2:=zF hk;refine goQ e197 zCk 0 ?_;simp only[push_cast,seval,↓kw2,h1,w3,h2,h3,h4,h5];refine AC.pur m1 ?_;refine goW zCk [] 0 ?_;simp only[push_cast,seval,↓kw2,w3];refine AC.pur m2 ?_;refine goW zCk [] 0 ?_;simp only[push_cast,seval,↓kw2,d1,d2];exact⟨_,rfl,zAa rfl (by simp[d1,d2])⟩
theorem e128:Ent zP 128 Tryz.f128 [] 2:=.mk Tryz.func128 rfl
theorem equalI{l1 l2:List Int}{s1 s2:AV}(hs1:IsSl s1 (l1.map IA))(hs2:IsSl s2 (l2.map IA))(hl:l1.length<=2^20){H:List AO}{K:AV->List AO->Prop}(hK:K (B (decide (l1=l2))) H):AC zP GG 128 [s1,s2] H K:=by
 have hlen1:=hs1.len un30;have hlen2:=hs2.len un30;rw[zM]at hlen1 hlen2
 by_cases hne:(l1.length:Int)=(l2.length:Int)
 ·have dn:decide ((l1.length:Int)=(l2.length:Int))=true:=zT hne;have hll:l1.length=l2.length:=by omega
  have hidx1:=fun(i:Nat) (hi:i < l1.length) (H:List AO)=>hs1.idx (P:=zP) un30 sz3 (i:=(i:Int)) (by rw[zM]; omega) (by omega) H
  have hidx2:=fun(i:Nat) (hi:i < l2.length) (H:List AO)=>hs2.idx (P:=zP) un30 sz3 (i:=(i:Int)) (by rw[zM]; omega) (by omega) H
  refine goE e128 TOk.nil 0 ?_;simp only[push_cast,seval,↓kw2,hlen1,hlen2,dn];refine FW.loopInv (fun m ts H'=>∃ i:Nat,i+m=l1.length/\decide (l1.drop i=l2.drop i)=decide (l1=l2)/\H'=H/\ts 0=s1/\ts 1=s2/\ts 12=I (l1.length:Int)/\ts 13=I (i:Int)) l1.length
   ⟨0,by omega,rfl,rfl,rfl,rfl,rfl,rfl⟩ ?_
  rintro m ih ts H' ⟨i,hi,hf,rfl,t0,t1,t12,t13⟩
  refine FW.inLoop ?_
  by_cases hlt:i < l1.length
  ·have hd1:decide ((i:Int) < (l1.length:Int))=true:=by simp[hlt]
   have hx:=hidx1 i hlt;have hy:=hidx2 i (by omega);have hgx:=zAj IA l1 0 hlt;have hgy:=zAj IA l2 0 (by omega:i < l2.length);simp only[Int.toNat_natCast]at hx hy;rw[hgx]at hx;rw[hgy]at hy;rw[zBa 0 hlt,zBa 0 (by omega:i < l2.length)]at hf
   generalize l1.getD i 0=x at hx hf
   generalize l2.getD i 0=y at hy hf
   have hcx:=IA_cells x;have hcy:=IA_cells y;have hb1:(0<=(i:Int)/\(i:Int) < ((l1.map IA).length:Int)):=⟨by omega,by rw[zM]; omega⟩;have hb2:(0<=(i:Int)/\(i:Int) < ((l2.map IA).length:Int)):=⟨by omega,by rw[zM]; omega⟩;have hi1:=zAl (n:=(i:Int)+1) (by omega) (by omega)
   by_cases hxy:x=y
   ·have d2:decide (x=y)=true:=zT hxy;have hf2:decide (l1.drop (i+1)=l2.drop (i+1))=decide (l1=l2):=by
     rw[<- hf];exact decide_eq_decide.2 (by rw[hxy]; simp)
    refine goN ?_;simp only[push_cast,seval,↓kw2,t0,t1,t12,t13,hd1,hx,hy,hcx,hcy,d2]
    first
     | refine⟨hb1,hb2,?_⟩
     | refine⟨⟨hb1,rfl⟩,⟨hb2,rfl⟩,?_⟩
    try rw[hi1]
    exact ih (m - 1) (by omega) _ _ ⟨i+1,by omega,hf2,rfl,t0,t1,t12,rfl⟩
   ·have d2:decide (x=y)=false:=zF hxy;have hf2:decide (l1=l2)=false:=by
     rw[<- hf];exact zF (fun e=>hxy (List.cons.inj e).1)
    rw[hf2]at hK;refine goN ?_;simp only[push_cast,seval,↓kw2,t0,t1,t12,t13,hd1,hx,hy,hcx,hcy,d2]
    first
     | refine⟨hb1,hb2,?_⟩
     | refine⟨⟨hb1,rfl⟩,⟨hb2,rfl⟩,?_⟩
    exact⟨_,rfl,hK⟩
  ·have hd1:decide ((i:Int) < (l1.length:Int))=false:=by simp; omega
   rw[List.drop_eq_nil_of_le (by omega),List.drop_eq_nil_of_le (by omega)]at hf;have hf2:decide (l1=l2)=true:=hf.symm.trans (zT rfl);rw[hf2]at hK;refine goN ?_;simp only[push_cast,seval,↓kw2,t12,t13,hd1];exact⟨_,rfl,hK⟩
 ·have dn:decide ((l1.length:Int)=(l2.length:Int))=false:=zF hne;have hf2:decide (l1=l2)=false:=zF fun e=>hne (by rw[e])
  rw[hf2]at hK;refine goE e128 TOk.nil 0 ?_;simp only[push_cast,seval,↓kw2,hlen1,hlen2,dn];exact⟨_,rfl,hK⟩
theorem Wnt.eqS0(p q r p' q' r':Int)(s t u v s' t' u' v':Bool):aEqS zP 48 (WT p q r s t u v) (WT p' q' r' s' t' u' v') =
  some (((p==p'&&(q==q'&&(r==r'&&true)))&&((s==s'&&(t==t'&&(u==u'&&true)))&&(v==v'&&true)))):=by kernel_rfl
theorem Wnt.eqS(a b:Wnt):aEqS zP 48 a.av b.av=some (decide (a=b)):=by
 obtain⟨p,q,r,s,t,u,v⟩:=a;obtain⟨p',q',r',s',t',u',v'⟩:=b;unfold Wnt.av;rw[Wnt.eqS0,Option.some.injEq,Bool.eq_iff_iff,decide_eq_true_iff];simp[and_assoc]
def Jb.same(x y:Jb):Bool:=decide (x.id=y.id)&&decide (x.user=y.user)&&decide (x.cls=y.cls)&&decide (x.w=y.w)&&decide (x.wall=y.wall)&&decide (x.prio=y.prio)&&(x.held==y.held)&&decide (x.st=y.st)&&decide (x.came=y.came)&&decide (x.after=y.after)
theorem e127:Ent zP 127 Tryz.f127 [] 2:=.mk Tryz.func127 rfl
theorem same1_ac{x y:Jb}(hx:x.good)(hy:y.good)(hl:x.after.length<=2^20){H:List AO}{K:AV->List AO->Prop}(hK:∀ l,K (B (x.same y)) (H++l)):AC zP GG 127 [x.av,y.av] H K:=by
 obtain⟨m1,m2,m3⟩:=IsSl.cell hx;obtain⟨n1,n2,n3⟩:=IsSl.cell hy;have hw:=Wnt.eqS x.w y.w;simp only[Wnt.av]at hw;unfold Jb.same at hK;show AC zP GG 127 [JB x.id x.user x.cls x.w x.wall x.prio x.held x.aft x.st x.came,JB y.id y.user y.cls y.w y.wall y.prio y.held y.aft y.st y.came] H K;have hch:(decide (x.id=y.id)=false)\/(decide (x.id=y.id)=true/\decide (x.user=y.user)=false)\/(decide (x.id=y.id)=true/\decide (x.user=y.user)=true/\decide (x.cls=y.cls)=false)\/(decide (x.id=y.id)=true/\decide (x.user=y.user)=true/\decide (x.cls=y.cls)=true/\decide (x.w=y.w)=false)\/(decide (x.id=y.id)=true/\decide (x.user=y.user)=true/\decide (x.cls=y.cls)=true/\decide (x.w=y.w)=true/\decide (x.wall=y.wall)=false)\/(decide (x.id=y.id)=true/\decide (x.user=y.user)=true/\decide (x.cls=y.cls)=true/\decide (x.w=y.w)=true/\decide (x.wall=y.wall)=true/\decide (x.prio=y.prio)=false)\/(decide (x.id=y.id)=true/\decide (x.user=y.user)=true/\decide (x.cls=y.cls)=true/\decide (x.w=y.w)=true/\decide (x.wall=y.wall)=true/\decide (x.prio=y.prio)=true/\(x.held==y.held)=false)\/(decide (x.id=y.id)=true/\decide (x.user=y.user)=true/\decide (x.cls=y.cls)=true/\decide (x.w=y.w)=true/\decide (x.wall=y.wall)=true/\decide (x.prio=y.prio)=true/\(x.held==y.held)=true/\decide (x.st=y.st)=false)\/(decide (x.id=y.id)=true/\decide (x.user=y.user)=true/\decide (x.cls=y.cls)=true/\decide (x.w=y.w)=true/\decide (x.wall=y.wall)=true/\decide (x.prio=y.prio)=true/\(x.held==y.held)=true/\decide (x.st=y.st)=true/\decide (x.came=y.came)=false)\/(decide (x.id=y.id)=true/\decide (x.user=y.user)=true/\decide (x.cls=y.cls)=true/\decide (x.w=y.w)=true/\decide (x.wall=y.wall)=true/\decide (x.prio=y.prio)=true/\(x.held==y.held)=true/\decide (x.st=y.st)=true/\decide (x.came=y.came)=true):=by
  generalize decide (x.id=y.id)=qh1
  generalize decide (x.user=y.user)=qh2
  generalize decide (x.cls=y.cls)=qh3
  generalize decide (x.w=y.w)=qh4
  generalize decide (x.wall=y.wall)=qh5
  generalize decide (x.prio=y.prio)=qh6
  generalize (x.held==y.held)=qh7
  generalize decide (x.st=y.st)=qh8
  generalize decide (x.came=y.came)=qh9
  cases qh1 <;> cases qh2 <;> cases qh3 <;> cases qh4 <;> cases qh5 <;> cases qh6 <;> cases qh7 <;> cases qh8 <;> cases qh9 <;> simp
 rcases hch with h1 | ⟨h1,h2⟩ | ⟨h1,h2,h3⟩ | ⟨h1,h2,h3,h4⟩ | ⟨h1,h2,h3,h4,h5⟩ | ⟨h1,h2,h3,h4,h5,h6⟩ | ⟨h1,h2,h3,h4,h5,h6,h7⟩ | ⟨h1,h2,h3,h4,h5,h6,h7,h8⟩ | ⟨h1,h2,h3,h4,h5,h6,h7,h8,h9⟩ | ⟨h1,h2,h3,h4,h5,h6,h7,h8,h9⟩
 ·skip
  simp only[h1,Bool.true_and,Bool.false_and,Bool.and_false,Bool.and_true]at hK;refine goE e127 TOk.nil 0 ?_;simp only[push_cast,seval,↓kw2,m1,m2,m3,n1,n2,n3,zAd,getA,zAe,setA,zAb,h1,hw,zAn];exact⟨_,rfl,hK _⟩
 ·skip
  simp only[h1,h2,Bool.true_and,Bool.false_and,Bool.and_false,Bool.and_true]at hK;refine goE e127 TOk.nil 0 ?_;simp only[push_cast,seval,↓kw2,m1,m2,m3,n1,n2,n3,zAd,getA,zAe,setA,zAb,h1,h2,hw,zAn];exact⟨_,rfl,hK _⟩
 ·skip
  simp only[h1,h2,h3,Bool.true_and,Bool.false_and,Bool.and_false,Bool.and_true]at hK;refine goE e127 TOk.nil 0 ?_;simp only[push_cast,seval,↓kw2,m1,m2,m3,n1,n2,n3,zAd,getA,zAe,setA,zAb,h1,h2,h3,hw,zAn];exact⟨_,rfl,hK _⟩
 ·skip
  rw[h4]at hw;simp only[h1,h2,h3,h4,Bool.true_and,Bool.false_and,Bool.and_false,Bool.and_true]at hK;refine goE e127 TOk.nil 0 ?_;simp only[push_cast,seval,↓kw2,m1,m2,m3,n1,n2,n3,zAd,getA,zAe,setA,zAb,h1,h2,h3,h4,hw,zAn];exact⟨_,rfl,hK _⟩
 ·skip
  rw[h4]at hw;simp only[h1,h2,h3,h4,h5,Bool.true_and,Bool.false_and,Bool.and_false,Bool.and_true]at hK;refine goE e127 TOk.nil 0 ?_;simp only[push_cast,seval,↓kw2,m1,m2,m3,n1,n2,n3,zAd,getA,zAe,setA,zAb,h1,h2,h3,h4,h5,hw,zAn];exact⟨_,rfl,hK _⟩
 ·skip
  rw[h4]at hw;simp only[h1,h2,h3,h4,h5,h6,Bool.true_and,Bool.false_and,Bool.and_false,Bool.and_true]at hK;refine goE e127 TOk.nil 0 ?_;simp only[push_cast,seval,↓kw2,m1,m2,m3,n1,n2,n3,zAd,getA,zAe,setA,zAb,h1,h2,h3,h4,h5,h6,hw,zAn];exact⟨_,rfl,hK _⟩
 ·skip
  rw[h4]at hw;simp only[h1,h2,h3,h4,h5,h6,h7,Bool.true_and,Bool.false_and,Bool.and_false,Bool.and_true]at hK;refine goE e127 TOk.nil 0 ?_;simp only[push_cast,seval,↓kw2,m1,m2,m3,n1,n2,n3,zAd,getA,zAe,setA,zAb,h1,h2,h3,h4,h5,h6,h7,hw,zAn];exact⟨_,rfl,hK _⟩
 ·skip
  rw[h4]at hw;simp only[h1,h2,h3,h4,h5,h6,h7,h8,Bool.true_and,Bool.false_and,Bool.and_false,Bool.and_true]at hK;refine goE e127 TOk.nil 0 ?_;simp only[push_cast,seval,↓kw2,m1,m2,m3,n1,n2,n3,zAd,getA,zAe,setA,zAb,h1,h2,h3,h4,h5,h6,h7,h8,hw,zAn];exact⟨_,rfl,hK _⟩
 ·skip
  rw[h4]at hw;simp only[h1,h2,h3,h4,h5,h6,h7,h8,h9,Bool.true_and,Bool.false_and,Bool.and_false,Bool.and_true]at hK;refine goE e127 TOk.nil 0 ?_;simp only[push_cast,seval,↓kw2,m1,m2,m3,n1,n2,n3,zAd,getA,zAe,setA,zAb,h1,h2,h3,h4,h5,h6,h7,h8,h9,hw,zAn];exact⟨_,rfl,hK _⟩
 ·skip
  rw[h4]at hw;simp only[h1,h2,h3,h4,h5,h6,h7,h8,h9,Bool.true_and,Bool.false_and,Bool.and_false,Bool.and_true]at hK;refine goE e127 TOk.nil 0 ?_;simp only[push_cast,seval,↓kw2,m1,m2,m3,n1,n2,n3,zAd,getA,zAe,setA,zAb,h1,h2,h3,h4,h5,h6,h7,h8,h9,hw,zAn];refine equalI hx hy hl ?_;refine goN ?_;simp only[push_cast,seval,↓kw2,m1,m2,m3,n1,n2,n3,zAd,getA,zAe,setA,zAb];exact⟨_,rfl,hK _⟩
def sameJ:List Jb->List Jb->Bool
 | [],[]=>true
 | x::l,y::m=>x.same y&&sameJ l m
 | _,_=>false
theorem sameJ_cons(x y:Jb)(l m:List Jb):sameJ (x::l) (y::m)=(x.same y&&sameJ l m):=rfl
theorem sameJ_len:∀ {l m:List Jb},¬l.length=m.length->sameJ l m=false
 | [],[],h=>absurd rfl h
 | [],y::m,_=>rfl
 | x::l,[],_=>rfl
 | x::l,y::m,h=>by rw[sameJ_cons,sameJ_len (fun e=>h (by simp[e])),Bool.and_false]
theorem e126:Ent zP 126 Tryz.f126 [] 3:=.mk Tryz.func126 rfl
theorem equalF_ac{l1 l2:List Jb}{s1 s2:AV}(hs1:JobsS s1 l1)(hs2:JobsS s2 l2)(hl:l1.length<=2^20)(ha:∀ j∈l1,j.after.length<=2^20){H:List AO}{K:AV->List AO->Prop}(hK:∀ l,K (B (sameJ l1 l2)) (H++l)) :
  AC zP GG 126 [s1,s2,.fn 127 [] []] H K:=by
 have hlen1:=hs1.1.len un27;have hlen2:=hs2.1.len un27;rw[zM]at hlen1 hlen2
 by_cases hne:(l1.length:Int)=(l2.length:Int)
 ·have dn:decide ((l1.length:Int)=(l2.length:Int))=true:=zT hne;have hll:l1.length=l2.length:=by omega
  have hidx1:=fun(i:Nat) (hi:i < l1.length) (H:List AO)=>hs1.1.idx (P:=zP) un27 sz50 (i:=(i:Int)) (by rw[zM]; omega) (by omega) H
  have hidx2:=fun(i:Nat) (hi:i < l2.length) (H:List AO)=>hs2.1.idx (P:=zP) un27 sz50 (i:=(i:Int)) (by rw[zM]; omega) (by omega) H
  refine goE e126 TOk.nil 0 ?_;simp only[push_cast,seval,↓kw2,hlen1,hlen2,dn];refine FW.loopInv (fun m ts H'=>∃(i:Nat) (X:List AO),i+m=l1.length/\sameJ (l1.drop i) (l2.drop i)=sameJ l1 l2/\H'=H++X/\ts 1=s2/\ts 2=.fn 127 [] []/\ts 15=s1/\ts 16=I (l1.length:Int)/\ts 17=I (i:Int)) l1.length
   ⟨0,[],by omega,rfl,by simp,rfl,rfl,rfl,rfl,rfl⟩ ?_
  rintro m ih ts H' ⟨i,X,hi,hf,rfl,t1,t2,t15,t16,t17⟩
  refine FW.inLoop ?_
  by_cases hlt:i < l1.length
  ·have hd1:decide ((i:Int) < (l1.length:Int))=true:=by simp[hlt]
   have hx:=hidx1 i hlt;have hy:=hidx2 i (by omega);have hgx:=zAj Jb.av l1 default hlt;have hgy:=zAj Jb.av l2 default (by omega:i < l2.length);simp only[Int.toNat_natCast]at hx hy;rw[hgx]at hx;rw[hgy]at hy;rw[zBa default hlt,zBa default (by omega:i < l2.length),sameJ_cons]at hf;have g1:=hs1.get i;have g2:=hs2.get i;have ha1:=ha (l1.getD i default) (by simp[List.getD,hlt])
   generalize l1.getD i default=x at hx hf g1 ha1
   generalize l2.getD i default=y at hy hf g2
   have hcx:=Jb.cells x;have hcy:=Jb.cells y;obtain⟨m1,m2,m3⟩:=IsSl.cell g1;obtain⟨n1,n2,n3⟩:=IsSl.cell g2;have hb1:(0<=(i:Int)/\(i:Int) < ((l1.map Jb.av).length:Int)):=⟨by omega,by rw[zM]; omega⟩;have hb2:(0<=(i:Int)/\(i:Int) < ((l2.map Jb.av).length:Int)):=⟨by omega,by rw[zM]; omega⟩;have hi1:=zAl (n:=(i:Int)+1) (by omega) (by omega);refine goN ?_;simp only[push_cast,seval,↓kw2,t1,t2,t15,t16,t17,hd1,hx,hy,hcx,hcy,m1,m2,m3,n1,n2,n3,zAd,getA,zAe,setA,zAb];refine⟨hb1,hb2,?_⟩;refine same1_ac g1 g2 ha1 ?_
   intro X2
   cases hsm:x.same y
   ·rw[hsm,Bool.false_and]at hf;rw[<- hf]at hK;refine goN ?_;simp only[push_cast,seval,↓kw2];exact⟨_,rfl,hK _⟩
   ·rw[hsm,Bool.true_and]at hf;refine goN ?_;simp only[push_cast,seval,↓kw2,t17];refine goN ?_;simp only[push_cast,seval,↓kw2,t17,hi1];exact ih (m - 1) (by omega) _ _ ⟨i+1,_,by omega,hf,rfl,t1,t2,t15,t16,rfl⟩
  ·have hd1:decide ((i:Int) < (l1.length:Int))=false:=by simp; omega
   rw[List.drop_eq_nil_of_le (by omega),List.drop_eq_nil_of_le (by omega)]at hf;have hf2:sameJ l1 l2=true:=hf.symm;rw[hf2]at hK;refine goN ?_;simp only[push_cast,seval,↓kw2,t16,t17,hd1];exact⟨_,rfl,hK _⟩
 ·have dn:decide ((l1.length:Int)=(l2.length:Int))=false:=zF hne;rw[sameJ_len (by omega)]at hK;refine goE e126 TOk.nil 0 ?_;simp only[push_cast,seval,↓kw2,hlen1,hlen2,dn];exact⟨_,rfl,by simpa using hK []⟩
theorem e67:Ent zP 67 Tryz.f67 [] 2:=.mk Tryz.func67 rfl
theorem same_pur{l1 l2:List Jb}{s1 s2:AV}(hs1:JobsS s1 l1)(hs2:JobsS s2 l2)(hl:l1.length<=2^20)(ha:∀ j∈l1,j.after.length<=2^20):Pur zP GG 67 [s1,s2] (B (sameJ l1 l2)):=by
 have h1:=hs1.pur;have h2:=hs2.pur;refine goQ e67 TOk.nil 0 ?_ (by simp[AV.purL,AV.pur,h1,h2]);simp only[push_cast,seval,↓kw2];refine equalF_ac hs1 hs2 hl ha ?_
 intro X
 refine goN ?_;simp only[push_cast,seval,↓kw2];exact⟨_,rfl,zAa rfl rfl⟩
structure Sta where
 c:Cfg
 cs:AV
 now:Int
 next:Int
 jobs:List Jb
 js:AV
 parts:List Prt
 ps:AV
 keeps:List Kep
 ks:AV
 down:List Int
 ds:AV
 shut:List Int
 hs:AV
 cut:List Int
 us:AV
abbrev ST(a b c p q r t:Int)(cs:AV)(now next:Int)(js ps ks ds hs us:AV):AV:=.agg [I a,I b,I c,I p,I q,I r,I t,cs,I now,I next,js,ps,ks,ds,hs,us]
def Sta.av(s:Sta):AV:=ST s.c.a s.c.b s.c.c s.c.boot s.c.free s.c.tries s.c.age s.cs s.now s.next s.js s.ps s.ks s.ds s.hs s.us
structure Sta.good(s:Sta):Prop where
 cs:IsSl s.cs (s.c.cls.map Cls.av)
 js:JobsS s.js s.jobs
 ps:IsSl s.ps (s.parts.map Prt.av)
 ks:IsSl s.ks (s.keeps.map Kep.av)
 ds:IsSl s.ds (s.down.map IA)
 hs:IsSl s.hs (s.shut.map IA)
 us:IsSl s.us (s.cut.map IA)
theorem Sta.good.cell{s:Sta}(h:s.good):((s.cs.isCell=true/\s.cs.isEl=true/\s.cs.cells=[s.cs])/\(s.js.isCell=true/\s.js.isEl=true/\s.js.cells=[s.js]))/\((s.ps.isCell=true/\s.ps.isEl=true/\s.ps.cells=[s.ps])/\(s.ks.isCell=true/\s.ks.isEl=true/\s.ks.cells=[s.ks])) /\
  (s.ds.isCell=true/\s.ds.isEl=true/\s.ds.cells=[s.ds])/\(s.hs.isCell=true/\s.hs.isEl=true/\s.hs.cells=[s.hs])/\(s.us.isCell=true/\s.us.isEl=true/\s.us.cells=[s.us]) :=
 ⟨⟨h.cs.cell,h.js.1.cell⟩,⟨h.ps.cell,h.ks.cell⟩,h.ds.cell,h.hs.cell,h.us.cell⟩
theorem Sta.good.purs{s:Sta}(h:s.good):s.cs.pur=true/\s.js.pur=true/\s.ps.pur=true/\s.ks.pur=true/\s.ds.pur=true/\s.hs.pur=true/\s.us.pur=true :=
 ⟨h.cs.pur (zAi Cls.av _ (fun _=>rfl)),h.js.pur,h.ps.pur (zAi Prt.av _ (fun _=>rfl)),h.ks.pur (zAi Kep.av _ (fun _=>rfl)),h.ds.pur (zAi IA _ (fun _=>rfl)),h.hs.pur (zAi IA _ (fun _=>rfl)),h.us.pur (zAi IA _ (fun _=>rfl))⟩
def Sta.config(s:Sta):Bool:=decide (s.c.chk=0)&&decide (0<=s.now)&&decide (s.now<=1099511627776)&&decide (1<=s.next)&&decide (s.next<=2147483647)
theorem e34:Ent zP 34 Tryz.f34 [] 1:=.mk Tryz.func34 rfl
theorem config_pur{s:Sta}(h:s.good):Pur zP GG 34 [s.av] (B s.config):=by
 have hZ:=h.cell;obtain⟨⟨⟨a1,a2,a3⟩,b1,b2,b3⟩,⟨⟨c1,c2,c3⟩,d1,d2,d3⟩,⟨e1,e2,e3⟩,⟨f1,f2,f3⟩,g1,g2,g3⟩:=h.cell;obtain⟨p1,p2,p3,p4,p5,p6,p7⟩:=h.purs;have hc:=pchk_pur s.c h.cs;unfold Sta.config;show Pur zP GG 34 [ST s.c.a s.c.b s.c.c s.c.boot s.c.free s.c.tries s.c.age s.cs s.now s.next s.js s.ps s.ks s.ds s.hs s.us] _;have hch:(decide (s.c.chk=0)=false)\/(decide (s.c.chk=0)=true/\decide (0<=s.now)=false)\/(decide (s.c.chk=0)=true/\decide (0<=s.now)=true/\decide (s.now<=1099511627776)=false)\/(decide (s.c.chk=0)=true/\decide (0<=s.now)=true/\decide (s.now<=1099511627776)=true/\decide (1<=s.next)=false)\/(decide (s.c.chk=0)=true/\decide (0<=s.now)=true/\decide (s.now<=1099511627776)=true/\decide (1<=s.next)=true/\decide (s.next<=2147483647)=false)\/(decide (s.c.chk=0)=true/\decide (0<=s.now)=true/\decide (s.now<=1099511627776)=true/\decide (1<=s.next)=true/\decide (s.next<=2147483647)=true):=by
  generalize decide (s.c.chk=0)=qh1
  generalize decide (0<=s.now)=qh2
  generalize decide (s.now<=1099511627776)=qh3
  generalize decide (1<=s.next)=qh4
  generalize decide (s.next<=2147483647)=qh5
  cases qh1 <;> cases qh2 <;> cases qh3 <;> cases qh4 <;> cases qh5 <;> simp
 rcases hch with h1 | ⟨h1,h2⟩ | ⟨h1,h2,h3⟩ | ⟨h1,h2,h3,h4⟩ | ⟨h1,h2,h3,h4,h5⟩ | ⟨h1,h2,h3,h4,h5⟩
 ·skip
  refine goQ e34 TOk.nil 0 ?_ (by simp[AV.purL,AV.pur,p1,p2,p3,p4,p5,p6,p7]);simp only[push_cast,seval,↓kw2,hZ];refine AC.pur hc ?_;refine goN ?_;simp only[push_cast,seval,↓kw2,hZ,h1];exact⟨_,rfl,zAa rfl (by simp[h1])⟩
 ·skip
  refine goQ e34 TOk.nil 0 ?_ (by simp[AV.purL,AV.pur,p1,p2,p3,p4,p5,p6,p7]);simp only[push_cast,seval,↓kw2,hZ];refine AC.pur hc ?_;refine goN ?_;simp only[push_cast,seval,↓kw2,hZ,h1,h2];exact⟨_,rfl,zAa rfl (by simp[h1,h2])⟩
 ·skip
  refine goQ e34 TOk.nil 0 ?_ (by simp[AV.purL,AV.pur,p1,p2,p3,p4,p5,p6,p7]);simp only[push_cast,seval,↓kw2,hZ];refine AC.pur hc ?_;refine goN ?_;simp only[push_cast,seval,↓kw2,hZ,h1,h2,h3];exact⟨_,rfl,zAa rfl (by simp[h1,h2,h3])⟩
 ·skip
  refine goQ e34 TOk.nil 0 ?_ (by simp[AV.purL,AV.pur,p1,p2,p3,p4,p5,p6,p7]);simp only[push_cast,seval,↓kw2,hZ];refine AC.pur hc ?_;refine goN ?_;simp only[push_cast,seval,↓kw2,hZ,h1,h2,h3,h4];exact⟨_,rfl,zAa rfl (by simp[h1,h2,h3,h4])⟩
 ·skip
  refine goQ e34 TOk.nil 0 ?_ (by simp[AV.purL,AV.pur,p1,p2,p3,p4,p5,p6,p7]);simp only[push_cast,seval,↓kw2,hZ];refine AC.pur hc ?_;refine goN ?_;simp only[push_cast,seval,↓kw2,hZ,h1,h2,h3,h4,h5];exact⟨_,rfl,zAa rfl (by simp[h1,h2,h3,h4,h5])⟩
 ·skip
  refine goQ e34 TOk.nil 0 ?_ (by simp[AV.purL,AV.pur,p1,p2,p3,p4,p5,p6,p7]);simp only[push_cast,seval,↓kw2,hZ];refine AC.pur hc ?_;refine goN ?_;simp only[push_cast,seval,↓kw2,hZ,h1,h2,h3,h4,h5];exact⟨_,rfl,zAa rfl (by simp[h1,h2,h3,h4,h5])⟩
def Sta.meet(s:Sta)(X Y:Plc):Bool:=decide (X.ok s.c.a s.c.b s.c.c/\Y.ok s.c.a s.c.b s.c.c)&&!zEu s.c.a s.c.b s.c.c X Y
theorem e74:Ent zP 74 Tryz.f74 [] 3:=.mk Tryz.func74 rfl
theorem meetS_pur{s:Sta}(h:s.good)(X Y:Plc):Pur zP GG 74 [s.av,X.av,Y.av] (B (s.meet X Y)):=by
 have hZ:=h.cell;obtain⟨⟨⟨a1,a2,a3⟩,b1,b2,b3⟩,⟨⟨c1,c2,c3⟩,d1,d2,d3⟩,⟨e1,e2,e3⟩,⟨f1,f2,f3⟩,g1,g2,g3⟩:=h.cell;obtain⟨p1,p2,p3,p4,p5,p6,p7⟩:=h.purs;have hA:=apart_pur s.c.a s.c.b s.c.c X Y;simp only[Plc.av]at hA;unfold Sta.meet;show Pur zP GG 74 [ST s.c.a s.c.b s.c.c s.c.boot s.c.free s.c.tries s.c.age s.cs s.now s.next s.js s.ps s.ks s.ds s.hs s.us,PL X.x X.y X.z X.p X.q X.r X.s X.t X.u,PL Y.x Y.y Y.z Y.p Y.q Y.r Y.s Y.t Y.u] _
 by_cases hX:X.ok s.c.a s.c.b s.c.c/\Y.ok s.c.a s.c.b s.c.c
 ·rw[if_pos hX,show apE s.c.a s.c.b s.c.c X Y=0 by rw[apE,if_pos hX.1]; exact ok_pchk hX.2]at hA;rw[zT hX,Bool.true_and];refine goQ e74 TOk.nil 0 ?_ (by simp[AV.purL,AV.pur,p1,p2,p3,p4,p5,p6,p7]);simp only[push_cast,seval,↓kw2,hZ];refine AC.pur hA ?_;refine goN ?_;simp only[push_cast,seval,↓kw2];exact⟨_,rfl,zAa rfl rfl⟩
 ·have hE:¬apE s.c.a s.c.b s.c.c X Y=0:=by
   unfold apE
   by_cases h1:X.ok s.c.a s.c.b s.c.c
   ·rw[if_pos h1]; exact nok_pchk fun h2=>hX ⟨h1,h2⟩
   ·rw[if_neg h1]; exact nok_pchk h1
  rw[if_neg hX]at hA;rw[zF hX,Bool.false_and];refine goQ e74 TOk.nil 0 ?_ (by simp[AV.purL,AV.pur,p1,p2,p3,p4,p5,p6,p7]);simp only[push_cast,seval,↓kw2,hZ];refine AC.pur hA ?_;refine goN ?_;simp only[push_cast,seval,↓kw2,hE];exact⟨_,rfl,zAa rfl rfl⟩
def keptP(x y z p q r:Int):Plc:=⟨x,y,z,p,q,r,false,false,false⟩
theorem e139:Ent zP 139 Tryz.f139 [] 1:=.mk Tryz.func139 rfl
theorem kept_pur(x y z p q r:Int):Pur zP GG 139 [.agg [I x,I y,I z,I p,I q,I r]] (keptP x y z p q r).av:=by
 refine goQ e139 TOk.nil 0 ?_;simp only[push_cast,seval,↓kw2];exact⟨_,rfl,zAa rfl rfl⟩
def great18(l:List Jb):Bool:=anyN (fun i=>decide (100 < ((l.getD i default).after.length:Int))) (min 100 l.length) 0||decide (100 < (l.length:Int))
theorem e22:Ent zP 22 Tryz.f22 [] 1:=.mk Tryz.func22 rfl
theorem great18_pur{s:AV}{l:List Jb}(hs:JobsS s l):Pur zP GG 22 [s] (B (great18 l)):=by
 have hpu:=hs.pur;have hlen:=hs.1.len un27;rw[zM]at hlen;obtain⟨k1,k2,k3⟩:=hs.1.cell;have hidx:=fun(i:Nat) (hi:i < l.length) (H:List AO)=>hs.1.idx (P:=zP) un27 sz50 (i:=(i:Int)) (by rw[zM]; omega) (by omega) H
 unfold great18;obtain⟨n,hn⟩:∃ n,n=min 100 l.length:=⟨_,rfl⟩;rw[<- hn];refine goQ e22 TOk.nil 0 ?_ (by simp[AV.purL,AV.pur,hpu]);simp only[push_cast,seval,↓kw2,k1,k2,k3,hlen];refine FW.loopInv (fun m ts H=>∃ i:Nat,i+m=n/\anyN (fun i=>decide (100 < ((l.getD i default).after.length:Int))) m i=anyN (fun i=>decide (100 < ((l.getD i default).after.length:Int))) n 0/\ts 0=s/\ts 3=I (i:Int)) n
  ⟨0,by omega,rfl,rfl,rfl⟩ ?_
 rintro m ih ts H ⟨i,hi,hf,t0,t3⟩
 refine FW.inLoop ?_
 by_cases hlt:i < n
 ·have hil:i < l.length:=by omega
  have hd1:decide ((i:Int) < (l.length:Int))=true:=by simp[hil]
  have hd2:decide ((i:Int) < 100)=true:=zT (by omega);have hx:=hidx i hil;have hgy:=zAj Jb.av l default hil;simp only[Int.toNat_natCast]at hx;rw[hgy]at hx;obtain⟨m,rfl⟩:∃ m',m=m'+1:=⟨m - 1,by omega⟩;have hfs:anyN (fun i=>decide (100 < ((l.getD i default).after.length:Int))) (m+1) i=(decide (100 < ((l.getD i default).after.length:Int))||anyN (fun i=>decide (100 < ((l.getD i default).after.length:Int))) m (i+1)):=rfl;rw[hfs]at hf;have hg:=hs.get i
  generalize l.getD i default=j at hx hf hg
  have hcx:=Jb.cells j;obtain⟨m1,m2,m3⟩:=IsSl.cell hg;have hla:=IsSl.len hg un30;rw[zM]at hla;have hbb:(0<=(i:Int)/\(i:Int) < ((l.map Jb.av).length:Int)):=⟨by omega,by rw[zM]; omega⟩;have hi1:=zAl (n:=(i:Int)+1) (by omega) (by omega)
  by_cases h100:100 < (j.after.length:Int)
  ·have d3:=zT h100;rw[d3,Bool.true_or]at hf;refine goN ?_;simp only[push_cast,seval,↓kw2,t0,t3,hlen,hd1,hd2,hx,hcx,m1,m2,m3,hla,d3];refine⟨hbb,?_⟩;exact⟨_,rfl,zAa rfl (by rw[<- hf]; rfl)⟩
  ·have d3:=zF h100;rw[d3,Bool.false_or]at hf;refine goN ?_;simp only[push_cast,seval,↓kw2,t0,t3,hlen,hd1,hd2,hx,hcx,m1,m2,m3,hla,d3,hi1];refine⟨hbb,?_⟩;exact ih m (by omega) _ _ ⟨i+1,by omega,hf,t0,rfl⟩
 ·have hm:m=0:=by omega
  subst hm;have hf2:anyN (fun i=>decide (100 < ((l.getD i default).after.length:Int))) n 0=false:=hf.symm;rw[hf2,Bool.false_or]
  by_cases hil:i < l.length
  ·have hd1:decide ((i:Int) < (l.length:Int))=true:=by simp[hil]
   have hd2:decide ((i:Int) < 100)=false:=zF (by omega);refine goN ?_;simp only[push_cast,seval,↓kw2,t0,t3,hlen,hd1,hd2];exact⟨_,rfl,zAa rfl rfl⟩
  ·have hd1:decide ((i:Int) < (l.length:Int))=false:=zF (by omega);refine goN ?_;simp only[push_cast,seval,↓kw2,t0,t3,hlen,hd1];exact⟨_,rfl,zAa rfl rfl⟩
structure Sta.lim(s:Sta):Prop where
 jl:s.jobs.length<=2^20
 pl:s.parts.length<=2^20
 kl:s.keeps.length<=2^20
 dl:s.down.length<=2^20
 hl:s.shut.length<=2^20
 ul:s.cut.length<=2^20
theorem zEm{l:List Jb}{id:Int}(h:¬findN l id < 0):0<=findN l id/\(findN l id).toNat < l.length/\(l.getD (findN l id).toNat default).id=id:=by
 unfold findN at *;obtain⟨j,h1,h2,h3,h4,_⟩:=firstN_yes (pr:=fun i=>decide ((l.getD i default).id=id)) (n:=l.length) (i:=0) (fun e=>h (by rw[e]; decide));rw[h3];exact⟨by omega,by omega,by simpa using h4⟩
def Sta.jobOf(s:Sta)(p:Prt):Jb:=if findN s.jobs p.job < 0 then default else s.jobs.getD (findN s.jobs p.job).toNat default
theorem Sta.jobOf_good{s:Sta}(h:s.good)(p:Prt):(s.jobOf p).good:=by
 unfold Sta.jobOf
 split
 ·exact Jb.good_default
 ·exact h.js.get _
def Sta.isJob(s:Sta)(p:Prt):Bool:=decide (0<=findN s.jobs p.job)
theorem e130:Ent zP 130 Tryz.f130 [] 2:=.mk Tryz.func130 rfl
theorem jobS_pur{s:Sta}(h:s.good)(hl:s.lim)(p:Prt):Pur zP GG 130 [s.av,p.av] (.tup [(s.jobOf p).av,B (s.isJob p)]):=by
 have hZ:=h.cell;obtain⟨⟨⟨a1,a2,a3⟩,b1,b2,b3⟩,⟨⟨c1,c2,c3⟩,d1,d2,d3⟩,⟨e1,e2,e3⟩,⟨f1,f2,f3⟩,g1,g2,g3⟩:=h.cell;obtain⟨p1,p2,p3,p4,p5,p6,p7⟩:=h.purs;have hf:=zFc h.js hl.jl p.job;have hpj:=Jb.pur (s.jobOf_good h p);unfold Sta.isJob;show Pur zP GG 130 [ST s.c.a s.c.b s.c.c s.c.boot s.c.free s.c.tries s.c.age s.cs s.now s.next s.js s.ps s.ks s.ds s.hs s.us,PA p.job p.pl p.ph p.tries p.since] _
 by_cases hn:findN s.jobs p.job < 0
 ·rw[if_pos hn,if_pos hn]at hf;rw[zF (by omega)];have hjo:s.jobOf p=default:=by rw[Sta.jobOf,if_pos hn]
  rw[hjo];refine goQ e130 TOk.nil 0 ?_ (by simp[AV.purL,AV.pur,p1,p2,p3,p4,p5,p6,p7]);simp only[push_cast,seval,↓kw2,hZ];refine AC.pur hf ?_;refine goN ?_;simp only[push_cast,seval,↓kw2,hZ];exact⟨_,rfl,zAa rfl rfl⟩
 ·rw[if_neg hn,if_neg hn]at hf;obtain⟨h0,h1,_⟩:=zEm hn;rw[zT h0];have hjo:s.jobOf p=s.jobs.getD (findN s.jobs p.job).toNat default:=by rw[Sta.jobOf,if_neg hn]
  have hx:=h.js.1.idx (P:=zP) un27 sz50 (i:=findN s.jobs p.job) (by rw[zM]; omega) h0;have hgx:=zAj Jb.av s.jobs default h1;rw[hgx,<- hjo]at hx;have hg:=s.jobOf_good h p
  generalize s.jobOf p=j at hx hpj hg
  have hcx:=Jb.cells j;obtain⟨m1,m2,m3⟩:=IsSl.cell hg;have hbb:(0<=findN s.jobs p.job/\findN s.jobs p.job < ((s.jobs.map Jb.av).length:Int)):=⟨h0,by rw[zM]; omega⟩;simp only[Jb.av,AV.pur,AV.purL]at hpj;refine goQ e130 TOk.nil 0 ?_ (by simp[AV.purL,AV.pur,p1,p2,p3,p4,p5,p6,p7]);simp only[push_cast,seval,↓kw2,hZ];refine AC.pur hf ?_;refine goN ?_;simp only[push_cast,seval,↓kw2,hZ,hx,hcx,m1,m2,m3];refine⟨hbb,?_⟩;exact⟨_,rfl,zAa (by simpa[Jb.av,AV.pur,AV.purL]using hpj) rfl⟩
def Sta.ends(s:Sta)(p:Prt):Int:=p.since+(if p.ph=1 then s.c.boot+(s.jobOf p).wall+s.c.free else if p.ph=2 then (s.jobOf p).wall+s.c.free else s.c.free)
theorem an1:IntKind.u8.wrap ((BitVec.ofInt IntKind.u8.bits 1 &&& BitVec.ofInt IntKind.u8.bits 3).toNat:Int)=1:=by decide
theorem an2:IntKind.u8.wrap ((BitVec.ofInt IntKind.u8.bits 2 &&& BitVec.ofInt IntKind.u8.bits 3).toNat:Int)=2:=by decide
theorem an3:IntKind.u8.wrap ((BitVec.ofInt IntKind.u8.bits 3 &&& BitVec.ofInt IntKind.u8.bits 3).toNat:Int)=3:=by decide
theorem e132:Ent zP 132 Tryz.f132 [] 2:=.mk Tryz.func132 rfl
theorem endsS_pur{s:Sta}(h:s.good)(hl:s.lim)(p:Prt)(hph:p.ph=1\/p.ph=2\/p.ph=3)(hb:0<=s.c.boot/\s.c.boot<=1048576)(hfr:0<=s.c.free/\s.c.free<=1048576)(hw:0<=(s.jobOf p).wall/\(s.jobOf p).wall<=1048576)(hsi:0<=p.since/\p.since<=1099511627776) :
  Pur zP GG 132 [s.av,p.av] (I (s.ends p)):=by
 have hZ:=h.cell;obtain⟨⟨⟨a1,a2,a3⟩,b1,b2,b3⟩,⟨⟨c1,c2,c3⟩,d1,d2,d3⟩,⟨e1,e2,e3⟩,⟨f1,f2,f3⟩,g1,g2,g3⟩:=h.cell;obtain⟨p1,p2,p3,p4,p5,p6,p7⟩:=h.purs;have hj:=jobS_pur h hl p;have hg:=s.jobOf_good h p;unfold Sta.ends;simp only[Sta.av,Prt.av]at hj
 generalize s.jobOf p=j at hj hg hw
 obtain⟨m1,m2,m3⟩:=IsSl.cell hg;simp only[Jb.av]at hj;have w1:=zAl (n:=s.c.boot+j.wall) (by omega) (by omega);have w2:=zAl (n:=s.c.boot+j.wall+s.c.free) (by omega) (by omega);have w3:=zAl (n:=j.wall+s.c.free) (by omega) (by omega);have w4:=zAl (n:=p.since+(s.c.boot+j.wall+s.c.free)) (by omega) (by omega);have w5:=zAl (n:=p.since+(j.wall+s.c.free)) (by omega) (by omega);have w6:=zAl (n:=p.since+s.c.free) (by omega) (by omega);show Pur zP GG 132 [ST s.c.a s.c.b s.c.c s.c.boot s.c.free s.c.tries s.c.age s.cs s.now s.next s.js s.ps s.ks s.ds s.hs s.us,PA p.job p.pl p.ph p.tries p.since] _
 rcases hph with hp | hp | hp
 ·rw[hp]at hj ⊢;rw[if_pos rfl];refine goQ e132 TOk.nil 0 ?_ (by simp[AV.purL,AV.pur,p1,p2,p3,p4,p5,p6,p7]);simp only[push_cast,seval,↓kw2,hZ];refine AC.pur hj ?_;refine goN ?_;simp only[push_cast,seval,↓kw2,hZ,m1,m2,m3,w1,w2,w3,w4,w5,w6,an1]
  first
   | exact⟨_,rfl,zAa rfl rfl⟩
   | exact⟨by decide,_,rfl,zAa rfl rfl⟩
 ·rw[hp]at hj ⊢;rw[if_neg (by decide),if_pos rfl];refine goQ e132 TOk.nil 0 ?_ (by simp[AV.purL,AV.pur,p1,p2,p3,p4,p5,p6,p7]);simp only[push_cast,seval,↓kw2,hZ];refine AC.pur hj ?_;refine goN ?_;simp only[push_cast,seval,↓kw2,hZ,m1,m2,m3,w1,w2,w3,w4,w5,w6,an2]
  first
   | exact⟨_,rfl,zAa rfl rfl⟩
   | exact⟨by decide,_,rfl,zAa rfl rfl⟩
 ·rw[hp]at hj ⊢;rw[if_neg (by decide),if_neg (by decide)];refine goQ e132 TOk.nil 0 ?_ (by simp[AV.purL,AV.pur,p1,p2,p3,p4,p5,p6,p7]);simp only[push_cast,seval,↓kw2,hZ];refine AC.pur hj ?_;refine goN ?_;simp only[push_cast,seval,↓kw2,hZ,m1,m2,m3,w1,w2,w3,w4,w5,w6,an3]
  first
   | exact⟨_,rfl,zAa rfl rfl⟩
   | exact⟨by decide,_,rfl,zAa rfl rfl⟩
def Sta.great(s:Sta):Bool:=decide (100 < (s.c.cls.length:Int))||great18 s.jobs||decide (100 < (s.parts.length:Int))||decide (100 < (s.keeps.length:Int))||decide (20000 < (s.down.length:Int))||decide (20000 < (s.shut.length:Int))||decide (20000 < (s.cut.length:Int))
theorem e9:Ent zP 9 Tryz.f9 [] 1:=.mk Tryz.func9 rfl
theorem great_pur{s:Sta}(h:s.good):Pur zP GG 9 [s.av] (B s.great):=by
 have hZ:=h.cell;obtain⟨⟨⟨a1,a2,a3⟩,b1,b2,b3⟩,⟨⟨c1,c2,c3⟩,d1,d2,d3⟩,⟨e1,e2,e3⟩,⟨f1,f2,f3⟩,g1,g2,g3⟩:=h.cell;obtain⟨p1,p2,p3,p4,p5,p6,p7⟩:=h.purs;have hG:=great18_pur h.js;have hl1:=h.cs.len un24;have hl2:=h.ps.len un28;have hl3:=h.ks.len un29;have hl4:=h.ds.len un30;have hl5:=h.hs.len un30;have hl6:=h.us.len un30;rw[zM]at hl1 hl2 hl3 hl4 hl5 hl6;unfold Sta.great;show Pur zP GG 9 [ST s.c.a s.c.b s.c.c s.c.boot s.c.free s.c.tries s.c.age s.cs s.now s.next s.js s.ps s.ks s.ds s.hs s.us] _;have hch:(decide (100 < (s.c.cls.length:Int))=true)\/(decide (100 < (s.c.cls.length:Int))=false/\great18 s.jobs=true)\/(decide (100 < (s.c.cls.length:Int))=false/\great18 s.jobs=false/\decide (100 < (s.parts.length:Int))=true)\/(decide (100 < (s.c.cls.length:Int))=false/\great18 s.jobs=false/\decide (100 < (s.parts.length:Int))=false/\decide (100 < (s.keeps.length:Int))=true)\/(decide (100 < (s.c.cls.length:Int))=false/\great18 s.jobs=false/\decide (100 < (s.parts.length:Int))=false/\decide (100 < (s.keeps.length:Int))=false/\decide (20000 < (s.down.length:Int))=true)\/(decide (100 < (s.c.cls.length:Int))=false/\great18 s.jobs=false/\decide (100 < (s.parts.length:Int))=false/\decide (100 < (s.keeps.length:Int))=false/\decide (20000 < (s.down.length:Int))=false/\decide (20000 < (s.shut.length:Int))=true)\/(decide (100 < (s.c.cls.length:Int))=false/\great18 s.jobs=false/\decide (100 < (s.parts.length:Int))=false/\decide (100 < (s.keeps.length:Int))=false/\decide (20000 < (s.down.length:Int))=false/\decide (20000 < (s.shut.length:Int))=false/\decide (20000 < (s.cut.length:Int))=true)\/(decide (100 < (s.c.cls.length:Int))=false/\great18 s.jobs=false/\decide (100 < (s.parts.length:Int))=false/\decide (100 < (s.keeps.length:Int))=false/\decide (20000 < (s.down.length:Int))=false/\decide (20000 < (s.shut.length:Int))=false/\decide (20000 < (s.cut.length:Int))=false):=by
  generalize decide (100 < (s.c.cls.length:Int))=qq1
  generalize great18 s.jobs=qq2
  generalize decide (100 < (s.parts.length:Int))=qq3
  generalize decide (100 < (s.keeps.length:Int))=qq4
  generalize decide (20000 < (s.down.length:Int))=qq5
  generalize decide (20000 < (s.shut.length:Int))=qq6
  generalize decide (20000 < (s.cut.length:Int))=qq7
  cases qq1 <;> cases qq2 <;> cases qq3 <;> cases qq4 <;> cases qq5 <;> cases qq6 <;> cases qq7 <;> simp
 rcases hch with q1 | ⟨q1,q2⟩ | ⟨q1,q2,q3⟩ | ⟨q1,q2,q3,q4⟩ | ⟨q1,q2,q3,q4,q5⟩ | ⟨q1,q2,q3,q4,q5,q6⟩ | ⟨q1,q2,q3,q4,q5,q6,q7⟩ | ⟨q1,q2,q3,q4,q5,q6,q7⟩
 ·skip
  refine goQ e9 TOk.nil 0 ?_ (by simp[AV.purL,AV.pur,p1,p2,p3,p4,p5,p6,p7]);simp only[push_cast,seval,↓kw2,hZ,hl1,hl2,hl3,hl4,hl5,hl6,q1];exact⟨_,rfl,zAa rfl (by simp[q1])⟩
 ·skip
  rw[q2]at hG;refine goQ e9 TOk.nil 0 ?_ (by simp[AV.purL,AV.pur,p1,p2,p3,p4,p5,p6,p7]);simp only[push_cast,seval,↓kw2,hZ,hl1,hl2,hl3,hl4,hl5,hl6,q1];refine AC.pur hG ?_;refine goN ?_;simp only[push_cast,seval,↓kw2,hZ,hl1,hl2,hl3,hl4,hl5,hl6,q1];exact⟨_,rfl,zAa rfl (by simp[q1,q2])⟩
 ·skip
  rw[q2]at hG;refine goQ e9 TOk.nil 0 ?_ (by simp[AV.purL,AV.pur,p1,p2,p3,p4,p5,p6,p7]);simp only[push_cast,seval,↓kw2,hZ,hl1,hl2,hl3,hl4,hl5,hl6,q1];refine AC.pur hG ?_;refine goN ?_;simp only[push_cast,seval,↓kw2,hZ,hl1,hl2,hl3,hl4,hl5,hl6,q1,q3];exact⟨_,rfl,zAa rfl (by simp[q1,q2,q3])⟩
 ·skip
  rw[q2]at hG;refine goQ e9 TOk.nil 0 ?_ (by simp[AV.purL,AV.pur,p1,p2,p3,p4,p5,p6,p7]);simp only[push_cast,seval,↓kw2,hZ,hl1,hl2,hl3,hl4,hl5,hl6,q1];refine AC.pur hG ?_;refine goN ?_;simp only[push_cast,seval,↓kw2,hZ,hl1,hl2,hl3,hl4,hl5,hl6,q1,q3,q4];exact⟨_,rfl,zAa rfl (by simp[q1,q2,q3,q4])⟩
 ·skip
  rw[q2]at hG;refine goQ e9 TOk.nil 0 ?_ (by simp[AV.purL,AV.pur,p1,p2,p3,p4,p5,p6,p7]);simp only[push_cast,seval,↓kw2,hZ,hl1,hl2,hl3,hl4,hl5,hl6,q1];refine AC.pur hG ?_;refine goN ?_;simp only[push_cast,seval,↓kw2,hZ,hl1,hl2,hl3,hl4,hl5,hl6,q1,q3,q4,q5];exact⟨_,rfl,zAa rfl (by simp[q1,q2,q3,q4,q5])⟩
 ·skip
  rw[q2]at hG;refine goQ e9 TOk.nil 0 ?_ (by simp[AV.purL,AV.pur,p1,p2,p3,p4,p5,p6,p7]);simp only[push_cast,seval,↓kw2,hZ,hl1,hl2,hl3,hl4,hl5,hl6,q1];refine AC.pur hG ?_;refine goN ?_;simp only[push_cast,seval,↓kw2,hZ,hl1,hl2,hl3,hl4,hl5,hl6,q1,q3,q4,q5,q6];exact⟨_,rfl,zAa rfl (by simp[q1,q2,q3,q4,q5,q6])⟩
 ·skip
  rw[q2]at hG;refine goQ e9 TOk.nil 0 ?_ (by simp[AV.purL,AV.pur,p1,p2,p3,p4,p5,p6,p7]);simp only[push_cast,seval,↓kw2,hZ,hl1,hl2,hl3,hl4,hl5,hl6,q1];refine AC.pur hG ?_;refine goN ?_;simp only[push_cast,seval,↓kw2,hZ,hl1,hl2,hl3,hl4,hl5,hl6,q1,q3,q4,q5,q6,q7];exact⟨_,rfl,zAa rfl (by simp[q1,q2,q3,q4,q5,q6,q7])⟩
 ·skip
  rw[q2]at hG;refine goQ e9 TOk.nil 0 ?_ (by simp[AV.purL,AV.pur,p1,p2,p3,p4,p5,p6,p7]);simp only[push_cast,seval,↓kw2,hZ,hl1,hl2,hl3,hl4,hl5,hl6,q1];refine AC.pur hG ?_;refine goN ?_;simp only[push_cast,seval,↓kw2,hZ,hl1,hl2,hl3,hl4,hl5,hl6,q1,q3,q4,q5,q6,q7];exact⟨_,rfl,zAa rfl (by simp[q1,q2,q3,q4,q5,q6,q7])⟩
theorem Sta.lim_of{s:Sta}(h:s.great=false):s.lim:=by
 unfold Sta.great great18 at h;simp only[Bool.or_eq_false_iff,decide_eq_false_iff_not]at h;exact⟨by omega,by omega,by omega,by omega,by omega,by omega⟩
end Go.Ab.Pd
namespace Go.Ab
theorem aAppZK{P:Program}{t u e e':TypeId}(ht:P.underlying t=some (.slice e))(hu:P.underlying u=some (.slice e')){z:AV}{by' k:Nat}(hz:zBo P e=some z)(hk:z.cells.length=k)(hb:zCr P e=some by')
  {H:List AO} {l:List AV} (hl:∀ x∈l,x.cells.length=k) (h0:0 < l.length) :
  ∃ C,zBk P t u .zs (.isl l) H=some ⟨C,.sl H.length 0 l.length l.length,H++[.arr k l]⟩/\(l.length*by'<=2^40->l.length<=2^40->C):=by
 unfold zBk;simp only[ht,hu,hz,hb,hk,elsOf];cases l with
 | nil=>simp at h0
 | cons x l =>
  simp only[zDf,hk];exact⟨_,rfl,fun h1 h2=>⟨fun _=>by simpa[List.getD]using hl x (by simp),h1,h2⟩⟩
end Go.Ab
namespace Go.Ab.Pd
open Go.Proofs
open Go.Proofs.Tryz renaming prog->zP
inductive LiveS(k:Nat)(H:List AO):AV->AV->List AV->Prop
 | nil:LiveS k H (.c (.slice none 0 0)) (.c (.slice none 0 0)) []
 | zs:LiveS k H (.isl []) .zs []
 | row {id:Nat} {l:List AV} (h:H[id]?=some (.arr k l)) (h0:0 < l.length):LiveS k H (.isl l) (.sl id 0 l.length l.length) l
theorem LiveS.row'{k:Nat}{H:List AO}{id:Nat}{α:Type}{f:α->AV}{l:List α}(h:H[id]?=some (.arr k (l.map f)))(h0:0 < l.length):LiveS k H (.isl (l.map f)) (.sl id 0 l.length l.length) (l.map f):=by
 have:=LiveS.row h (by rw[zM]; exact h0)
 rwa [zM]at this
theorem AC.weaken{f:FuncId}{args:List AV}{H:List AO}{u v:AV}(hw:∀(w:World) (E:En) (r:Value),RepV w E u r->RepV w E v r){K:AV->List AO->Prop}(h:AC zP GG f args H fun x H'=>x=u/\K v H'):AC zP GG f args H K :=
 ⟨h.1,fun E w vargs hH hA cs=>by
  obtain⟨x,H',E',w',r,fr,⟨rfl,h1⟩,h2,h3,h4,h5⟩:=h.2 E w vargs hH hA cs;exact⟨_,H',E',w',r,fr,h1,h2,h3,hw _ _ _ h4,h5⟩⟩
theorem zs_isl{w:World}{E:En}{r:Value}(h:RepV w E .zs r):RepV w E (.isl []) r:=by
 cases h with
 | zs=>exact .isl (sz:=0) (f:=fun _ _=>default) (fun h=>by simp at h) (by simp) (by simp) (by simp) (by simp) (by simp)
theorem Pur.zs{f:FuncId}{args:List AV}(h:Pur zP GG f args .zs):Pur zP GG f args (.isl []) :=
 fun H K hK=>AC.weaken (fun _ _ _=>zs_isl) (h H _ ⟨rfl,hK⟩)
theorem frz_row{H:List AO}{id k:Nat}{es:List AV}(h:H[id]?=some (.arr k es))(h0:0 < es.length)(hp:AV.purL es=true):frz 2 H (.sl id 0 es.length es.length)=some (.isl es):=by
 unfold Go.Ab.frz;simp only[AV.pur,Bool.false_eq_true,if_false,h,Nat.zero_add,Nat.le_refl,if_true,List.drop_zero,List.take_length];rw[zFo hp]; rfl
theorem IsSl.purL1{s:AV}{l:List AV}(h:IsSl s l)(hp:AV.purL l=true):AV.purL [s]=true:=by simp[AV.purL,h.pur hp]
theorem frz_live{f:FuncId}{args:List AV}{k:Nat}{s:AV}{l:List AV}(hs:IsSl s l)(hp:AV.purL l=true)(ha:AV.purL args=true)(h:AC zP GG f args [] fun r H=>LiveS k H s r l):Pur zP GG f args s:=by
 rcases hs with rfl | ⟨rfl,rfl⟩
 ·cases l with
  | nil =>
   refine Pur.zs (Pur.of_alone ggp ha (h.mono fun r H hr=>?_));cases hr with
   | zs=>exact⟨1,rfl⟩
   | row h h0=>simp at h0
  | cons x l =>
   refine Pur.of_alone ggp ha (h.mono fun r H hr=>?_);cases hr with
   | row h h0=>exact⟨2,frz_row h h0 hp⟩
 ·refine Pur.of_alone ggp ha (h.mono fun r H hr=>?_);cases hr with
  | nil=>exact⟨1,rfl⟩
theorem e82:Ent zP 82 Tryz.f82 [] 1:=.mk Tryz.func82 rfl
theorem cloneJ_ac{l:List Jb}{s:AV}(hs:IsSl s (l.map Jb.av))(hl:l.length<=2^16){H:List AO}{K:AV->List AO->Prop}(hK:∀ r X,LiveS 16 (H++X) s r (l.map Jb.av)->(∀ i,zAw r=some i->H.length<=i)->K r (H++X)):AC zP GG 82 [s] H K:=by
 rcases hs with rfl | ⟨h0,rfl⟩
 ·cases l with
  | nil =>
   refine goE e82 TOk.nil 0 ?_;simp only[push_cast,seval,↓kw2,zAn,aEqS,zDd,zBk,elsOf,zDf,List.map_nil];exact⟨_,rfl,hK _ _ .zs (fun i h=>by cases h)⟩
  | cons x l =>
   obtain⟨C,happ,hC⟩:=aAppZK (P:=zP) un27 un27 ze50 rfl by50 (H:=H++[AO.arr 16 []]) (l:=(x::l).map Jb.av) (fun y hy=>by
    obtain⟨j,_,rfl⟩:=List.mem_map.1 hy;rfl) (by simp)
   generalize hL:x::l=L at hl hK happ hC
   have hLp:0 < L.length:=by rw[<- hL]; simp
   refine goE e82 TOk.nil 0 ?_;simp only[push_cast,seval,↓kw2,zAn,aEqS,zDd,happ];refine⟨hC (by rw[zM]; omega) (by rw[zM]; omega),_,rfl,?_⟩;have:=hK (.sl (H++[AO.arr 16 []]).length 0 L.length L.length) ([AO.arr 16 []]++[AO.arr 16 (L.map Jb.av)]) (LiveS.row' (by
    rw[<- List.append_assoc,zAd]; rfl) hLp) (fun i h=>by cases h; simp)
   simpa[zM]using this
 ·have hl0:l=[]:=List.map_eq_nil_iff.1 h0;subst hl0;refine goE e82 TOk.nil 0 ?_;simp only[push_cast,seval,↓kw2,zAn,aEqS,zDd];exact⟨_,rfl,by simpa using hK _ [] .nil (fun i h=>by cases h)⟩
theorem e45:Ent zP 45 Tryz.f45 [] 1:=.mk Tryz.func45 rfl
theorem cloneI_ac{l:List Int}{s:AV}(hs:IsSl s (l.map IA))(hl:l.length<=2^16){H:List AO}{K:AV->List AO->Prop}(hK:∀ r X,LiveS 1 (H++X) s r (l.map IA)->(∀ i,zAw r=some i->H.length<=i)->K r (H++X)):AC zP GG 45 [s] H K:=by
 rcases hs with rfl | ⟨h0,rfl⟩
 ·cases l with
  | nil =>
   refine goE e45 TOk.nil 0 ?_;simp only[push_cast,seval,↓kw2,zAn,aEqS,zDd,zBk,elsOf,zDf,List.map_nil];exact⟨_,rfl,hK _ _ .zs (fun i h=>by cases h)⟩
  | cons x l =>
   obtain⟨C,happ,hC⟩:=aAppZK (P:=zP) un30 un30 ze3 rfl by3 (H:=H++[AO.arr 1 []]) (l:=(x::l).map IA) (fun y hy=>by
    obtain⟨j,_,rfl⟩:=List.mem_map.1 hy;rfl) (by simp)
   generalize hL:x::l=L at hl hK happ hC
   have hLp:0 < L.length:=by rw[<- hL]; simp
   refine goE e45 TOk.nil 0 ?_;simp only[push_cast,seval,↓kw2,zAn,aEqS,zDd,happ];refine⟨hC (by rw[zM]; omega) (by rw[zM]; omega),_,rfl,?_⟩;have:=hK (.sl (H++[AO.arr 1 []]).length 0 L.length L.length) ([AO.arr 1 []]++[AO.arr 1 (L.map IA)]) (LiveS.row' (by
    rw[<- List.append_assoc,zAd]; rfl) hLp) (fun i h=>by cases h; simp)
   simpa[zM]using this
 ·have hl0:l=[]:=List.map_eq_nil_iff.1 h0;subst hl0;refine goE e45 TOk.nil 0 ?_;simp only[push_cast,seval,↓kw2,zAn,aEqS,zDd];exact⟨_,rfl,by simpa using hK _ [] .nil (fun i h=>by cases h)⟩
theorem cloneI_pur{l:List Int}{s:AV}(hs:IsSl s (l.map IA))(hl:l.length<=2^16)(hp:AV.purL (l.map IA)=true):Pur zP GG 45 [s] s :=
 frz_live hs hp (IsSl.purL1 hs hp) (cloneI_ac hs hl fun r X h _=>h)
theorem e43:Ent zP 43 Tryz.f43 [] 1:=.mk Tryz.func43 rfl
theorem cloneP_ac{l:List Prt}{s:AV}(hs:IsSl s (l.map Prt.av))(hl:l.length<=2^16){H:List AO}{K:AV->List AO->Prop}(hK:∀ r X,LiveS 13 (H++X) s r (l.map Prt.av)->(∀ i,zAw r=some i->H.length<=i)->K r (H++X)):AC zP GG 43 [s] H K:=by
 rcases hs with rfl | ⟨h0,rfl⟩
 ·cases l with
  | nil =>
   refine goE e43 TOk.nil 0 ?_;simp only[push_cast,seval,↓kw2,zAn,aEqS,zDd,zBk,elsOf,zDf,List.map_nil];exact⟨_,rfl,hK _ _ .zs (fun i h=>by cases h)⟩
  | cons x l =>
   obtain⟨C,happ,hC⟩:=aAppZK (P:=zP) un28 un28 ze65 rfl by65 (H:=H++[AO.arr 13 []]) (l:=(x::l).map Prt.av) (fun y hy=>by
    obtain⟨j,_,rfl⟩:=List.mem_map.1 hy;rfl) (by simp)
   generalize hL:x::l=L at hl hK happ hC
   have hLp:0 < L.length:=by rw[<- hL]; simp
   refine goE e43 TOk.nil 0 ?_;simp only[push_cast,seval,↓kw2,zAn,aEqS,zDd,happ];refine⟨hC (by rw[zM]; omega) (by rw[zM]; omega),_,rfl,?_⟩;have:=hK (.sl (H++[AO.arr 13 []]).length 0 L.length L.length) ([AO.arr 13 []]++[AO.arr 13 (L.map Prt.av)]) (LiveS.row' (by
    rw[<- List.append_assoc,zAd]; rfl) hLp) (fun i h=>by cases h; simp)
   simpa[zM]using this
 ·have hl0:l=[]:=List.map_eq_nil_iff.1 h0;subst hl0;refine goE e43 TOk.nil 0 ?_;simp only[push_cast,seval,↓kw2,zAn,aEqS,zDd];exact⟨_,rfl,by simpa using hK _ [] .nil (fun i h=>by cases h)⟩
theorem e44:Ent zP 44 Tryz.f44 [] 1:=.mk Tryz.func44 rfl
theorem cloneK_ac{l:List Kep}{s:AV}(hs:IsSl s (l.map Kep.av))(hl:l.length<=2^16){H:List AO}{K:AV->List AO->Prop}(hK:∀ r X,LiveS 9 (H++X) s r (l.map Kep.av)->(∀ i,zAw r=some i->H.length<=i)->K r (H++X)):AC zP GG 44 [s] H K:=by
 rcases hs with rfl | ⟨h0,rfl⟩
 ·cases l with
  | nil =>
   refine goE e44 TOk.nil 0 ?_;simp only[push_cast,seval,↓kw2,zAn,aEqS,zDd,zBk,elsOf,zDf,List.map_nil];exact⟨_,rfl,hK _ _ .zs (fun i h=>by cases h)⟩
  | cons x l =>
   obtain⟨C,happ,hC⟩:=aAppZK (P:=zP) un29 un29 ze98 rfl by98 (H:=H++[AO.arr 9 []]) (l:=(x::l).map Kep.av) (fun y hy=>by
    obtain⟨j,_,rfl⟩:=List.mem_map.1 hy;rfl) (by simp)
   generalize hL:x::l=L at hl hK happ hC
   have hLp:0 < L.length:=by rw[<- hL]; simp
   refine goE e44 TOk.nil 0 ?_;simp only[push_cast,seval,↓kw2,zAn,aEqS,zDd,happ];refine⟨hC (by rw[zM]; omega) (by rw[zM]; omega),_,rfl,?_⟩;have:=hK (.sl (H++[AO.arr 9 []]).length 0 L.length L.length) ([AO.arr 9 []]++[AO.arr 9 (L.map Kep.av)]) (LiveS.row' (by
    rw[<- List.append_assoc,zAd]; rfl) hLp) (fun i h=>by cases h; simp)
   simpa[zM]using this
 ·have hl0:l=[]:=List.map_eq_nil_iff.1 h0;subst hl0;refine goE e44 TOk.nil 0 ?_;simp only[push_cast,seval,↓kw2,zAn,aEqS,zDd];exact⟨_,rfl,by simpa using hK _ [] .nil (fun i h=>by cases h)⟩
theorem e41:Ent zP 41 Tryz.f41 [] 1:=.mk Tryz.func41 rfl
theorem cloneC_ac{l:List Cls}{s:AV}(hs:IsSl s (l.map Cls.av))(hl:l.length<=2^16){H:List AO}{K:AV->List AO->Prop}(hK:∀ r X,LiveS 4 (H++X) s r (l.map Cls.av)->(∀ i,zAw r=some i->H.length<=i)->K r (H++X)):AC zP GG 41 [s] H K:=by
 rcases hs with rfl | ⟨h0,rfl⟩
 ·cases l with
  | nil =>
   refine goE e41 TOk.nil 0 ?_;simp only[push_cast,seval,↓kw2,zAn,aEqS,zDd,zBk,elsOf,zDf,List.map_nil];exact⟨_,rfl,hK _ _ .zs (fun i h=>by cases h)⟩
  | cons x l =>
   obtain⟨C,happ,hC⟩:=aAppZK (P:=zP) un24 un24 ze93 rfl by93 (H:=H++[AO.arr 4 []]) (l:=(x::l).map Cls.av) (fun y hy=>by
    obtain⟨j,_,rfl⟩:=List.mem_map.1 hy;rfl) (by simp)
   generalize hL:x::l=L at hl hK happ hC
   have hLp:0 < L.length:=by rw[<- hL]; simp
   refine goE e41 TOk.nil 0 ?_;simp only[push_cast,seval,↓kw2,zAn,aEqS,zDd,happ];refine⟨hC (by rw[zM]; omega) (by rw[zM]; omega),_,rfl,?_⟩;have:=hK (.sl (H++[AO.arr 4 []]).length 0 L.length L.length) ([AO.arr 4 []]++[AO.arr 4 (L.map Cls.av)]) (LiveS.row' (by
    rw[<- List.append_assoc,zAd]; rfl) hLp) (fun i h=>by cases h; simp)
   simpa[zM]using this
 ·have hl0:l=[]:=List.map_eq_nil_iff.1 h0;subst hl0;refine goE e41 TOk.nil 0 ?_;simp only[push_cast,seval,↓kw2,zAn,aEqS,zDd];exact⟨_,rfl,by simpa using hK _ [] .nil (fun i h=>by cases h)⟩
theorem LiveS.app{k:Nat}{H:List AO}{s r:AV}{l:List AV}(h:LiveS k H s r l)(X:List AO):LiveS k (H++X) s r l:=by
 cases h with
 | nil=>exact .nil
 | zs=>exact .zs
 | row h h0=>exact .row ((zL (zAc h)).trans h) h0
theorem set_id{α:Type}{l:List α}{i:Nat}{x:α}(h:l[i]?=some x):l.set i x=l:=by
 rw[List.getElem?_eq_some_iff]at h;obtain⟨h,rfl⟩:=h;exact List.set_getElem_self h
theorem set_getD{α:Type}{l:List α}{i:Nat}{d x:α}(hi:i < l.length)(h:l.getD i d=x):l.set i x=l:=by
 refine set_id ?_;rw[List.getElem?_eq_getElem hi,<- h];simp[List.getD,hi]
theorem e42:Ent zP 42 Tryz.f42 [] 1:=.mk Tryz.func42 rfl
theorem twinJ_ac{l:List Jb}{s:AV}(hs:JobsS s l)(hl:l.length<=2^16)(ha:∀ j∈l,j.after.length<=2^16){H:List AO}{K:AV->List AO->Prop}(hK:∀ r X,LiveS 16 (H++X) s r (l.map Jb.av)->K r (H++X)) :
  AC zP GG 42 [s] H K:=by
 obtain⟨n1,n2,n3⟩:=hs.1.cell;refine goE e42 TOk.nil 0 ?_;simp only[push_cast,seval,↓kw2,n1,n2,n3];refine cloneJ_ac hs.1 hl ?_
 intro r X hr hq0
 clear hq0
 generalize hes:l.map Jb.av=es at hr hK
 cases hr with
 | nil =>
  refine goW TOk.nil [] 1 ?_;simp only[push_cast,seval,↓kw2];exact⟨_,rfl,by simpa using hK _ X .nil⟩
 | zs =>
  refine goW TOk.nil [] 1 ?_;simp only[push_cast,seval,↓kw2];exact⟨_,rfl,by simpa using hK _ X .zs⟩
 | row hid h0 =>
  rename_i id;have hel:es.length=l.length:=by rw[<- hes,zM]
  refine goN ?_;simp only[push_cast,seval,↓kw2];refine FW.loopInv (fun m ts H'=>∃ i:Nat,i+m=es.length/\H'=H++X/\ts 0=.sl id 0 es.length es.length/\ts 7=I (es.length:Int)/\ts 8=I (i:Int)) es.length ⟨0,by omega,rfl,rfl,rfl,rfl⟩ ?_
  rintro m ih ts H' ⟨i,hi,rfl,t0,t7,t8⟩
  refine FW.inLoop ?_
  by_cases hlt:i < es.length
  ·have hd1:decide ((i:Int) < (es.length:Int))=true:=by simp[hlt]
   have hgy:es.getD i .un=(l.getD i default).av:=by rw[<- hes]; exact zAj Jb.av l default (by omega)
   have hg:=hs.get i;have hal:(l.getD i default).after.length<=2^16:=ha _ (by
    rw[show l.getD i default=l[i]'(by omega) by simp[List.getD,show i < l.length by omega]];exact List.getElem_mem _)
   generalize l.getD i default=j at hgy hg hal
   have hcx:=Jb.cells j;obtain⟨m1,m2,m3⟩:=IsSl.cell hg;have hi1:=zAl (n:=(i:Int)+1) (by omega) (by omega);have hset:=set_getD (d:=.un) hlt hgy;have hset2:=set_id hid;simp only[Jb.av]at hgy hcx hset;refine goN ?_;simp only[push_cast,seval,↓kw2,t0,t7,t8,hd1,hid,hgy,hcx,m1,m2,m3,Int.toNat_natCast,hlt];refine⟨⟨by omega,by omega⟩,AC.pur (cloneI_pur hg hal (zAi IA _ (fun _=>rfl))) ?_⟩;refine goN ?_;simp only[push_cast,seval,↓kw2,t0,t7,t8,hd1,hid,hgy,hcx,m1,m2,m3,Int.toNat_natCast,hlt,hset,hset2,hi1];exact⟨⟨by omega,by omega⟩,ih (m - 1) (by omega) _ _ ⟨i+1,by omega,rfl,t0,t7,rfl⟩⟩
  ·have hd1:decide ((i:Int) < (es.length:Int))=false:=by simp; omega
   refine goN ?_;simp only[push_cast,seval,↓kw2,t0,t7,t8,hd1];exact⟨_,rfl,hK _ _ (.row hid h0)⟩
abbrev MS(κ:Type):Type:=List (Nat × κ × Int) × Nat
def fndM{κ:Type}[DecidableEq κ](k:κ):List (Nat × κ × Int)->Option Nat
 | []=>none
 | e::l=>if k=e.2.1 then some 0 else (fndM k l).map (·+1)
def getM{κ:Type}[DecidableEq κ][Inhabited κ](M:MS κ)(k:κ):Int:=match fndM k M.1 with
 | some i=>(M.1.getD i default).2.2
 | none=>0
def putM{κ:Type}[DecidableEq κ][Inhabited κ](M:MS κ)(k:κ)(v:Int):MS κ:=match fndM k M.1 with
 | some i=>(M.1.set i ((M.1.getD i default).1,k,v),M.2)
 | none=>(M.1++[(M.2,k,v)],M.2+1)
def encM{κ:Type}(ek:κ->AV)(ev:Int->AV)(l:List (Nat × κ × Int)):List (Nat × AV × AV):=l.map fun e=>(e.1,ek e.2.1,ev e.2.2)
theorem fndM_lt{κ:Type}[DecidableEq κ]{k:κ}:∀ {l:List (Nat × κ × Int)} {i:Nat},fndM k l=some i->i < l.length/\∀ d,(l.getD i d).2.1=k
 | [],_,h=>by cases h
 | e::l,i,h=>by
  unfold fndM at h
  split at h
  ·rename_i hk;cases h;exact⟨by simp,fun d=>hk.symm⟩
  ·cases hf:fndM k l with
   | none=>rw[hf]at h; cases h
   | some j =>
    rw[hf]at h;cases h;obtain⟨h1,h2⟩:=fndM_lt hf;exact⟨by simp only[List.length_cons]; omega,fun d=>by simpa using h2 d⟩
theorem find_M{κ:Type}[DecidableEq κ]{ek:κ->AV}{ev:Int->AV}{t:TypeId}(he:∀ a b,aEq zP 10000 t (ek a) (ek b)=some (decide (a=b)))(k:κ):∀ l:List (Nat × κ × Int),zEk zP t (ek k) (encM ek ev l)=some (fndM k l)
 | []=>rfl
 | e::l=>by
  show(match aEq zP 10000 t (ek k) (ek e.2.1)with
   | some true=>some (some 0)
   | some false=>(zEk zP t (ek k) (encM ek ev l)).map fun(o:Option Nat)=>o.map (·+1)
   | none=>none)=_
  rw[he,find_M he k l,show fndM k (e::l)=if k=e.2.1 then some 0 else (fndM k l).map (·+1) from rfl]
  by_cases h:k=e.2.1
  ·rw[zT h,if_pos h]
  ·rw[zF h,if_neg h]; rfl
theorem encM_get{κ:Type}{ek:κ->AV}{ev:Int->AV}{l:List (Nat × κ × Int)}{i:Nat}(h:i < l.length)(d:Nat × κ × Int)(d':Nat × AV × AV):(encM ek ev l).getD i d'=((l.getD i d).1,ek (l.getD i d).2.1,ev (l.getD i d).2.2):=by
 simp[encM,List.getD,h]
theorem encM_set{κ:Type}{ek:κ->AV}{ev:Int->AV}{l:List (Nat × κ × Int)}{i n:Nat}{k:κ}{v:Int}:(encM ek ev l).set i (n,ek k,ev v)=encM ek ev (l.set i (n,k,v)):=by
 simp[encM,List.map_set]
theorem encM_app{κ:Type}{ek:κ->AV}{ev:Int->AV}{l:List (Nat × κ × Int)}{n:Nat}{k:κ}{v:Int}:encM ek ev l++[(n,ek k,ev v)]=encM ek ev (l++[(n,k,v)]):=by
 simp[encM]
theorem upd_M{κ:Type}[DecidableEq κ][Inhabited κ]{ek:κ->AV}{ev:Int->AV}{t kt et:TypeId}(hu:zP.underlying t=some (.map kt et))(he:∀ a b,aEq zP 10000 kt (ek a) (ek b)=some (decide (a=b)))(hck:∀ a,ckOk zP 10000 kt (ek a)=true)(hfl:∀ a,flatA (ek a)=true)
  {H:List AO} {id:Nat} {M:MS κ} (hm:H[id]?=some (.map (encM ek ev M.1) M.2)) (k:κ) (v:Int):zDa zP t (.mp id) (ek k) (ev v) H=some ⟨True,.un,H.set id (.map (encM ek ev (putM M k v).1) (putM M k v).2)⟩:=by
 unfold zDa putM;simp only[hu,hm,hck,hfl,and_self,if_true,find_M he];cases hf:fndM k M.1 with
 | none=>simp only[encM_app]
 | some i =>
  obtain⟨h1,h2⟩:=fndM_lt hf;simp only[encM_get h1 default,h2 default,encM_set]
theorem get_M{κ:Type}[DecidableEq κ][Inhabited κ]{ek:κ->AV}{ev:Int->AV}{t kt et:TypeId}(hu:zP.underlying t=some (.map kt et))(hz:zBo zP et=some (ev 0))(he:∀ a b,aEq zP 10000 kt (ek a) (ek b)=some (decide (a=b)))(hck:∀ a,ckOk zP 10000 kt (ek a)=true)
  {H:List AO} {id:Nat} {M:MS κ} (hm:H[id]?=some (.map (encM ek ev M.1) M.2)) (k:κ):aLookup zP t (.mp id) (ek k) false H=some ⟨True,ev (getM M k),H⟩:=by
 unfold aLookup getM;simp only[hu,hm,hck,if_true,find_M he];cases hf:fndM k M.1 with
 | none=>simp only[lkZero,hz,lkRes]
 | some i =>
  obtain⟨h1,h2⟩:=fndM_lt hf;simp only[encM_get h1 default,lkRes]
theorem eqI0(a b:Int):aEq zP 10000 3 (I a) (I b)=some (a==b):=by kernel_rfl
theorem eqI(a b:Int):aEq zP 10000 3 (I a) (I b)=some (decide (a=b)):=by rw[eqI0,beq_eq_decide']
theorem ckI(a:Int):ckOk zP 10000 3 (I a)=true:=by kernel_rfl
theorem flI(a:Int):flatA (I a)=true:=rfl
abbrev U8(n:Int):AV:=.c (.int .u8 n)
def stM(l:List Jb):MS Int:=l.foldl (fun M j=>putM M j.id j.st) ([],0)
abbrev enc8(l:List (Nat × Int × Int)):List (Nat × AV × AV):=encM I U8 l
theorem e79:Ent zP 79 Tryz.f79 [] 1:=.mk Tryz.func79 rfl
theorem states_ac{l:List Jb}{s:AV}(hs:JobsS s l)(hl:l.length<=2^16){H:List AO}{K:AV->List AO->Prop}
  (hK:∀ H',(∀ j,j < H.length->H'[j]?=H[j]?)->H'[H.length]?=some (.map (enc8 (stM l).1) (stM l).2)->K (.mp H.length) H'):AC zP GG 79 [s] H K:=by
 have hlen:=hs.1.len un27;rw[zM]at hlen;have hidx:=fun(i:Nat) (hi:i < l.length) (H:List AO)=>hs.1.idx (P:=zP) un27 sz50 (i:=(i:Int)) (by rw[zM]; omega) (by omega) H
 refine goE e79 TOk.nil 0 ?_;simp only[push_cast,seval,↓kw2,hlen];refine FW.loopInv (fun m ts H'=>∃(i:Nat) (M:MS Int),i+m=l.length/\H.length < H'.length/\(∀ j,j < H.length->H'[j]?=H[j]?)/\H'[H.length]?=some (.map (enc8 M.1) M.2)/\(l.drop i).foldl (fun M j=>putM M j.id j.st) M=stM l /\
   ts 3=.mp H.length/\ts 7=s/\ts 8=I (l.length:Int)/\ts 9=I (i:Int)) l.length
  ⟨0,([],0),by omega,by simp,fun j hj=>zL hj,by rw[zAd]; rfl,rfl,rfl,rfl,rfl,rfl⟩ ?_
 rintro m ih ts H' ⟨i,M,hi,hlt0,hold,hm,hfo,t3,t7,t8,t9⟩
 refine FW.inLoop ?_
 by_cases hlt:i < l.length
 ·have hd1:decide ((i:Int) < (l.length:Int))=true:=by simp[hlt]
  have hx:=hidx i hlt;have hgy:=zAj Jb.av l default hlt;simp only[Int.toNat_natCast]at hx;rw[hgy]at hx;rw[zBa default hlt,List.foldl_cons]at hfo;have hg:=hs.get i
  generalize hj:l.getD i default=j at hx hfo hg
  have hcx:=Jb.cells j;obtain⟨m1',m2',m3'⟩:=IsSl.cell hg;have hbb:(0<=(i:Int)/\(i:Int) < ((l.map Jb.av).length:Int)):=⟨by omega,by rw[zM]; omega⟩;have hi1:=zAl (n:=(i:Int)+1) (by omega) (by omega);have hup:=fun X=>upd_M (ek:=I) (ev:=U8) un146 eqI ckI flI (H:=H'++X) (id:=H.length) (M:=M) ((zL hlt0).trans hm) j.id j.st
  refine goN ?_;simp only[push_cast,seval,↓kw2,t3,t7,t8,t9,hd1,hx,hcx,m1',m2',m3',zAd,getA,zAe,setA,zAb,hup];refine⟨hbb,?_⟩;refine goN ?_;simp only[push_cast,seval,↓kw2,t3,t7,t8,t9,hi1];refine ih (m - 1) (by omega) _ _ ⟨i+1,putM M j.id j.st,by omega,by simp; omega,fun q hq=>?_,?_,hfo,t3,t7,t8,rfl⟩
  ·rw[zQ (by omega),zL (by omega)]; exact hold q hq
  ·rw[zS (by simp; omega)]
 ·have hd1:decide ((i:Int) < (l.length:Int))=false:=by simp; omega
  rw[List.drop_eq_nil_of_le (by omega)]at hfo;refine goN ?_;simp only[push_cast,seval,↓kw2,t3,t7,t8,t9,hd1];exact⟨_,rfl,hK _ hold (by rw[<- hfo]; exact hm)⟩
def lostJ(M:MS Int)(j:Jb):Bool:=decide (j.st=1)&&anyN (fun i=>decide (3 < getM M (j.after.getD i 0))) j.after.length 0
def Jb.off(j:Jb):Jb:={ j with st:=5,held:=false }
def zBu:MS Int->List Jb->List Jb
 | _,[]=>[]
 | M,j::l=>if lostJ M j=true then j.off::zBu (putM M j.id 5) l else j::zBu M l
theorem settleL_length:∀(l:List Jb) (M:MS Int),(zBu M l).length=l.length
 | [],_=>rfl
 | j::l,M=>by
  unfold zBu
  split <;> simp[settleL_length l]
theorem Jb.off_good{j:Jb}(h:j.good):j.off.good:=h
theorem settleL_good:∀ {l:List Jb} {M:MS Int},(∀ j∈l,j.good)->∀ j∈zBu M l,j.good
 | [],_,_=>fun _ h=>by cases h
 | j::l,M,h=>by
  unfold zBu;have h1:=h j (by simp);have h2:=fun(M:MS Int)=>settleL_good (M:=M) fun x hx=>h x (List.mem_cons_of_mem _ hx)
  split
  ·exact List.forall_mem_cons.2 ⟨Jb.off_good h1,h2 _⟩
  ·exact List.forall_mem_cons.2 ⟨h1,h2 _⟩
theorem settleL_after:∀ {l:List Jb} {M:MS Int} {n:Nat},(∀ j∈l,j.after.length<=n)->∀ j∈zBu M l,j.after.length<=n
 | [],_,_,_=>fun _ h=>by cases h
 | j::l,M,n,h=>by
  unfold zBu;have h1:j.after.length<=n:=h j (by simp);have h2:=fun(M:MS Int)=>settleL_after (M:=M) (n:=n) fun x hx=>h x (List.mem_cons_of_mem _ hx)
  split
  ·exact List.forall_mem_cons.2 ⟨h1,h2 _⟩
  ·exact List.forall_mem_cons.2 ⟨h1,h2 _⟩
theorem e125:Ent zP 125 Tryz.f125 [] 2:=.mk Tryz.func125 rfl
theorem settle1_ac{M:MS Int}{k:Int}{H:List AO}{q id:Nat}(hq:H[q]?=some (.cells [.mp id]))(hm:H[id]?=some (.map (enc8 M.1) M.2)){K:AV->List AO->Prop}(hK:K (B (decide (3 < getM M k))) H) :
  AC zP GG 125 [I k,.ptr q 0] H K:=by
 have hg:=get_M (ek:=I) (ev:=U8) un146 ze5 eqI ckI hm k;refine goE e125 TOk.nil 0 ?_;simp only[push_cast,seval,↓kw2,hq,hg];exact⟨_,rfl,hK⟩
def setS(sl:AV)(l:List Jb):AV:=if l=[] then sl else .isl ((zBu (stM l) l).map Jb.av)
theorem setS_jobs{sl:AV}{l:List Jb}(h:JobsS sl l):JobsS (setS sl l) (zBu (stM l) l):=by
 refine⟨?_,settleL_good h.2⟩;unfold setS
 split
 ·rename_i h0;subst h0;exact h.1
 ·exact .inl rfl
theorem Pur.weak{f:FuncId}{args:List AV}{u v:AV}(hw:∀(w:World) (E:En) (r:Value),RepV w E u r->RepV w E v r)(h:Pur zP GG f args u):Pur zP GG f args v :=
 fun H K hK=>AC.weaken hw (h H _ ⟨rfl,hK⟩)
theorem tup_zs{w:World}{E:En}{r:Value}{v:AV}(h:RepV w E (.tup [.zs,v]) r):RepV w E (.tup [.isl [],v]) r:=by
 cases h with
 | tup hl h =>
  refine .tup hl fun i hi=>?_
  have:=h i hi
  match i,hi with
  | 0,_=>exact zs_isl this
  | 1,_=>exact this
theorem tbl_0{x:Cfg}{l:List Jb}(h:tblE x l=0):x.chk=0/\l.length<=24/\chkL x l=0/\risN l l.length=true/\l.any (oddT l)=false:=by
 unfold tblE at h
 split at h
 ·rename_i h1
  split at h
  ·cases h
  ·split at h
   ·split at h
    ·split at h
     ·cases h
     ·exact⟨h1,by omega,by assumption,by assumption,by simp_all⟩
    ·cases h
   ·rename_i h3; exact absurd h h3
 ·rename_i h1; exact absurd h h1
theorem tbl_len{x:Cfg}{l:List Jb}(h:tblE x l=0):l.length<=24:=(tbl_0 h).2.1
theorem tbl_chk{x:Cfg}{l:List Jb}(h:tblE x l=0):∀ j∈l,j.chk x=0:=chkL_mem (tbl_0 h).2.2.1
theorem e66:Ent zP 66 Tryz.f66 [] 2:=.mk Tryz.func66 rfl
theorem settle_pur(x:Cfg){s sl:AV}(hs:IsSl s (x.cls.map Cls.av)){l:List Jb}(hl:JobsS sl l):Pur zP GG 66 [x.av s,sl] (.tup [if tblE x l=0 then setS sl l else .c (.slice none 0 0),I (tblE x l)]):=by
 have hpu:=hs.pur (zAi Cls.av _ (fun _=>rfl));have hpl:=hl.pur;obtain⟨k1,k2,k3⟩:=hs.cell;obtain⟨n1,n2,n3⟩:=hl.1.cell;have ht:=table_pur x hs hl;show Pur zP GG 66 [CF x.a x.b x.c x.boot x.free x.tries x.age s,sl] _;simp only[Cfg.av]at ht
 by_cases h0:tblE x l=0
 ·rw[if_pos h0];rw[h0]at ht ⊢;have hll:l.length<=24:=tbl_len h0;have haf:∀ j∈l,j.after.length<=4:=fun j hj=>Jb.rises_len (Jb.chk_facts (tbl_chk h0 j hj)).2.1
  by_cases hz:l=[]/\sl=.isl []
  ·obtain⟨rfl,rfl⟩:=hz;rw[setS,if_pos rfl];refine Pur.weak (u:=.tup [.zs,I 0]) (fun _ _ _=>tup_zs) ?_;refine goQ e66 TOk.nil 0 ?_ (by simp[AV.purL,AV.pur,hpu,hpl]);simp only[push_cast,seval,↓kw2,k1,k2,k3,n1,n2,n3];refine AC.pur ht ?_;refine goN ?_;simp only[push_cast,seval,↓kw2,k1,k2,k3,n1,n2,n3];refine twinJ_ac hl (by omega) (fun j hj=>by cases hj) ?_
   intro r X hr
   refine goN ?_;simp only[push_cast,seval,↓kw2,k1,k2,k3,n1,n2,n3];refine states_ac hl (by omega) ?_
   intro H2 hold hm
   cases hr with
   | zs =>
    refine goW TOk.nil [] 1 ?_;simp only[push_cast,seval,↓kw2,k1,k2,k3,n1,n2,n3,zAd,zAe];exact⟨_,rfl,zAa rfl rfl⟩
   | row _ hne=>simp at hne
  refine goQ e66 TOk.nil 0 ?_ (by simp[AV.purL,AV.pur,hpu,hpl]);simp only[push_cast,seval,↓kw2,k1,k2,k3,n1,n2,n3];refine AC.pur ht ?_;refine goN ?_;simp only[push_cast,seval,↓kw2,k1,k2,k3,n1,n2,n3];refine twinJ_ac hl (by omega) (fun j hj=>by have:=haf j hj; omega) ?_
  intro r X hr
  refine goN ?_;simp only[push_cast,seval,↓kw2,k1,k2,k3,n1,n2,n3];refine states_ac hl (by omega) ?_
  intro H2 hold hm
  simp only[List.cons_append,List.nil_append,List.length_cons]at hold hm hr
  generalize hes:l.map Jb.av=es at hr
  cases hr with
  | nil =>
   have hl0:l=[]:=List.map_eq_nil_iff.1 hes;refine goW TOk.nil [] 1 ?_;simp only[push_cast,seval,↓kw2,k1,k2,k3,n1,n2,n3,zAd,zAe];exact⟨_,rfl,zAa rfl (by rw[setS,if_pos hl0])⟩
  | zs =>
   exact absurd ⟨List.map_eq_nil_iff.1 hes,rfl⟩ hz
  | row hid hne =>
   rename_i id;have hid2:=(hold id (zAc hid)).trans hid;have hidl:=zAc hid;simp only[List.length_cons]at hidl;have hml:=zAc hm;subst hes;rw[zM]at hne ⊢;refine goN ?_;simp only[push_cast,seval,↓kw2,k1,k2,k3,n1,n2,n3,zAd,zAe]
   generalize X.length+1=mp at hm hml hidl
   refine FW.loopInv (fun m ts H'=>∃(i:Nat) (done:List Jb) (M:MS Int),i+m=l.length/\done.length=i/\done++zBu M (l.drop i)=zBu (stM l) l/\H'.length=H2.length+1/\H'[id]?=some (.arr 16 ((done++l.drop i).map Jb.av))/\H'[mp]?=some (.map (enc8 M.1) M.2)/\H'[H2.length]?=some (.cells [.mp mp]) /\
     ts 7=.sl id 0 l.length l.length/\ts 8=.ptr H2.length 0/\ts 22=I (l.length:Int)/\ts 23=I (i:Int)) l.length
    ⟨0,[],stM l,by omega,rfl,rfl,by simp,by rw[zL (by omega)]; exact hid2,by rw[zL (by omega)]; exact hm,by rw[zAd]; rfl,rfl,rfl,rfl,rfl⟩ ?_
   rintro m ih ts H' ⟨i,done,M,hi,hdl,hse,hln,hr,hm',hq,t7,t8,t22,t23⟩
   refine FW.inLoop ?_
   by_cases hlt:i < l.length
   ·have hd1:decide ((i:Int) < (l.length:Int))=true:=by simp[hlt]
    rw[zBa default hlt]at hse hr;have hjm:l.getD i default∈l:=by simp[List.getD,hlt]
    have hg:=hl.get i;have h4:=haf _ hjm
    generalize l.getD i default=j at hse hr hg h4
    have hcx:=Jb.cells j;obtain⟨m1,m2,m3⟩:=IsSl.cell hg;have hi1:=zAl (n:=(i:Int)+1) (by omega) (by omega);have hgy:((done++j::l.drop (i+1)).map Jb.av).getD i .un=j.av:=by simp[List.getD,hdl]
    have hrl:i < ((done++j::l.drop (i+1)).map Jb.av).length:=by simp; omega
    have hgl:(j.av).cells=_:=hcx;simp only[Jb.av]at hgy hcx
    by_cases hst:j.st=1
    ·have hd2:decide (j.st=1)=true:=zT hst;refine goN ?_;simp only[push_cast,seval,↓kw2,t7,t8,t22,t23,hd1,hd2,hr,hgy,hcx,m1,m2,m3,Int.toNat_natCast,hrl,zCu];refine⟨⟨by omega,by omega⟩,?_⟩;refine hasI hg (by omega) (fun _ X'=>X'=H') (pr:=fun i=>decide (3 < getM M (j.after.getD i 0))) ?_ rfl ?_
     ·rintro i H K hi rfl hK
      exact settle1_ac hq hm' (hK _ rfl)
     rintro X' ⟨_,_,rfl⟩
     have hlo:lostJ M j=anyN (fun i=>decide (3 < getM M (j.after.getD i 0))) j.after.length 0:=by rw[lostJ,hd2,Bool.true_and]
     cases hA:anyN (fun i=>decide (3 < getM M (j.after.getD i 0))) j.after.length 0
     ·rw[hA]at hlo;rw[zBu,hlo,if_neg (by decide)]at hse;refine goN ?_;simp only[push_cast,seval,↓kw2,t7,t8,t22,t23,hi1];exact ih (m - 1) (by omega) _ _ ⟨i+1,done++[j],M,by omega,by simp[hdl],by rw[<- hse]; simp,hln,by rw[hr]; simp,hm',hq,t7,t8,t22,rfl⟩
     ·rw[hA]at hlo;rw[zBu,hlo,if_pos rfl]at hse;have g1:∀ o,(X'.set id o)[id]?=some o:=fun o=>zS (zAc hr)
      have g2:∀ o,(X'.set id o)[mp]?=some (.map (enc8 M.1) M.2):=fun o=>by rw[zQ (by omega)]; exact hm'
      have g3:∀ o,(X'.set id o)[H2.length]?=some (.cells [.mp mp]):=fun o=>by rw[zQ (by omega)]; exact hq
      have g4:∀ A:AV,(((done++j::l.drop (i+1)).map Jb.av).set i A).getD i .un=A:=fun A=>by rw[List.getD_eq_getElem?_getD,zS hrl]; rfl
      have hup:=fun o=>upd_M (ek:=I) (ev:=U8) un146 eqI ckI flI (g2 o) j.id 5
      refine goN ?_;simp only[push_cast,seval,↓kw2,t7,t8,t22,t23,hr,hgy,hcx,m1,m2,m3,Int.toNat_natCast,hrl,zCu,g1,g3,g4,hup,List.set_set,List.length_set];refine goN ?_;simp only[push_cast,seval,↓kw2,t7,t8,t22,t23,hi1];refine ih (m - 1) (by omega) _ _ ⟨i+1,done++[j.off],putM M j.id 5,by omega,by simp[hdl],by rw[<- hse]; simp,by simp[hln],?_,?_,?_,t7,t8,t22,rfl⟩
      ·rw[zQ (by omega),g1];have:((done++j::l.drop (i+1)).map Jb.av).set i j.off.av=(done++[j.off]++l.drop (i+1)).map Jb.av:=by
        rw[List.map_append,List.map_cons,List.set_append_right _ _ (by rw[zM]; omega),zM,hdl,Nat.sub_self];simp
       rw[<- this]; rfl
      ·rw[zS (by rw[List.length_set]; omega)]
      ·rw[zQ (by omega)]; exact g3 _
    ·have hd2:decide (j.st=1)=false:=zF hst;have hlo:lostJ M j=false:=by rw[lostJ,hd2]; rfl
     rw[zBu,hlo,if_neg (by decide)]at hse;refine goN ?_;simp only[push_cast,seval,↓kw2,t7,t8,t22,t23,hd1,hd2,hr,hgy,hcx,m1,m2,m3,Int.toNat_natCast,hrl,zCu,hi1];refine⟨⟨by omega,by omega⟩,?_⟩;exact ih (m - 1) (by omega) _ _ ⟨i+1,done++[j],M,by omega,by simp[hdl],by rw[<- hse]; simp,hln,by rw[hr]; simp,hm',hq,t7,t8,t22,rfl⟩
   ·have hd1:decide ((i:Int) < (l.length:Int))=false:=by simp; omega
    rw[List.drop_eq_nil_of_le (by omega)]at hse hr;refine goN ?_;simp only[push_cast,seval,↓kw2,t7,t8,t22,t23,hd1];rw[zBu,List.append_nil]at hse;rw[List.append_nil,hse]at hr;have hsl:(zBu (stM l) l).length=l.length:=settleL_length _ _;have hz:=frz_row hr (by rw[zM]; omega) (purL_jobs (settleL_good hl.2));rw[zM,hsl]at hz;refine⟨_,rfl,3,?_⟩;rw[setS,if_neg (by intro h; rw[h]at hne; simp at hne)];show frz 3 H' (.tup [.sl id 0 l.length l.length,I 0])=_;unfold Go.Ab.frz
    split
    ·rename_i hq';simp[AV.pur,AV.purL]at hq'
    ·simp only[mapO,hz];rfl
 ·rw[if_neg h0];refine goQ e66 TOk.nil 0 ?_ (by simp[AV.purL,AV.pur,hpu,hpl]);simp only[push_cast,seval,↓kw2,k1,k2,k3,n1,n2,n3];refine AC.pur ht ?_;refine goN ?_;simp only[push_cast,seval,↓kw2,k1,k2,k3,n1,n2,n3,h0];exact⟨_,rfl,zAa rfl rfl⟩
def lateJ(now next:Int)(j:Jb):Bool:=decide (next<=j.id)||decide (now < j.came)
theorem e69:Ent zP 69 Tryz.f69 [] 2:=.mk Tryz.func69 rfl
theorem jobs1_ac{s:Sta}(h:s.good){j:Jb}(hj:j.good){H:List AO}(h0:H[0]?=some (.cells [I s.c.a,I s.c.b,I s.c.c,I s.c.boot,I s.c.free,I s.c.tries,I s.c.age,s.cs,I s.now,I s.next,s.js,s.ps,s.ks,s.ds,s.hs,s.us])){K:AV->List AO->Prop}(hK:∀ X,K (B (lateJ s.now s.next j)) (H++X)) :
  AC zP GG 69 [j.av,.ptr 0 0] H K:=by
 obtain⟨m1,m2,m3⟩:=IsSl.cell hj;have h0':∀ l,(H++l)[0]?=some (.cells [I s.c.a,I s.c.b,I s.c.c,I s.c.boot,I s.c.free,I s.c.tries,I s.c.age,s.cs,I s.now,I s.next,s.js,s.ps,s.ks,s.ds,s.hs,s.us]):=fun l=>(zL (zAc h0)).trans h0
 unfold lateJ at hK;show AC zP GG 69 [JB j.id j.user j.cls j.w j.wall j.prio j.held j.aft j.st j.came,.ptr 0 0] H K;cases hc:decide (s.next<=j.id)
 ·rw[hc]at hK;refine goE e69 TOk.nil 0 ?_;simp only[push_cast,seval,↓kw2,m1,m2,m3,h0,h0',zAd,getA,zAe,setA,zAb,hc,zDz,gsK_var];exact⟨_,rfl,hK _⟩
 ·rw[hc]at hK;refine goE e69 TOk.nil 0 ?_;simp only[push_cast,seval,↓kw2,m1,m2,m3,h0,h0',zAd,getA,zAe,setA,zAb,hc];exact⟨_,rfl,hK _⟩
def jobsV(x:Cfg)(l:List Jb)(now next:Int):Bool:=decide (tblE x l=0)&&(sameJ (zBu (stM l) l) l&&!anyN (fun i=>lateJ now next ((zBu (stM l) l).getD i default)) l.length 0)
theorem e35:Ent zP 35 Tryz.f35 [] 1:=.mk Tryz.func35 rfl
theorem jobsT_pur{s:Sta}(h:s.good):Pur zP GG 35 [s.av] (B (jobsV s.c s.jobs s.now s.next)):=by
 have hZ:=h.cell;obtain⟨⟨⟨a1,a2,a3⟩,b1,b2,b3⟩,⟨⟨c1,c2,c3⟩,d1,d2,d3⟩,⟨e1,e2,e3⟩,⟨f1,f2,f3⟩,g1,g2,g3⟩:=h.cell;obtain⟨p1,p2,p3,p4,p5,p6,p7⟩:=h.purs;have hS:=settle_pur s.c h.cs h.js;simp only[Cfg.av]at hS;unfold jobsV;show Pur zP GG 35 [ST s.c.a s.c.b s.c.c s.c.boot s.c.free s.c.tries s.c.age s.cs s.now s.next s.js s.ps s.ks s.ds s.hs s.us] _
 by_cases h0:tblE s.c s.jobs=0
 ·have hl:=tbl_len h0;have hln:(zBu (stM s.jobs) s.jobs).length=s.jobs.length:=settleL_length _ _;have hjs:=setS_jobs h.js;have haf:∀ j∈zBu (stM s.jobs) s.jobs,j.after.length<=2^20:=settleL_after fun j hj=>by
   have:=Jb.rises_len (Jb.chk_facts (tbl_chk h0 j hj)).2.1;omega
  have hq:=same_pur hjs h.js (by omega) haf;rw[if_pos h0]at hS;rw[h0]at hS ⊢;rw[show decide ((0:Int)=0)=true from rfl,Bool.true_and];obtain⟨o1,o2,o3⟩:=hjs.1.cell;have hjs1:=hjs.1
  generalize setS s.js s.jobs=sj at hS hjs hq o1 o2 o3 hjs1
  cases hsm:sameJ (zBu (stM s.jobs) s.jobs) s.jobs
  ·rw[hsm]at hq;refine goQ e35 TOk.nil 0 ?_ (by simp[AV.purL,AV.pur,p1,p2,p3,p4,p5,p6,p7]);simp only[push_cast,seval,↓kw2,hZ];refine AC.pur hS ?_;refine goN ?_;simp only[push_cast,seval,↓kw2,hZ];refine AC.pur hq ?_;refine goN ?_;simp only[push_cast,seval,↓kw2,hZ];exact⟨_,rfl,zAa rfl rfl⟩
  ·rw[hsm]at hq;refine goQ e35 TOk.nil 0 ?_ (by simp[AV.purL,AV.pur,p1,p2,p3,p4,p5,p6,p7]);simp only[push_cast,seval,↓kw2,hZ];refine AC.pur hS ?_;refine goN ?_;simp only[push_cast,seval,↓kw2,hZ];refine AC.pur hq ?_;refine goN ?_;simp only[push_cast,seval,↓kw2,hZ];refine hasJ hjs1 (by omega) (fun _ H=>H[0]?=some (.cells [I s.c.a,I s.c.b,I s.c.c,I s.c.boot,I s.c.free,I s.c.tries,I s.c.age,s.cs,I s.now,I s.next,s.js,s.ps,s.ks,s.ds,s.hs,s.us])) (pr:=fun i=>lateJ s.now s.next ((zBu (stM s.jobs) s.jobs).getD i default)) ?_ rfl ?_
   ·rintro i H K hi hs0 hK
    exact jobs1_ac h (hjs.get i) hs0 fun X=>hK _ ((zL (zAc hs0)).trans hs0)
   rintro H' ⟨_,_,hs0⟩
   rw[hln];refine goN ?_;simp only[push_cast,seval,↓kw2];cases hA:anyN (fun i=>lateJ s.now s.next ((zBu (stM s.jobs) s.jobs).getD i default)) s.jobs.length 0
   ·exact⟨_,rfl,zAa rfl rfl⟩
   ·exact⟨_,rfl,zAa rfl rfl⟩
 ·rw[if_neg h0]at hS;rw[zF h0,Bool.false_and];refine goQ e35 TOk.nil 0 ?_ (by simp[AV.purL,AV.pur,p1,p2,p3,p4,p5,p6,p7]);simp only[push_cast,seval,↓kw2,hZ];refine AC.pur hS ?_;refine goN ?_;simp only[push_cast,seval,↓kw2,hZ,h0];exact⟨_,rfl,zAa rfl rfl⟩
structure Sl where
 s:AV
 l:List Int
 h:IsSl s (l.map IA)
instance:Inhabited Sl:=⟨⟨.isl [],[],.inl rfl⟩⟩
theorem Sl.cells(x:Sl):x.s.cells=[x.s]:=x.h.cell.2.2
theorem Sl.pur(x:Sl):x.s.pur=true:=x.h.pur (zAi IA _ (fun _=>rfl))
theorem e245:Ent zP 245 Tryz.f245 [] 2:=.mk Tryz.func245 rfl
theorem idxL{g:Nat}{caps:List AV}{pr:Nat->Bool}{l:List Sl}{s:AV}(hs:IsSl s (l.map Sl.s))(hl:l.length<=2^20)(St:Nat->List AO->Prop)
  (hp:∀(i:Nat) (H:List AO) (K:AV->List AO->Prop),i < l.length->St i H->(∀ H',St (i+1) H'->K (B (pr i)) H')->AC zP GG g (Sl.s (l.getD i default)::caps) H K) {H:List AO} {K:AV->List AO->Prop} (h0:St 0 H)
  (hK:∀ H',(∃ i,i<=l.length/\St i H')->K (I (zBz pr l.length 0)) H'):AC zP GG 245 [s,.fn g [] caps] H K:=by
 have hlen:=hs.len un275;rw[zM]at hlen;have hidx:=fun(i:Nat) (hi:i < l.length) (H:List AO)=>hs.idx (P:=zP) un275 sz30 (i:=(i:Int)) (by rw[zM]; omega) (by omega) H
 refine goE e245 TOk.nil 0 ?_;simp only[push_cast,seval,↓kw2,hlen];refine FW.loopInv (fun m ts H'=>∃ i:Nat,i+m=l.length/\zBz pr m i=zBz pr l.length 0/\St i H'/\ts 0=s/\ts 1=.fn g [] caps/\ts 7=I (l.length:Int)/\ts 8=I (i:Int)) l.length
  ⟨0,by omega,rfl,h0,rfl,rfl,rfl,rfl⟩ ?_
 rintro m ih ts H' ⟨i,hi,hf,hst,t0,t1,t7,t8⟩
 refine FW.inLoop ?_
 by_cases hlt:i < l.length
 ·have hd1:decide ((i:Int) < (l.length:Int))=true:=by simp[hlt]
  have hx:=hidx i hlt;have hgy:=zAj Sl.s l default hlt;simp only[Int.toNat_natCast]at hx;rw[hgy]at hx;have hpi:=hp i;obtain⟨m,rfl⟩:∃ m',m=m'+1:=⟨m - 1,by omega⟩
  generalize l.getD i default=x at hx hpi
  have hcx:=Sl.cells x;have hbb:(0<=(i:Int)/\(i:Int) < ((l.map Sl.s).length:Int)):=⟨by omega,by rw[zM]; omega⟩;refine goN ?_;simp only[push_cast,seval,↓kw2,t0,t1,t7,t8,hd1,hx,hcx]
  first
   | refine⟨hbb,?_⟩
   | refine⟨⟨hbb,rfl⟩,?_⟩
  refine hpi _ _ hlt hst ?_
  intro H2 hst2
  rw[zCv]at hf;cases hpx:pr i
  ·rw[hpx,if_neg (by decide)]at hf;refine goN ?_;simp only[push_cast,seval,↓kw2,t8];rw[zAl (n:=(i:Int)+1) (by omega) (by omega)];exact ih m (by omega) _ _ ⟨i+1,by omega,hf,hst2,t0,t1,t7,rfl⟩
  ·rw[hpx,if_pos rfl]at hf;refine goN ?_;simp only[push_cast,seval,↓kw2,t8];exact⟨_,rfl,by rw[hf]; exact hK _ ⟨i+1,by omega,hst2⟩⟩
 ·have hd1:decide ((i:Int) < (l.length:Int))=false:=by simp; omega
  have hm:m=0:=by omega
  subst hm;refine goN ?_;simp only[push_cast,seval,↓kw2,t7,t8,hd1];exact⟨_,rfl,by rw[show(-1:Int)=zBz pr l.length 0 from hf]; exact hK _ ⟨i,by omega,hst⟩⟩
theorem e191:Ent zP 191 Tryz.f191 [] 2:=.mk Tryz.func191 rfl
theorem hasL{g:Nat}{caps:List AV}{pr:Nat->Bool}{l:List Sl}{s:AV}(hs:IsSl s (l.map Sl.s))(hl:l.length<=2^20)(St:Nat->List AO->Prop)
  (hp:∀(i:Nat) (H:List AO) (K:AV->List AO->Prop),i < l.length->St i H->(∀ H',St (i+1) H'->K (B (pr i)) H')->AC zP GG g (Sl.s (l.getD i default)::caps) H K) {H:List AO} {K:AV->List AO->Prop} (h0:St 0 H)
  (hK:∀ H',(∃ i,i<=l.length/\St i H')->K (B (anyN pr l.length 0)) H'):AC zP GG 191 [s,.fn g [] caps] H K:=by
 simp only[<- zDw]at hK;refine goE e191 TOk.nil 0 ?_;simp only[push_cast,seval,↓kw2];refine idxL hs hl St hp h0 ?_
 intro H' hh
 refine goN ?_;simp only[push_cast,seval,↓kw2];exact⟨_,rfl,hK _ hh⟩
theorem e247:Ent zP 247 Tryz.f247 [] 2:=.mk Tryz.func247 rfl
theorem grow_ac{n:Nat}(hn:n<=2^30){H:List AO}{K:AV->List AO->Prop}(h0:n=0->K (.c (.slice none 0 0)) H)(h1:0 < n->K (.sl H.length 0 0 n) (H++[.arr 1 (List.replicate n (I 0))])):AC zP GG 247 [.c (.slice none 0 0),I n] H K:=by
 have d1:decide ((n:Int) < 0)=false:=zF (by omega);have hw:IntKind.i64.wrap ((n:Int) - 0)=n:=by rw[Int.sub_zero]; exact zAl (by omega) (by omega)
 cases n with
 | zero =>
  refine goE e247 TOk.nil 0 ?_;simp only[push_cast,seval,↓kw2,aop3,aCap,natc0];exact⟨_,rfl,h0 rfl⟩
 | succ n =>
  have d2:decide (0 < ((n+1:Nat):Int))=true:=zT (by omega);have h1':=h1 (by omega)
  generalize hN:((n+1:Nat):Int)=N at *
  have hap:∀ H,aAppMake zP 30 (.c (.slice none 0 0)) (I N) H=some ⟨(n+1)*8<=2^40/\n+1<=2^40,.sl H.length 0 (n+1) (n+1),H++[.arr 1 (List.replicate (n+1) (I 0))]⟩:=fun H=>by
   subst hN;unfold aAppMake;simp only[un30,ze3,by3,aInt,emptyS,if_true];rfl
  refine goE e247 TOk.nil 0 ?_;simp only[push_cast,seval,↓kw2,aop3,aCap,d1,d2,hw,hap,zCm,zBi,zAd];exact⟨⟨by omega,by omega⟩,_,rfl,h1'⟩
def Gro(H:List AO)(s:AV)(acc:List Int):Prop:=(s=.c (.slice none 0 0)/\acc=[])\/∃ id cap es,s=.sl id 0 acc.length cap/\0 < cap/\H[id]?=some (.arr 1 es)/\acc.length<=es.length/\es.take acc.length=acc.map IA
theorem app_gro{H:List AO}{s:AV}{acc:List Int}(h:Gro H s acc)(x:Sl)(hx:s=.c (.slice none 0 0)->x.l=[]):∃ C s' H',zBk zP 30 30 s x.s H=some ⟨C,s',H'⟩/\(acc.length+x.l.length<=2^20->C)/\Gro H' s' (acc++x.l)/\(s'=.c (.slice none 0 0) ↔ s=.c (.slice none 0 0)):=by
 obtain⟨xs,l,hl⟩:=x;simp only at hx ⊢;have key:∃ c,elsOf H 1 xs=some (c,l.map IA)/\c:=by
  rcases hl with rfl | ⟨h0,rfl⟩
  ·refine⟨_,rfl,fun h=>?_⟩;cases l with
   | nil=>simp at h
   | cons y l=>rfl
  ·rw[h0]; exact⟨_,rfl,trivial⟩
 obtain⟨c,he,hc⟩:=key;unfold zBk;simp only[un30,ze3,by3,show(AV.c (Value.int IntKind.i64 0)).cells.length=1 from rfl,he]
 rcases h with ⟨rfl,rfl⟩ | ⟨id,cap,es,rfl,hcap,hid,hle,htk⟩
 ·rw[hx rfl];exact⟨_,_,_,rfl,fun _=>hc,.inl ⟨rfl,rfl⟩,Iff.rfl⟩
 ·cases l with
  | nil=>exact⟨_,_,_,rfl,fun _=>hc,.inr ⟨id,cap,es,by rw[List.append_nil],hcap,hid,by rw[List.append_nil]; exact hle,by rw[List.append_nil]; exact htk⟩,Iff.rfl⟩
  | cons y l =>
   simp only[List.map_cons,hid];rw[if_pos ⟨trivial,by omega,hcap⟩];refine⟨_,_,_,rfl,fun hb=>⟨hc,?_,?_⟩,.inr ⟨H.length,acc.length+(l.length+1),acc.map IA++(IA y::l.map IA),?_,?_,?_,?_,?_⟩,⟨(fun h=>by cases h),(fun h=>by cases h)⟩⟩
   ·simp only[List.length_cons,zM]at hb ⊢; omega
   ·simp only[List.length_cons,zM]at hb ⊢; omega
   ·simp
   ·omega
   ·rw[List.getElem?_append_right (by simp),List.length_set,Nat.sub_self,List.drop_zero,htk]; rfl
   ·simp
   ·rw[show acc.map IA++(IA y::l.map IA)=(acc++y::l).map IA by simp,List.take_of_length_le (by simp)]
theorem grow_gro{n:Nat}(hn:n<=2^30){H:List AO}{K:AV->List AO->Prop}(hK:∀ s H',Gro H' s []->(s=.c (.slice none 0 0) ↔ n=0)->K s H'):AC zP GG 247 [.c (.slice none 0 0),I n] H K :=
 grow_ac hn (fun h=>hK _ _ (.inl ⟨rfl,rfl⟩) ⟨fun _=>h,fun _=>rfl⟩) fun h=>hK _ _ (.inr ⟨H.length,n,List.replicate n (I 0),rfl,h,by rw[zAd]; rfl,by simp,by simp⟩) ⟨(fun h=>by cases h),fun e=>by omega⟩
def zDe(ls:List Sl):List Int:=ls.flatMap Sl.l
theorem flatS_cons(x:Sl)(ls:List Sl):zDe (x::ls)=x.l++zDe ls:=by simp[zDe]
theorem gro_frz{H:List AO}{s:AV}{acc:List Int}(h:Gro H s acc)(h0:s=.c (.slice none 0 0)\/0 < acc.length):∃ n,frz n H s=some (frS (acc.map IA)):=by
 rcases h with ⟨rfl,rfl⟩ | ⟨id,cap,es,rfl,hcap,hid,hle,htk⟩
 ·exact⟨1,rfl⟩
 ·have hp:0 < acc.length:=by
   rcases h0 with h | h
   ·cases h
   ·exact h
  refine⟨2,?_⟩;unfold Go.Ab.frz;simp only[AV.pur,Bool.false_eq_true,if_false,hid,Nat.zero_add,hle,if_true,List.drop_zero,htk];rw[zFo (zAi IA _ (fun _=>rfl)),frS_ne (by rw[zM]; exact hp)];rfl
theorem e194:Ent zP 194 Tryz.f194 [] 1:=.mk Tryz.func194 rfl
theorem concat_pur{ls:List Sl}(hn:ls.length<=2^10)(ht:(zDe ls).length<=2^20):Pur zP GG 194 [.isl (ls.map Sl.s)] (frS ((zDe ls).map IA)):=by
 have hs:IsSl (.isl (ls.map Sl.s)) (ls.map Sl.s):=.inl rfl;have hp:AV.purL (ls.map Sl.s)=true:=zAi Sl.s _ Sl.pur;have hp0:=hs.pur hp;have hlen:=hs.len un275;rw[zM]at hlen;have hidx:=fun(i:Nat) (hi:i < ls.length) (H:List AO)=>hs.idx (P:=zP) un275 sz30 (i:=(i:Int)) (by rw[zM]; omega) (by omega) H
 generalize hS:AV.isl (ls.map Sl.s)=S at *
 refine goQ e194 TOk.nil 0 ?_ (by simp[AV.purL,AV.pur,hp0]);simp only[push_cast,seval,↓kw2,hlen];refine FW.loopInv (fun m ts H=>∃ i:Nat,i+m=ls.length/\H=[]/\ts 0=S/\ts 3=I (((zDe ls).length - (zDe (ls.drop i)).length:Nat):Int)/\(zDe (ls.drop i)).length<=(zDe ls).length/\ts 9=S/\ts 10=I (ls.length:Int)/\ts 11=I (i:Int)) ls.length
  ⟨0,by omega,rfl,rfl,by rw[List.drop_zero,Nat.sub_self]; rfl,Nat.le_refl _,rfl,rfl,rfl⟩ ?_
 rintro m ih ts H ⟨i,hi,rfl,t0,t3,hle,t9,t10,t11⟩
 refine FW.inLoop ?_
 by_cases hlt:i < ls.length
 ·have hd1:decide ((i:Int) < (ls.length:Int))=true:=by simp[hlt]
  have hx:=hidx i hlt;have hgy:=zAj Sl.s ls default hlt;simp only[Int.toNat_natCast]at hx;rw[hgy]at hx;rw[zBa default hlt,flatS_cons,List.length_append]at t3 hle
  generalize ls.getD i default=x at hx t3 hle
  have hcx:=x.cells;have hlx:=x.h.len un30;rw[zM]at hlx;have hbb:(0<=(i:Int)/\(i:Int) < ((ls.map Sl.s).length:Int)):=⟨by omega,by rw[zM]; omega⟩;have hi1:=zAl (n:=(i:Int)+1) (by omega) (by omega);have hw:IntKind.i64.wrap ((((zDe ls).length - (x.l.length+(zDe (ls.drop (i+1))).length):Nat):Int)+(x.l.length:Int))=(((zDe ls).length - (zDe (ls.drop (i+1))).length:Nat):Int):=by
   rw[zAl (by omega) (by omega)]; omega
  have hneg:decide ((((zDe ls).length - (zDe (ls.drop (i+1))).length:Nat):Int) < 0)=false:=zF (by omega);refine goN ?_;simp only[push_cast,seval,↓kw2,t0,t3,t9,t10,t11,hd1,hx,hcx,hlx,hw,hneg,hi1];exact⟨hbb,ih (m - 1) (by omega) _ _ ⟨i+1,by omega,rfl,t0,rfl,by omega,t9,t10,rfl⟩⟩
 ·have hd1:decide ((i:Int) < (ls.length:Int))=false:=by simp; omega
  rw[List.drop_eq_nil_of_le (by omega)]at t3;rw[show(zDe ls).length - (zDe []).length=(zDe ls).length from rfl]at t3;refine goN ?_;simp only[push_cast,seval,↓kw2,t0,t3,t9,t10,t11,hd1];refine grow_gro (by omega) ?_
  intro s1 H1 hg1 hz1
  refine goN ?_;simp only[push_cast,seval,↓kw2,t0,hlen];refine FW.loopInv (fun m ts H=>∃(i:Nat) (s:AV) (acc:List Int),i+m=ls.length/\acc++zDe (ls.drop i)=zDe ls/\Gro H s acc/\(s=.c (.slice none 0 0) ↔ zDe ls=[])/\ts 6=s/\ts 25=S/\ts 26=I (ls.length:Int)/\ts 27=I (i:Int)) ls.length
   ⟨0,s1,[],by omega,by simp,hg1,hz1.trans List.length_eq_zero_iff,rfl,rfl,rfl,rfl⟩ ?_
  clear ih hi t0 t3 hle t9 t10 t11 hd1 hlt hg1 hz1
  rintro m ih ts H ⟨i,s,acc,hi,hacc,hg,hz,t6,t25,t26,t27⟩
  refine FW.inLoop ?_
  by_cases hlt:i < ls.length
  ·have hd1:decide ((i:Int) < (ls.length:Int))=true:=by simp[hlt]
   have hx:=hidx i hlt;have hgy:=zAj Sl.s ls default hlt;simp only[Int.toNat_natCast]at hx;rw[hgy]at hx;rw[zBa default hlt,flatS_cons]at hacc
   generalize ls.getD i default=x at hx hacc
   have hcx:=x.cells;have hbb:(0<=(i:Int)/\(i:Int) < ((ls.map Sl.s).length:Int)):=⟨by omega,by rw[zM]; omega⟩;have hi1:=zAl (n:=(i:Int)+1) (by omega) (by omega);have hL:=congrArg List.length hacc;simp only[List.length_append]at hL;obtain⟨C,s',H',hap,hC,hg',hz'⟩:=app_gro hg x fun h=>by
    have:=hz.1 h;rw[this]at hacc;simp at hacc;exact hacc.2.1
   refine goN ?_;simp only[push_cast,seval,↓kw2,t6,t25,t26,t27,hd1,hx,hcx,hap,hi1];exact⟨hbb,hC (by omega),ih (m - 1) (by omega) _ _ ⟨i+1,s',acc++x.l,by omega,by rw[List.append_assoc]; exact hacc,hg',hz'.trans hz,rfl,t25,t26,rfl⟩⟩
  ·have hd1:decide ((i:Int) < (ls.length:Int))=false:=by simp; omega
   rw[List.drop_eq_nil_of_le (by omega),show zDe []=[] from rfl,List.append_nil]at hacc;refine goN ?_;simp only[push_cast,seval,↓kw2,t6,t25,t26,t27,hd1];rw[<- hacc];refine⟨_,rfl,gro_frz hg ?_⟩
   by_cases h:s=.c (.slice none 0 0)
   ·exact .inl h
   ·exact .inr (by
     rw[hacc];exact List.length_pos_iff.2 fun e=>h (hz.2 e))
def Sta.hit(s:Sta)(X:Plc)(node link:Int):Bool:=if -1<=node/\node < zAf s.c.a s.c.b s.c.c/\-1<=link/\link < 3*zAf s.c.a s.c.b s.c.c then hitV s.c.a s.c.b s.c.c X node link else false
def Sta.sound(s:Sta)(X:Plc):Bool:=!anyN (fun i=>s.hit X (s.down.getD i 0) (-1)) s.down.length 0&&!anyN (fun i=>s.hit X (-1) (s.cut.getD i 0)) s.cut.length 0
def Sta.cel(s:Sta):List AV:=[I s.c.a,I s.c.b,I s.c.c,I s.c.boot,I s.c.free,I s.c.tries,I s.c.age,s.cs,I s.now,I s.next,s.js,s.ps,s.ks,s.ds,s.hs,s.us]
theorem e196:Ent zP 196 Tryz.f196 [] 4:=.mk Tryz.func196 rfl
theorem sound1_ac{s:Sta}{X:Plc}(hX:X.ok s.c.a s.c.b s.c.c)(node link:Int){H:List AO}{q r:Nat}(hq:H[q]?=some (.cells s.cel))(hr:H[r]?=some (.cells X.av.cells)){K:AV->List AO->Prop}(hK:K (B (s.hit X node link)) H):AC zP GG 196 [I node,I link,.ptr q 0,.ptr r 0] H K:=by
 have hh:=hit_pur s.c.a s.c.b s.c.c X hX node link;rw[show(if -1<=node/\node < zAf s.c.a s.c.b s.c.c/\-1<=link/\link < 3*zAf s.c.a s.c.b s.c.c then hitV s.c.a s.c.b s.c.c X node link else false)=s.hit X node link from rfl]at hh;rw[Plc.cells]at hr;unfold Sta.cel at hq;simp only[Plc.av]at hh
 generalize (if -1<=node/\node < zAf s.c.a s.c.b s.c.c/\-1<=link/\link < 3*zAf s.c.a s.c.b s.c.c then (0:Int) else 2)=e at hh
 refine goE e196 TOk.nil 0 ?_;simp only[push_cast,seval,↓kw2,hq,hr,List.length_cons,List.length_nil,List.take];refine AC.pur hh ?_;refine goN ?_;simp only[push_cast,seval,↓kw2];exact⟨_,rfl,hK⟩
theorem e198:Ent zP 198 Tryz.f198 [] 2:=.mk Tryz.func198 rfl
theorem sound2_ac{s:Sta}{X:Plc}(hX:X.ok s.c.a s.c.b s.c.c)(node:Int){H:List AO}{q r f:Nat}(hq:H[q]?=some (.cells s.cel))(hr:H[r]?=some (.cells X.av.cells))(hf:H[f]?=some (.cells [.fn 196 [] [.ptr q 0,.ptr r 0]])){K:AV->List AO->Prop}(hK:K (B (s.hit X node (-1))) H):AC zP GG 198 [I node,.ptr f 0] H K:=by
 refine goE e198 TOk.nil 0 ?_;simp only[push_cast,seval,↓kw2,hf];refine sound1_ac hX node (-1) hq hr ?_;refine goN ?_;simp only[push_cast,seval,↓kw2];exact⟨_,rfl,hK⟩
theorem e199:Ent zP 199 Tryz.f199 [] 2:=.mk Tryz.func199 rfl
theorem sound3_ac{s:Sta}{X:Plc}(hX:X.ok s.c.a s.c.b s.c.c)(link:Int){H:List AO}{q r f:Nat}(hq:H[q]?=some (.cells s.cel))(hr:H[r]?=some (.cells X.av.cells))(hf:H[f]?=some (.cells [.fn 196 [] [.ptr q 0,.ptr r 0]])){K:AV->List AO->Prop}(hK:K (B (s.hit X (-1) link)) H):AC zP GG 199 [I link,.ptr f 0] H K:=by
 refine goE e199 TOk.nil 0 ?_;simp only[push_cast,seval,↓kw2,hf];refine sound1_ac hX (-1) link hq hr ?_;refine goN ?_;simp only[push_cast,seval,↓kw2];exact⟨_,rfl,hK⟩
theorem e133:Ent zP 133 Tryz.f133 [] 2:=.mk Tryz.func133 rfl
theorem sound_pur{s:Sta}(h:s.good)(hl:s.lim){X:Plc}(hX:X.ok s.c.a s.c.b s.c.c):Pur zP GG 133 [s.av,X.av] (B (s.sound X)):=by
 have hZ:=h.cell;obtain⟨⟨⟨a1,a2,a3⟩,b1,b2,b3⟩,⟨⟨c1,c2,c3⟩,d1,d2,d3⟩,⟨e1,e2,e3⟩,⟨f1,f2,f3⟩,g1,g2,g3⟩:=h.cell;obtain⟨p1,p2,p3,p4,p5,p6,p7⟩:=h.purs;unfold Sta.sound;show Pur zP GG 133 [ST s.c.a s.c.b s.c.c s.c.boot s.c.free s.c.tries s.c.age s.cs s.now s.next s.js s.ps s.ks s.ds s.hs s.us,PL X.x X.y X.z X.p X.q X.r X.s X.t X.u] _;refine goQ e133 TOk.nil 0 ?_ (by simp[AV.purL,AV.pur,p1,p2,p3,p4,p5,p6,p7]);simp only[push_cast,seval,↓kw2,hZ];refine hasI h.ds hl.dl (fun _ H=>H=[AO.cells s.cel,AO.cells X.av.cells,AO.cells [.fn 196 [] [.ptr 0 0,.ptr 1 0]]]) (pr:=fun i=>s.hit X (s.down.getD i 0) (-1)) ?_ rfl ?_
 ·rintro i H K hi rfl hK
  exact sound2_ac hX _ (q:=0) (r:=1) (f:=2) rfl rfl rfl (hK _ rfl)
 rintro H' ⟨_,_,rfl⟩
 unfold Sta.cel;rw[Plc.cells];cases hA:anyN (fun i=>s.hit X (s.down.getD i 0) (-1)) s.down.length 0
 ·skip
  refine goN ?_;simp only[push_cast,seval,↓kw2,hZ];refine hasI h.us hl.ul (fun _ H=>H=[AO.cells s.cel,AO.cells X.av.cells,AO.cells [.fn 196 [] [.ptr 0 0,.ptr 1 0]]]) (pr:=fun i=>s.hit X (-1) (s.cut.getD i 0)) ?_ rfl ?_
  ·rintro i H K hi rfl hK
   exact sound3_ac hX _ (q:=0) (r:=1) (f:=2) rfl rfl rfl (hK _ rfl)
  rintro H' ⟨_,_,rfl⟩
  refine goN ?_;simp only[push_cast,seval,↓kw2];exact⟨_,rfl,zAa rfl rfl⟩
 ·skip
  refine goN ?_;simp only[push_cast,seval,↓kw2,hZ];exact⟨_,rfl,zAa rfl rfl⟩
theorem isE_ok{a b c:Int}{w:Wnt}{X:Plc}(h:isE a b c w X=0):X.ok a b c:=by
 unfold isE at h
 split at h
 ·unfold pchk at h
  split at h
  ·split at h
   ·assumption
   ·omega
  ·exact absurd h (by assumption)
 ·exact absurd h (by assumption)
def Sta.part(s:Sta)(p:Prt):Bool :=
 s.isJob p&&decide (s.c.spE p (s.jobOf p).wall=0)&&!decide (s.now < p.since)&&!decide (1099511627776 < s.ends p)&&!decide (s.c.turn p (s.jobOf p).wall<=s.now)&&decide (isE s.c.a s.c.b s.c.c (s.jobOf p).w p.pl=0)&&isV s.c.a s.c.b s.c.c (s.jobOf p).w p.pl &&
  (if p.ph=3 then decide (3<=(s.jobOf p).st) else decide ((s.jobOf p).st=2)&&s.sound p.pl)
theorem e71:Ent zP 71 Tryz.f71 [] 2:=.mk Tryz.func71 rfl
theorem partS_pur{s:Sta}(h:s.good)(hl:s.lim)(p:Prt):Pur zP GG 71 [s.av,p.av] (B (s.part p)):=by
 have hZ:=h.cell;obtain⟨⟨⟨a1,a2,a3⟩,b1,b2,b3⟩,⟨⟨c1,c2,c3⟩,d1,d2,d3⟩,⟨e1,e2,e3⟩,⟨f1,f2,f3⟩,g1,g2,g3⟩:=h.cell;obtain⟨p1,p2,p3,p4,p5,p6,p7⟩:=h.purs;have hj:=jobS_pur h hl p;have hg:=s.jobOf_good h p;have hT:=turns16_pur s.c p (s.jobOf p).wall h.cs;have hI:=spotsIs_pur s.c.a s.c.b s.c.c (s.jobOf p).w p.pl;have hE:=fun h1 h2 h3 h4 h5=>endsS_pur h hl p h1 h2 h3 h4 h5
 have hS:=fun(hX:p.pl.ok s.c.a s.c.b s.c.c)=>sound_pur h hl hX
 unfold Sta.part;simp only[Sta.av,Prt.av,Plc.av,Wnt.av,Cfg.av]at hj hT hI hE hS
 generalize hjj:s.jobOf p=j at hj hg hT hI hE ⊢
 obtain⟨m1,m2,m3⟩:=IsSl.cell hg;simp only[Jb.av]at hj;show Pur zP GG 71 [ST s.c.a s.c.b s.c.c s.c.boot s.c.free s.c.tries s.c.age s.cs s.now s.next s.js s.ps s.ks s.ds s.hs s.us,PA p.job p.pl p.ph p.tries p.since] _;cases q1:s.isJob p
 ·rw[q1]at hj;simp only[Bool.false_and];refine goQ e71 TOk.nil 0 ?_ (by simp[AV.purL,AV.pur,p1,p2,p3,p4,p5,p6,p7]);simp only[push_cast,seval,↓kw2,hZ];refine AC.pur hj ?_;refine goN ?_;simp only[push_cast,seval,↓kw2,hZ,m1,m2,m3];exact⟨_,rfl,zAa rfl rfl⟩
 rw[q1]at hj
 by_cases q2:s.c.spE p j.wall=0
 ·rw[if_pos q2,q2]at hT;obtain⟨⟨_,hpp⟩,k1,k2,k3,k4⟩:=Cfg.sp_facts q2;have hE':=hE (Cfg.part_ph hpp) (by omega) (by omega) (by omega) k1;rw[zT q2]
  by_cases q3:s.now < p.since
  ·rw[zT q3];simp only[Bool.not_true,Bool.and_false,Bool.false_and];refine goQ e71 TOk.nil 0 ?_ (by simp[AV.purL,AV.pur,p1,p2,p3,p4,p5,p6,p7]);simp only[push_cast,seval,↓kw2,hZ];refine AC.pur hj ?_;refine goN ?_;simp only[push_cast,seval,↓kw2,hZ,m1,m2,m3];refine AC.pur hT ?_;refine goN ?_;simp only[push_cast,seval,↓kw2,hZ,m1,m2,m3,q3];exact⟨_,rfl,zAa rfl rfl⟩
  rw[zF q3]
  by_cases q4:1099511627776 < s.ends p
  ·rw[zT q4];simp only[Bool.not_true,Bool.and_false,Bool.false_and];refine goQ e71 TOk.nil 0 ?_ (by simp[AV.purL,AV.pur,p1,p2,p3,p4,p5,p6,p7]);simp only[push_cast,seval,↓kw2,hZ];refine AC.pur hj ?_;refine goN ?_;simp only[push_cast,seval,↓kw2,hZ,m1,m2,m3];refine AC.pur hT ?_;refine goN ?_;simp only[push_cast,seval,↓kw2,hZ,m1,m2,m3,q3];refine AC.pur hE' ?_;refine goN ?_;simp only[push_cast,seval,↓kw2,hZ,m1,m2,m3,q4];exact⟨_,rfl,zAa rfl rfl⟩
  rw[zF q4]
  by_cases q5:s.c.turn p j.wall<=s.now
  ·rw[zT q5];simp only[Bool.not_true,Bool.and_false,Bool.false_and];refine goQ e71 TOk.nil 0 ?_ (by simp[AV.purL,AV.pur,p1,p2,p3,p4,p5,p6,p7]);simp only[push_cast,seval,↓kw2,hZ];refine AC.pur hj ?_;refine goN ?_;simp only[push_cast,seval,↓kw2,hZ,m1,m2,m3];refine AC.pur hT ?_;refine goN ?_;simp only[push_cast,seval,↓kw2,hZ,m1,m2,m3,q3];refine AC.pur hE' ?_;refine goN ?_;simp only[push_cast,seval,↓kw2,hZ,m1,m2,m3,q4,q5];exact⟨_,rfl,zAa rfl rfl⟩
  rw[zF q5];simp only[Bool.not_false,Bool.true_and,Bool.and_true];refine goQ e71 TOk.nil 0 ?_ (by simp[AV.purL,AV.pur,p1,p2,p3,p4,p5,p6,p7]);simp only[push_cast,seval,↓kw2,hZ];refine AC.pur hj ?_;refine goN ?_;simp only[push_cast,seval,↓kw2,hZ,m1,m2,m3];refine AC.pur hT ?_;refine goN ?_;simp only[push_cast,seval,↓kw2,hZ,m1,m2,m3,q3];refine AC.pur hE' ?_;refine goN ?_;simp only[push_cast,seval,↓kw2,hZ,m1,m2,m3,q4,q5,List.length_cons,List.length_nil,List.take];refine AC.pur hI ?_
  by_cases q6:isE s.c.a s.c.b s.c.c j.w p.pl=0
  ·rw[zT q6];simp only[Bool.true_and];cases q7:isV s.c.a s.c.b s.c.c j.w p.pl
   ·simp only[Bool.false_and];refine goN ?_;simp only[push_cast,seval,↓kw2,hZ,m1,m2,m3,q6];exact⟨_,rfl,zAa rfl rfl⟩
   simp only[Bool.true_and]
   by_cases q8:p.ph=3
   ·rw[if_pos q8];have d8:decide (p.ph=3)=true:=zT q8;refine goN ?_;simp only[push_cast,seval,↓kw2,hZ,m1,m2,m3,q6,d8];exact⟨_,rfl,zAa rfl rfl⟩
   ·rw[if_neg q8];have d8:decide (p.ph=3)=false:=zF q8
    by_cases q9:j.st=2
    ·have d9:decide (j.st=2)=true:=zT q9;rw[d9,Bool.true_and];refine goN ?_;simp only[push_cast,seval,↓kw2,hZ,m1,m2,m3,q6,d8,d9,List.length_cons,List.length_nil,List.take];refine AC.pur (hS (isE_ok q6)) ?_;refine goN ?_;simp only[push_cast,seval,↓kw2];exact⟨_,rfl,zAa rfl rfl⟩
    ·have d9:decide (j.st=2)=false:=zF q9;rw[d9,Bool.false_and];refine goN ?_;simp only[push_cast,seval,↓kw2,hZ,m1,m2,m3,q6,d8,d9];exact⟨_,rfl,zAa rfl rfl⟩
  ·rw[zF q6];simp only[Bool.false_and];refine goN ?_;simp only[push_cast,seval,↓kw2,hZ,m1,m2,m3,q6];exact⟨_,rfl,zAa rfl rfl⟩
 ·rw[zF q2];simp only[Bool.and_false,Bool.false_and];refine goQ e71 TOk.nil 0 ?_ (by simp[AV.purL,AV.pur,p1,p2,p3,p4,p5,p6,p7]);simp only[push_cast,seval,↓kw2,hZ];refine AC.pur hj ?_;refine goN ?_;simp only[push_cast,seval,↓kw2,hZ,m1,m2,m3];refine AC.pur hT ?_;refine goN ?_;simp only[push_cast,seval,↓kw2,hZ,m1,m2,m3,q2];exact⟨_,rfl,zAa rfl rfl⟩
theorem toVQ{f:FuncId}{args:List AV}{v:AV}(h:Pur zP GG f args v):PurV zP GG (.fn f [] []) args v:=Pur.toV (by simpa using h)
structure Bx6 where
 x:Int
 y:Int
 z:Int
 p:Int
 q:Int
 r:Int
 deriving DecidableEq
def Bx6.pl(b:Bx6):Plc:=keptP b.x b.y b.z b.p b.q b.r
def Kep.bx(k:Kep):Bx6:=⟨k.x,k.y,k.z,k.p,k.q,k.r⟩
def tk1(s:Sta)(b:Bx6)(fr till:Int)(k:Kep):Bool:=decide (k.fr < till)&&decide (fr < k.till)&&s.meet k.bx.pl b.pl
def tk2(s:Sta)(b:Bx6)(fr till:Int)(p:Prt):Bool:=decide (fr < s.ends p)&&s.meet p.pl b.pl
theorem e138:Ent zP 138 Tryz.f138 [] 4:=.mk Tryz.func138 rfl
theorem taken1_ac{s:Sta}(h:s.good)(b:Bx6)(fr till:Int)(k:Kep){H:List AO}{q0 q1 q2:Nat}(h0:H[q0]?=some (.cells s.cel))(h1:H[q1]?=some (.cells [I b.x,I b.y,I b.z,I b.p,I b.q,I b.r]))(h2:H[q2]?=some (.cells [I fr,I till])){K:AV->List AO->Prop}(hK:∀ X,K (B (tk1 s b fr till k)) (H++X)) :
  AC zP GG 138 [k.av,.ptr q2 0,.ptr q0 0,.ptr q1 0] H K:=by
 have hZ:=h.cell;obtain⟨⟨⟨a1,a2,a3⟩,b1,b2,b3⟩,⟨⟨c1,c2,c3⟩,d1,d2,d3⟩,⟨e1,e2,e3⟩,⟨f1,f2,f3⟩,g1,g2,g3⟩:=h.cell;obtain⟨p1,p2,p3,p4,p5,p6,p7⟩:=h.purs;have hm:=meetS_pur h k.bx.pl b.pl;have w0:∀ X,(H++X)[q0]?=some (.cells s.cel):=fun X=>(zL (zAc h0)).trans h0
 have w1:∀ X,(H++X)[q1]?=some (.cells [I b.x,I b.y,I b.z,I b.p,I b.q,I b.r]):=fun X=>(zL (zAc h1)).trans h1
 have w2:∀ X,(H++X)[q2]?=some (.cells [I fr,I till]):=fun X=>(zL (zAc h2)).trans h2
 unfold Sta.cel at h0 w0;have u1:=kept_pur k.x k.y k.z k.p k.q k.r;have u2:=kept_pur b.x b.y b.z b.p b.q b.r;unfold tk1 at hK;simp only[Sta.av,Plc.av,Bx6.pl,Kep.bx,keptP]at hm u1 u2;show AC zP GG 138 [KP k.id k.x k.y k.z k.p k.q k.r k.fr k.till,.ptr q2 0,.ptr q0 0,.ptr q1 0] H K
 by_cases x1:k.fr < till
 ·have dx1:=zT x1
  by_cases x2:fr < k.till
  ·have dx2:=zT x2;rw[dx1,dx2,Bool.true_and,Bool.true_and]at hK;refine goE e138 TOk.nil 0 ?_;simp only[push_cast,seval,↓kw2,hZ,h0,h1,h2,w0,w1,w2,zAd,getA,zAe,setA,zAb,List.length_cons,List.length_nil,List.take,dx1,dx2];refine⟨_,toVQ u1,?_⟩;refine⟨_,toVQ u2,?_⟩;refine⟨_,toVQ hm,?_⟩;exact⟨_,rfl,hK _⟩
  ·have dx2:=zF x2;rw[dx2,Bool.and_false,Bool.false_and]at hK;refine goE e138 TOk.nil 0 ?_;simp only[push_cast,seval,↓kw2,hZ,h0,h1,h2,w0,w1,w2,zAd,getA,zAe,setA,zAb,List.length_cons,List.length_nil,List.take,dx1,dx2];exact⟨_,rfl,hK _⟩
 ·have dx1:=zF x1;rw[dx1,Bool.false_and,Bool.false_and]at hK;refine goE e138 TOk.nil 0 ?_;simp only[push_cast,seval,↓kw2,hZ,h0,h1,h2,w0,w1,w2,zAd,getA,zAe,setA,zAb,List.length_cons,List.length_nil,List.take,dx1];exact⟨_,rfl,hK _⟩
theorem e140:Ent zP 140 Tryz.f140 [] 4:=.mk Tryz.func140 rfl
theorem taken2_ac{s:Sta}(h:s.good)(b:Bx6)(fr till:Int)(p:Prt)(hE:Pur zP GG 132 [s.av,p.av] (I (s.ends p))){H:List AO}{q0 q1 q2:Nat}(h0:H[q0]?=some (.cells s.cel))(h1:H[q1]?=some (.cells [I b.x,I b.y,I b.z,I b.p,I b.q,I b.r]))(h2:H[q2]?=some (.cells [I fr,I till])){K:AV->List AO->Prop}(hK:∀ X,K (B (tk2 s b fr till p)) (H++X)) :
  AC zP GG 140 [p.av,.ptr q0 0,.ptr q2 0,.ptr q1 0] H K:=by
 have hZ:=h.cell;obtain⟨⟨⟨a1,a2,a3⟩,b1,b2,b3⟩,⟨⟨c1,c2,c3⟩,d1,d2,d3⟩,⟨e1,e2,e3⟩,⟨f1,f2,f3⟩,g1,g2,g3⟩:=h.cell;obtain⟨p1,p2,p3,p4,p5,p6,p7⟩:=h.purs;have hm:=meetS_pur h p.pl b.pl;have w0:∀ X,(H++X)[q0]?=some (.cells s.cel):=fun X=>(zL (zAc h0)).trans h0
 have w1:∀ X,(H++X)[q1]?=some (.cells [I b.x,I b.y,I b.z,I b.p,I b.q,I b.r]):=fun X=>(zL (zAc h1)).trans h1
 have w2:∀ X,(H++X)[q2]?=some (.cells [I fr,I till]):=fun X=>(zL (zAc h2)).trans h2
 unfold Sta.cel at h0 w0;have u2:=kept_pur b.x b.y b.z b.p b.q b.r;unfold tk2 at hK;simp only[Sta.av,Plc.av,Prt.av,Bx6.pl,keptP]at hm u2 hE;show AC zP GG 140 [PA p.job p.pl p.ph p.tries p.since,.ptr q0 0,.ptr q2 0,.ptr q1 0] H K
 by_cases x1:fr < s.ends p
 ·have dx1:=zT x1;rw[dx1,Bool.true_and]at hK;refine goE e140 TOk.nil 0 ?_;simp only[push_cast,seval,↓kw2,hZ,h0,h1,h2,w0,w1,w2,zAd,getA,zAe,setA,zAb,List.length_cons,List.length_nil,List.take];refine⟨_,toVQ hE,?_⟩;simp only[push_cast,seval,↓kw2,hZ,h0,h1,h2,w0,w1,w2,zAd,getA,zAe,setA,zAb,List.length_cons,List.length_nil,List.take,dx1];refine⟨_,toVQ u2,?_⟩;refine⟨_,toVQ hm,?_⟩;exact⟨_,rfl,hK _⟩
 ·have dx1:=zF x1;rw[dx1,Bool.false_and]at hK;refine goE e140 TOk.nil 0 ?_;simp only[push_cast,seval,↓kw2,hZ,h0,h1,h2,w0,w1,w2,zAd,getA,zAe,setA,zAb,List.length_cons,List.length_nil,List.take];refine⟨_,toVQ hE,?_⟩;simp only[push_cast,seval,↓kw2,hZ,h0,h1,h2,w0,w1,w2,zAd,getA,zAe,setA,zAb,List.length_cons,List.length_nil,List.take,dx1];exact⟨_,rfl,hK _⟩
def Sta.taken(s:Sta)(l:List Kep)(b:Bx6)(fr till:Int):Bool:=anyN (fun i=>tk1 s b fr till (l.getD i default)) l.length 0||anyN (fun i=>tk2 s b fr till (s.parts.getD i default)) s.parts.length 0
theorem e77:Ent zP 77 Tryz.f77 [] 4:=.mk Tryz.func77 rfl
theorem takenS_pur{s:Sta}(h:s.good)(hl:s.lim)(hE:∀ p∈s.parts,Pur zP GG 132 [s.av,p.av] (I (s.ends p))){l:List Kep}{r:AV}(hr:IsSl r (l.map Kep.av))(hll:l.length<=2^20)(b:Bx6)(fr till:Int) :
  Pur zP GG 77 [s.av,r,.agg [I b.x,I b.y,I b.z,I b.p,I b.q,I b.r],.agg [I fr,I till]] (B (s.taken l b fr till)):=by
 have hZ:=h.cell;obtain⟨⟨⟨a1,a2,a3⟩,b1,b2,b3⟩,⟨⟨c1,c2,c3⟩,d1,d2,d3⟩,⟨e1,e2,e3⟩,⟨f1,f2,f3⟩,g1,g2,g3⟩:=h.cell;obtain⟨p1,p2,p3,p4,p5,p6,p7⟩:=h.purs;have hpk:=hr.pur (zAi Kep.av _ (fun _=>rfl));obtain⟨z1,z2,z3⟩:=hr.cell;unfold Sta.taken;show Pur zP GG 77 [ST s.c.a s.c.b s.c.c s.c.boot s.c.free s.c.tries s.c.age s.cs s.now s.next s.js s.ps s.ks s.ds s.hs s.us,r,.agg [I b.x,I b.y,I b.z,I b.p,I b.q,I b.r],.agg [I fr,I till]] _;refine goQ e77 TOk.nil 0 ?_ (by simp[AV.purL,AV.pur,p1,p2,p3,p4,p5,p6,p7,hpk]);simp only[push_cast,seval,↓kw2,hZ,z1,z2,z3];refine hasK hr hll (fun _ H=>∃ X,H=AO.cells s.cel::AO.cells [I b.x,I b.y,I b.z,I b.p,I b.q,I b.r]::AO.cells [I fr,I till]::X) (pr:=fun i=>tk1 s b fr till (l.getD i default)) ?_ ⟨[],rfl⟩ ?_
 ·rintro i H K hi ⟨X,rfl⟩ hK
  exact taken1_ac h b fr till _ (q0:=0) (q1:=1) (q2:=2) rfl rfl rfl fun X2=>hK _ ⟨X++X2,rfl⟩
 rintro H' ⟨_,_,X,rfl⟩
 cases hA:anyN (fun i=>tk1 s b fr till (l.getD i default)) l.length 0
 ·unfold Sta.cel;refine goN ?_;simp only[push_cast,seval,↓kw2,hZ];refine hasP h.ps hl.pl (fun _ H=>∃ X,H=AO.cells s.cel::AO.cells [I b.x,I b.y,I b.z,I b.p,I b.q,I b.r]::AO.cells [I fr,I till]::X) (pr:=fun i=>tk2 s b fr till (s.parts.getD i default)) ?_ ⟨X,rfl⟩ ?_
  ·rintro i H K hi ⟨X,rfl⟩ hK
   exact taken2_ac h b fr till _ (hE _ (by simp[List.getD,hi])) (q0:=0) (q1:=1) (q2:=2) rfl rfl rfl fun X2=>hK _ ⟨X++X2,rfl⟩
  rintro H' ⟨_,_,X2,rfl⟩
  refine goN ?_;simp only[push_cast,seval,↓kw2];exact⟨_,rfl,zAa rfl rfl⟩
 ·unfold Sta.cel;refine goN ?_;simp only[push_cast,seval,↓kw2,hZ];exact⟨_,rfl,zAa rfl rfl⟩
theorem mark_in{n:Int}{l:List Int}(h:zEy n l=true):(∀ k∈l,0<=k/\k < n)/\(0 < l.length->(l.length:Int)<=n):=by
 unfold zEy at h;rw[Bool.not_eq_true',Bool.eq_false_iff,Ne,anyN_iff]at h;have hk:∀ i,i < l.length->(i:Int)<=l.getD i 0/\l.getD i 0 < n:=by
  intro i
  induction i with
  | zero =>
   intro hi
   have h1:oddM n l 0=false:=by
    rw[Bool.eq_false_iff];exact fun e=>h ⟨0,by omega,by omega,e⟩
   unfold oddM at h1;rw[Bool.or_eq_false_iff,decide_eq_false_iff_not,decide_eq_false_iff_not,if_pos rfl]at h1;omega
  | succ i ih =>
   intro hi
   have h1:oddM n l (i+1)=false:=by
    rw[Bool.eq_false_iff];exact fun e=>h ⟨i+1,by omega,by omega,e⟩
   unfold oddM at h1;rw[Bool.or_eq_false_iff,decide_eq_false_iff_not,decide_eq_false_iff_not,if_neg (by omega),Nat.add_sub_cancel]at h1;have:=ih (by omega);omega
 refine⟨fun k hk'=>?_,fun h0=>?_⟩
 ·obtain⟨i,hi,rfl⟩:=List.getElem_of_mem hk';have:=hk i hi;rw[getD_lt hi]at this;omega
 ·have:=hk (l.length - 1) (by omega);omega
def markA(n:Int)(ls:List Sl):Bool:=!anyN (fun i=>!zEy n (ls.getD i default).l) ls.length 0
theorem markA_in{n:Int}:∀ {ls:List Sl},markA n ls=true->∀ x∈ls,zEy n x.l=true:=by
 intro ls h x hx
 unfold markA at h;rw[Bool.not_eq_true',Bool.eq_false_iff,Ne,anyN_iff]at h;obtain⟨i,hi,rfl⟩:=List.getElem_of_mem hx;cases hm:zEy n ls[i].l
 ·exact absurd ⟨i,by omega,by omega,by rw[show ls.getD i default=ls[i] by simp[List.getD,hi],hm]; rfl⟩ h
 ·rfl
theorem flatS_in{n:Int}{ls:List Sl}(h:markA n ls=true):∀ k∈zDe ls,0<=k/\k < n:=by
 intro k hk
 obtain⟨x,hx,hk⟩:=List.mem_flatMap.1 hk;exact(mark_in (markA_in h x hx)).1 k hk
theorem flatS_len{n:Nat}:∀ {ls:List Sl},(∀ x∈ls,x.l.length<=n)->(zDe ls).length<=ls.length*n
 | [],_=>by simp[zDe]
 | x::ls,h=>by
  rw[flatS_cons,List.length_append,List.length_cons,Nat.add_mul];have:=flatS_len (ls:=ls) fun y hy=>h y (List.mem_cons_of_mem _ hy)
  have:=h x (by simp);omega
theorem e192:Ent zP 192 Tryz.f192 [] 2:=.mk Tryz.func192 rfl
theorem together1_ac{n:Int}(x:Sl)(hx:x.l.length<=2^20){H:List AO}(h0:H[0]?=some (.cells [I n])){K:AV->List AO->Prop}(hK:K (B (!zEy n x.l)) H):AC zP GG 192 [x.s,.ptr 0 0] H K:=by
 obtain⟨m1,m2,m3⟩:=IsSl.cell x.h;refine goE e192 TOk.nil 0 ?_;simp only[push_cast,seval,↓kw2,h0,m1,m2,m3];refine AC.pur (marks_pur n x.h hx) ?_;refine goN ?_;simp only[push_cast,seval,↓kw2,m1,m2,m3];exact⟨_,rfl,hK⟩
theorem e129:Ent zP 129 Tryz.f129 [] 2:=.mk Tryz.func129 rfl
theorem together_pur{n:Int}(hn:1<=n/\n<=12288){ls:List Sl}(h2:ls.length<=2)(hl:∀ x∈ls,x.l.length<=2^20):Pur zP GG 129 [I n,.isl (ls.map Sl.s)]
  (.tup [if markA n ls=true then .isl ((ofL n (zDe ls)).map U) else .c (.slice none 0 0),I (if markA n ls=true then 0 else 8)]):=by
 have hs:IsSl (.isl (ls.map Sl.s)) (ls.map Sl.s):=.inl rfl;have hp:AV.purL (ls.map Sl.s)=true:=zAi Sl.s _ Sl.pur;have hp0:=hs.pur hp;have hc:=fun h=>concat_pur (ls:=ls) (by omega) h
 obtain⟨m1,m2,m3⟩:=hs.cell
 generalize AV.isl (ls.map Sl.s)=S at *
 refine goQ e129 TOk.nil 0 ?_ (by simp[AV.purL,AV.pur,hp0]);simp only[push_cast,seval,↓kw2,m1,m2,m3];refine hasL hs (by omega) (fun _ H=>H=[AO.cells [I n]]) (pr:=fun i=>!zEy n (ls.getD i default).l) ?_ rfl ?_
 ·rintro i H K hi rfl hK
  have hxm:ls.getD i default∈ls:=by
   rw[show ls.getD i default=ls[i] by simp[List.getD,hi]];exact List.getElem_mem hi
  exact together1_ac _ (hl _ hxm) rfl (hK _ rfl)
 rintro H' ⟨_,_,rfl⟩
 have hma:markA n ls=!anyN (fun i=>!zEy n (ls.getD i default).l) ls.length 0:=rfl;cases hA:anyN (fun i=>!zEy n (ls.getD i default).l) ls.length 0
 ·rw[hA]at hma;have hin:=flatS_in hma;have hle:(zDe ls).length<=24576:=by
   have:=flatS_len (ls:=ls) (n:=12288) fun x hx=>by
    rcases Nat.eq_zero_or_pos x.l.length with h | h
    ·omega
    ·have:=(mark_in (markA_in hma x hx)).2 h;omega
   have h3:ls.length*12288<=2*12288:=Nat.mul_le_mul_right _ h2;omega
  rw[hma];simp only[Bool.not_false,if_true];have ho:=zEq n (zDe ls) ⟨hn,hin,by omega⟩;refine goN ?_;simp only[push_cast,seval,↓kw2,m1,m2,m3];refine⟨_,toVQ (hc (by omega)),?_⟩;refine⟨_,toVQ ho,?_⟩;simp only[push_cast,seval,↓kw2];exact⟨_,rfl,zAa (by simp[AV.pur,AV.purL,zAi U _ (fun _=>rfl)]) rfl⟩
 ·rw[hA]at hma;rw[hma];simp only[Bool.not_true,Bool.false_eq_true,if_false];refine goN ?_;simp only[push_cast,seval,↓kw2,m1,m2,m3];exact⟨_,rfl,zAa rfl rfl⟩
theorem markA_two{n:Int}(x y:Sl):markA n [x,y]=(zEy n x.l&&zEy n y.l):=by
 show(!(!zEy n x.l||(!zEy n y.l||false)))=_;cases zEy n x.l <;> cases zEy n y.l <;> rfl
theorem markA_one{n:Int}(x:Sl):markA n [x]=zEy n x.l:=by
 show(!(!zEy n x.l||false))=_;cases zEy n x.l <;> rfl
theorem zFp{a b c:Int}(h:okD a b c):1<=a*b*c:=by
 unfold okD at h;have:=Int.mul_pos (Int.mul_pos (show 0 < a by omega) (show 0 < b by omega)) (show 0 < c by omega);omega
def badV(n:Int)(d h u:List Int):Bool:=(zEy n d&&zEy n h)&&zEy (3*n) u
theorem e70:Ent zP 70 Tryz.f70 [] 4:=.mk Tryz.func70 rfl
theorem bad_pur{a b c:Int}(hd:okD a b c){d h u:Sl}(l1:d.l.length<=2^20)(l2:h.l.length<=2^20)(l3:u.l.length<=2^20) :
  ∃ A C:AV,Pur zP GG 70 [.agg [I a,I b,I c],d.s,h.s,u.s] (.tup [A,C,I (if badV (a*b*c) d.l h.l u.l=true then 0 else 8)]):=by
 have hm:=many_pur a b c;have hk:=chk_ok.2 hd;have hv:zAf a b c=a*b*c:=by rw[zAf,if_pos hd]
 rw[hk,hv]at hm;obtain⟨q1,q2,q3,q4⟩:=zBx hd;have hn1:1<=a*b*c:=zFp hd;have h3:IntKind.i64.wrap (3*(a*b*c))=3*(a*b*c):=zAl (by omega) (by omega)
 generalize hN:a*b*c=N at *
 have t1:=together_pur (n:=N) (by omega) (ls:=[d,h]) (by simp) (by simp; omega);have t2:=together_pur (n:=3*N) (by omega) (ls:=[u]) (by simp) (by simp; omega);rw[markA_two]at t1;rw[markA_one]at t2;obtain⟨d1,d2,d3⟩:=IsSl.cell d.h;obtain⟨h1,h2,h3'⟩:=IsSl.cell h.h;obtain⟨u1,u2,u3⟩:=IsSl.cell u.h;have pd:=d.pur;have ph:=h.pur;have pu:=u.pur;unfold badV;cases ha:(zEy N d.l&&zEy N h.l)
 ·rw[ha]at t1;simp only[Bool.false_eq_true,if_false]at t1;refine⟨.c (.slice none 0 0),.c (.slice none 0 0),?_⟩;refine goQ e70 TOk.nil 0 ?_ (by simp[AV.purL,AV.pur,pd,ph,pu]);simp only[push_cast,seval,↓kw2,d1,d2,d3,h1,h2,h3',u1,u2,u3];refine AC.pur hm ?_;refine goN ?_;simp only[push_cast,seval,↓kw2,d1,d2,d3,h1,h2,h3',u1,u2,u3];refine Own.freeze (f:=129) (pre:=[I N]) (post:=[]) (s:=.sl 1 0 2 2) (es:=[d.s,h.s]) (Own.row (es:=[d.s,h.s]) rfl (by simp)) (by simp[AV.purL,pd,ph]) ?_
  intro H1 _
  refine AC.pur t1 ?_;refine goN ?_;simp only[push_cast,seval,↓kw2,d1,d2,d3,h1,h2,h3',u1,u2,u3,h3];exact⟨_,rfl,zAa rfl rfl⟩
 ·rw[ha]at t1;simp only[if_true]at t1;rw[Bool.true_and];cases hb:zEy (3*N) u.l
  ·rw[hb]at t2;simp only[Bool.false_eq_true,if_false]at t2;refine⟨.c (.slice none 0 0),.c (.slice none 0 0),?_⟩;refine goQ e70 TOk.nil 0 ?_ (by simp[AV.purL,AV.pur,pd,ph,pu]);simp only[push_cast,seval,↓kw2,d1,d2,d3,h1,h2,h3',u1,u2,u3];refine AC.pur hm ?_;refine goN ?_;simp only[push_cast,seval,↓kw2,d1,d2,d3,h1,h2,h3',u1,u2,u3];refine Own.freeze (f:=129) (pre:=[I N]) (post:=[]) (s:=.sl 1 0 2 2) (es:=[d.s,h.s]) (Own.row (es:=[d.s,h.s]) rfl (by simp)) (by simp[AV.purL,pd,ph]) ?_
   intro H1 _
   refine AC.pur t1 ?_;refine goN ?_;simp only[push_cast,seval,↓kw2,d1,d2,d3,h1,h2,h3',u1,u2,u3,h3];refine Own.freeze (f:=129) (pre:=[I (3*N)]) (post:=[]) (s:=.sl H1.length 0 1 1) (es:=[u.s]) (Own.row (es:=[u.s]) (by rw[zAd]; rfl) (by simp)) (by simp[AV.purL,pu]) ?_
   intro H2 _
   refine AC.pur t2 ?_;refine goN ?_;simp only[push_cast,seval,↓kw2];exact⟨_,rfl,zAa rfl rfl⟩
  ·rw[hb]at t2;simp only[if_true]at t2;refine⟨.isl ((ofL N (zDe [d,h])).map U),.isl ((ofL (3*N) (zDe [u])).map U),?_⟩
   generalize hA:AV.isl ((ofL N (zDe [d,h])).map U)=A at t1
   generalize hB:AV.isl ((ofL (3*N) (zDe [u])).map U)=C at t2
   have hpA:A.pur=true:=by rw[<- hA]; simp[AV.pur,zAi U _ (fun _=>rfl)]
   have hpC:C.pur=true:=by rw[<- hB]; simp[AV.pur,zAi U _ (fun _=>rfl)]
   refine goQ e70 TOk.nil 0 ?_ (by simp[AV.purL,AV.pur,pd,ph,pu]);simp only[push_cast,seval,↓kw2,d1,d2,d3,h1,h2,h3',u1,u2,u3];refine AC.pur hm ?_;refine goN ?_;simp only[push_cast,seval,↓kw2,d1,d2,d3,h1,h2,h3',u1,u2,u3];refine Own.freeze (f:=129) (pre:=[I N]) (post:=[]) (s:=.sl 1 0 2 2) (es:=[d.s,h.s]) (Own.row (es:=[d.s,h.s]) rfl (by simp)) (by simp[AV.purL,pd,ph]) ?_
   intro H1 _
   refine AC.pur t1 ?_;refine goN ?_;simp only[push_cast,seval,↓kw2,d1,d2,d3,h1,h2,h3',u1,u2,u3,h3];refine Own.freeze (f:=129) (pre:=[I (3*N)]) (post:=[]) (s:=.sl H1.length 0 1 1) (es:=[u.s]) (Own.row (es:=[u.s]) (by rw[zAd]; rfl) (by simp)) (by simp[AV.purL,pu]) ?_
   intro H2 _
   refine AC.pur t2 ?_;refine goN ?_;simp only[push_cast,seval,↓kw2];exact⟨_,rfl,zAa (by simp[AV.pur,AV.purL,hpA,hpC]) rfl⟩
def Sta.marks(s:Sta):Bool:=badV (s.c.a*s.c.b*s.c.c) s.down s.shut s.cut
theorem e36:Ent zP 36 Tryz.f36 [] 1:=.mk Tryz.func36 rfl
theorem marksS_pur{s:Sta}(h:s.good)(hl:s.lim)(hd:okD s.c.a s.c.b s.c.c):Pur zP GG 36 [s.av] (B s.marks):=by
 have hZ:=h.cell;obtain⟨⟨⟨a1,a2,a3⟩,b1,b2,b3⟩,⟨⟨c1,c2,c3⟩,d1,d2,d3⟩,⟨e1,e2,e3⟩,⟨f1,f2,f3⟩,g1,g2,g3⟩:=h.cell;obtain⟨p1,p2,p3,p4,p5,p6,p7⟩:=h.purs;obtain⟨A,C,hB⟩:=bad_pur hd (d:=⟨s.ds,s.down,h.ds⟩) (h:=⟨s.hs,s.shut,h.hs⟩) (u:=⟨s.us,s.cut,h.us⟩) hl.dl hl.hl hl.ul;unfold Sta.marks;show Pur zP GG 36 [ST s.c.a s.c.b s.c.c s.c.boot s.c.free s.c.tries s.c.age s.cs s.now s.next s.js s.ps s.ks s.ds s.hs s.us] _;cases hv:badV (s.c.a*s.c.b*s.c.c) s.down s.shut s.cut
 ·simp only[hv,Bool.false_eq_true,if_false]at hB;refine goQ e36 TOk.nil 0 ?_ (by simp[AV.purL,AV.pur,p1,p2,p3,p4,p5,p6,p7]);simp only[push_cast,seval,↓kw2,hZ];refine AC.pur hB ?_;refine goN ?_;simp only[push_cast,seval,↓kw2];exact⟨_,rfl,zAa rfl rfl⟩
 ·simp only[hv,if_true]at hB;refine goQ e36 TOk.nil 0 ?_ (by simp[AV.purL,AV.pur,p1,p2,p3,p4,p5,p6,p7]);simp only[push_cast,seval,↓kw2,hZ];refine AC.pur hB ?_;refine goN ?_;simp only[push_cast,seval,↓kw2];exact⟨_,rfl,zAa rfl rfl⟩
end Go.Ab.Pd
namespace Go.Ab
open Go.Proofs
open Go.Proofs.Tryz renaming prog->zP
section
variable {P:Program} {G:Gl} {ops:Array Oper}
def lin(ops:Array Oper):Nat->Array Bool->List (List Nat)
 | 0,_=>[[]]
 | f+1,listed=>match Region.ready .any ops listed with
  | []=>[[]]
  | rs=>rs.flatMap fun i=>(lin ops f (listed.setIfInBounds i true)).map (i::·)
def linOk(ops:Array Oper):Nat->Array Bool->Bool
 | 0,listed=>(Region.ready .any ops listed).isEmpty
 | f+1,listed=>(Region.ready .any ops listed).all fun i=>(match ops[i]? with
  | some o=>!(clOf o.op==.call)
  | none=>false)&&linOk ops f (listed.setIfInBounds i true)
theorem stepR_all{imp:Nat->Bool}{i:Nat}{ts:Nat->AV}{H:List AO}{S:List (List Nat)}{K:List Nat->(Nat->AV)->List AO->Prop}(hne:S≠[])(hc:(match ops[i]? with
  | some o=>!(clOf o.op==.call)
  | none=>false)=true) (h:∀ l∈S,zCn P G ops imp i ts H (K l)):zCn P G ops imp i ts H fun ts' H'=>∀ l∈S,K l ts' H':=by
 cases S with
 | nil=>exact absurd rfl hne
 | cons l0 S =>
  have h0:=h l0 (by simp);unfold zCn at h0 h ⊢;cases ho:ops[i]? with
  | none=>rw[ho]at h0; exact h0.elim
  | some o =>
   rw[ho]at hc;simp only[ho]at h0 h ⊢
   split at h0
   ·rename_i hw;simp only[hw,if_true]at h ⊢
    split at h0
    ·rename_i f args tys hop;simp[hop,clOf]at hc
    ·rename_i hn;obtain⟨r,hr,hrc,_⟩:=h0;refine⟨r,hr,hrc,fun l hl=>?_⟩;have:=h l hl
     split at this
     ·rename_i hop; exact absurd hop (hn _ _ _)
     ·obtain⟨r',hr',_,hk⟩:=this;rw[hr]at hr';cases hr';exact hk
   ·rename_i hw;simp only[hw,if_false]at h ⊢;exact h
theorem lin_ne:∀(f:Nat) (listed:Array Bool),lin ops f listed≠[]
 | 0,_=>by simp[lin]
 | f+1,listed=>by
  unfold lin
  split
  ·simp
  ·rename_i rs hrs;cases hr:Region.ready .any ops listed with
   | nil=>exact absurd hr hrs
   | cons i rs =>
    simp[lin_ne f]
theorem lin_sound{imp:Nat->Bool}{K:(Nat->AV)->List AO->Prop}:∀(f:Nat) (listed:Array Bool) (ts:Nat->AV) (H:List AO),linOk ops f listed=true->(∀ l∈lin ops f listed,runR P G ops imp K l ts H)->anyR P G ops imp K f listed ts H
 | 0,listed,ts,H,hk,h=>⟨by simpa[linOk]using hk,h [] (by simp[lin])⟩
 | f+1,listed,ts,H,hk,h=>by
  unfold linOk at hk;rw[List.all_eq_true]at hk;refine⟨fun e=>?_,fun i hi=>?_⟩
  ·refine h [] ?_;unfold lin;rw[e];simp
  ·have hk':=hk i hi;rw[zA]at hk';have h1:∀ l∈lin ops f (listed.setIfInBounds i true),zCn P G ops imp i ts H (runR P G ops imp K l):=fun l hl=>by
    refine h (i::l) ?_;unfold lin;cases hr:Region.ready .any ops listed with
    | nil=>rw[hr]at hi; cases hi
    | cons a rs =>
     rw[hr]at hi;simp only[List.mem_flatMap,List.mem_map];exact⟨i,hi,l,hl,rfl⟩
   exact zDp (stepR_all (lin_ne f _) hk'.1 h1) fun ts' H' h2=>lin_sound f _ ts' H' hk'.2 h2
theorem FW.drawAll(hm:P.follows .mixedOrders=true){ls:List (List Nat)}(hl:lin ops ops.size (Array.replicate ops.size false)=ls)(hk:linOk ops ops.size (Array.replicate ops.size false)=true){rd:Option Nat}{n id:Nat}{k:List Item}{ts:Nat->AV}{H:List AO}{Q:Lv->(Nat->AV)->List AO->Prop}{Inv:(Nat->AV)->List AO->Prop}
  (h:∀ l∈ls,symR P G Tab.nil ops (fun _ ts H=>Inv ts H) true l ts H) (hK:∀ ts' H',Inv ts' H'->FW P G rd n k ts' H' Q):FW P G rd n (.code (.region id ops true)::k) ts H Q :=
 FW.draw hm (imp:=fun _=>false) (lin_sound _ _ _ _ hk fun l hl'=>zFb TOk.nil (fun ts' H' h'=>hK ts' H' h') l ts H (h l (hl ▸ hl')))
variable (P G) in
def symI(ops:Array Oper)(K:Bool->(Nat->AV)->List AO->Prop)(g:Bool):List Nat->(Nat->AV)->List AO->Prop
 | [],ts,H=>K true ts H
 | i::l,ts,H=>opK ops[i]? (fun _ dst op gd=>guK gd
   (fun g0=>roK (rog P G g0 Tab.nil op (ev ts) H) (fun g v H'=>symI ops K g l (Go.Ab.put ts dst v) H') (fun g f a=>ACV P G f a H fun v H'=>symI ops K false l (Go.Ab.put ts dst v) H') False)
   (fun _ j want=>tmK ((ops[j]?).bind (·.dst)) (fun g1 d=>gsK (look g1 ts d) (fun _ b=>biK (b==want)
     (fun g0=>roK (rog P G g0 Tab.nil op (ev (upd ts d (.c (.bool b)))) H) (fun g v H'=>symI ops K g l (Go.Ab.put (upd ts d (.c (.bool b))) dst v) H') (fun g f a=>ACV P G f a H fun v H'=>symI ops K false l (Go.Ab.put (upd ts d (.c (.bool b))) dst v) H') False)
     (fun g=>symI ops K g l (Go.Ab.put (upd ts d (.c (.bool b))) dst .un) H)) (fun g=>symI ops K g l (Go.Ab.put ts dst .un) H) False) False)) False
theorem symI_nil{K:Bool->(Nat->AV)->List AO->Prop}{ts:Nat->AV}{H:List AO}:symI P G ops K true [] ts H=K true ts H:=(rfl)
theorem symI_cons{K:Bool->(Nat->AV)->List AO->Prop}{i:Nat}{l:List Nat}{ts:Nat->AV}{H:List AO}:symI P G ops K true (i::l) ts H=opK ops[i]? (fun _ dst op gd=>guK gd
   (fun g0=>roK (rog P G g0 Tab.nil op (ev ts) H) (fun g v H'=>symI P G ops K g l (Go.Ab.put ts dst v) H') (fun g f a=>ACV P G f a H fun v H'=>symI P G ops K false l (Go.Ab.put ts dst v) H') False)
   (fun _ j want=>tmK ((ops[j]?).bind (·.dst)) (fun g1 d=>gsK (look g1 ts d) (fun _ b=>biK (b==want)
     (fun g0=>roK (rog P G g0 Tab.nil op (ev (upd ts d (.c (.bool b)))) H) (fun g v H'=>symI P G ops K g l (Go.Ab.put (upd ts d (.c (.bool b))) dst v) H') (fun g f a=>ACV P G f a H fun v H'=>symI P G ops K false l (Go.Ab.put (upd ts d (.c (.bool b))) dst v) H') False)
     (fun g=>symI P G ops K g l (Go.Ab.put (upd ts d (.c (.bool b))) dst .un) H)) (fun g=>symI P G ops K g l (Go.Ab.put ts dst .un) H) False) False)) False:=(rfl)
theorem symI_on{K:Bool->(Nat->AV)->List AO->Prop}{l:List Nat}{ts:Nat->AV}{H:List AO}:symI P G ops K false l ts H=symI P G ops K true l ts H:=by cases l <;> rfl
theorem ro_stepI{i:Nat}{o:Oper}{ts:Nat->AV}{H:List AO}(ho:ops[i]?=some o)(hw:zAp ops ts o=true){K:(Nat->AV)->List AO->Prop}
  (h:roK (roOf P G Tab.nil o.op (ev ts) H) (fun _ v H'=>K (Go.Ab.put ts o.dst v) H') (fun _ f a=>ACV P G f a H fun v H'=>K (Go.Ab.put ts o.dst v) H') False):zCn P G ops (fun _=>true) i ts H K:=by
 unfold zCn;simp only[ho,hw,if_true]
 split
 ·rename_i f args tys hop;rw[hop]at h;have:=rog_nil_call (P:=P) (G:=G) (g0:=true) (f:=f) (args:=args) (tys:=tys) (ρ:=ev ts) (H:=H);rw[rog_true]at this;rw[this]at h;exact h
 ·rename_i hn;unfold roOf at h
  split at h
  ·rename_i f args tys hop; exact absurd hop (hn _ _ _)
  ·cases hr:aop P G o.op (ev ts) H with
   | none=>rw[hr]at h; exact h.elim
   | some r=>rw[hr]at h; exact⟨r,rfl,h.1,h.2⟩
theorem zFs{K:Bool->(Nat->AV)->List AO->Prop}{K':(Nat->AV)->List AO->Prop}(hk:∀ ts H,K true ts H->K' ts H){g:Bool}:∀(l:List Nat) (ts:Nat->AV) (H:List AO),symI P G ops K g l ts H->runR P G ops (fun _=>true) K' l ts H
 | [],ts,H,h=>hk _ _ h
 | i::l,ts,H,h=>by
  unfold symI at h;show zCn P G ops (fun _=>true) i ts H (runR P G ops (fun _=>true) K' l);cases ho:ops[i]? with
  | none=>rw[ho]at h; exact h.elim
  | some o =>
   rw[ho]at h;simp only[opK]at h;cases hg:o.guard with
   | none =>
    rw[hg]at h;simp only[guK]at h;have hw:zAp ops ts o=true:=by simp[zAp,hg]
    exact ro_stepI ho hw (roK_mono h (fun v H' h'=>zFs (g:=true) hk l _ _ h') (fun f a h'=>ACV.mono h' fun v H' h''=>zFs (g:=false) hk l _ _ h'') id)
   | some q =>
    obtain⟨j,want⟩:=q;rw[hg]at h;simp only[guK]at h;cases hd:(ops[j]?).bind (·.dst)with
    | none=>rw[hd]at h; exact h.elim
    | some d =>
     rw[hd]at h;simp only[tmK]at h;unfold gsK look at h
     split at h
     ·rename_i b hb;have hgv:gval ops ts j=some b:=by simp[gval,hd,hb]
      rw[upd_self hb]at h
      by_cases e:b=want
      ·subst e;rw[show(b==b)=true by simp]at h;simp only[biK_t]at h;have hw:zAp ops ts o=true:=by simp[zAp,hg,hgv]
       exact ro_stepI ho hw (roK_mono h (fun v H' h'=>zFs (g:=true) hk l _ _ h') (fun f a h'=>ACV.mono h' fun v H' h''=>zFs (g:=false) hk l _ _ h'') id)
      ·rw[show(b==want)=false by simp[e]]at h;have hw:zAp ops ts o=false:=by simp[zAp,hg,hgv,e]
       unfold zCn;simp only[ho];rw[if_neg (by simp[hw])];exact zFs (g:=true) hk l _ _ h
     ·rename_i hb;have hgv:gval ops ts j=none:=by simp[gval,hd,hb]
      have hw:zAp ops ts o=false:=by simp[zAp,hg,hgv]
      unfold zCn;simp only[ho];rw[if_neg (by simp[hw])];exact zFs (g:=true) hk l _ _ h
     ·exact h.elim
theorem FW.drawI(hm:P.follows .mixedOrders=true)(hB:ordB ops (fun _=>true) (List.range ops.size)=true){rd:Option Nat}{n id:Nat}{k:List Item}{ts:Nat->AV}{H:List AO}{Q:Lv->(Nat->AV)->List AO->Prop}
  (h:symI P G ops (fun _ ts H=>FW P G rd n k ts H Q) true (List.range ops.size) ts H):FW P G rd n (.code (.region id ops true)::k) ts H Q :=
 FW.drawOrd hm hB (zFs (fun _ _ h'=>h') _ _ _ h)
end
end Go.Ab
namespace Go.Ab.Pd
open Go.Proofs
open Go.Proofs.Tryz renaming prog->zP
def SeqM{κ:Type}[Inhabited κ](M:MS κ):Prop:=M.2=M.1.length/\∀ i,i < M.1.length->(M.1.getD i default).1=i
def posM{κ:Type}[DecidableEq κ](M:MS κ)(k:κ):Nat:=match fndM k M.1 with
 | some i=>i
 | none=>M.1.length
def entM{κ:Type}[DecidableEq κ](M:MS κ)(k:κ):MS κ:=match fndM k M.1 with
 | some i=>M
 | none=>(M.1++[(M.2,k,0)],M.2+1)
section
variable {κ:Type} [DecidableEq κ] [Inhabited κ]
theorem seq_put{M:MS κ}(h:SeqM M)(k:κ)(v:Int):SeqM (putM M k v):=by
 obtain⟨h1,h2⟩:=h;unfold putM;cases hf:fndM k M.1 with
 | none =>
  refine⟨by simp[h1],fun i hi=>?_⟩;simp only[List.length_append,List.length_singleton]at hi
  by_cases hl:i < M.1.length
  ·have:=h2 i hl;simpa[List.getD,zL hl]using this
  ·have:i=M.1.length:=by omega
   subst this;simp[List.getD,h1]
 | some j =>
  obtain⟨hj,_⟩:=fndM_lt hf;refine⟨by simp[h1],fun i hi=>?_⟩;simp only[List.length_set]at hi
  by_cases hij:j=i
  ·subst hij;have:=h2 j hj;simpa[List.getD,hj]using this
  ·have:=h2 i hi;simpa[List.getD,zQ hij]using this
omit [DecidableEq κ] in
theorem find_stamp{ek:κ->AV}{ev:Int->AV}{l:List (Nat × κ × Int)}(h:∀ i,i < l.length->(l.getD i default).1=i){n:Nat}(hn:n < l.length):(encM ek ev l).findIdx? (fun e=>(e.1:Int)==(n:Int))=some n:=by
 rw[List.findIdx?_eq_some_iff_getElem];have hl:(encM ek ev l).length=l.length:=by simp[encM]
 have hg:∀ i (hi:i < l.length),((encM ek ev l)[i]'(by omega)).1=i:=fun i hi=>by
  have:=h i hi;simp[List.getD,hi]at this;simpa[encM]using this
 refine⟨by omega,by rw[hg n hn]; simp,fun j hj=>?_⟩;rw[hg j (by omega)];simp;omega
theorem ent_M{ek:κ->AV}{ev:Int->AV}{t kt et:TypeId}(hu:zP.underlying t=some (.map kt et))(hz:zBo zP et=some (ev 0))(he:∀ a b,aEq zP 10000 kt (ek a) (ek b)=some (decide (a=b)))(hck:∀ a,ckOk zP 10000 kt (ek a)=true)(hfl:∀ a,flatA (ek a)=true)
  {H:List AO} {id:Nat} {M:MS κ} (hS:SeqM M) (hm:H[id]?=some (.map (encM ek ev M.1) M.2)) (k:κ):aMapEntry zP t (.mp id) (ek k) H=some ⟨True,.tup [ev (getM M k),I (posM M k:Nat)],H.set id (.map (encM ek ev (entM M k).1) (entM M k).2)⟩:=by
 unfold aMapEntry getM posM entM;simp only[hu,hm,hck,hfl,and_self,if_true,find_M he];cases hf:fndM k M.1 with
 | none=>simp only[hz,encM_app,hS.1]
 | some i =>
  obtain⟨h1,h2⟩:=fndM_lt hf;have h3:=hS.2 i h1;simp only[encM_get h1 default,h2 default,h3,encM_set];have:M.1.set i (i,k,(M.1.getD i default).2.2)=M.1:=by
   exact set_getD (d:=default) h1 (Prod.ext h3 (Prod.ext (h2 default) rfl))
  rw[this]
theorem store_M{ek:κ->AV}{ev:Int->AV}{H:List AO}{id:Nat}{M:MS κ}(hS:SeqM M)(k:κ)(hm:H[id]?=some (.map (encM ek ev (entM M k).1) (entM M k).2))(v:Int):zEp (.mp id) (I (posM M k:Nat)) (ev v) H=some ⟨True,.un,H.set id (.map (encM ek ev (putM M k v).1) (putM M k v).2)⟩:=by
 unfold zEp;simp only[aInt,hm];obtain⟨h1,h2⟩:=hS;unfold entM posM putM;cases hf:fndM k M.1 with
 | none =>
  have hfs:(encM ek ev (M.1++[(M.2,k,0)])).findIdx? (fun e=>(e.1:Int)==(M.1.length:Int))=some M.1.length:=find_stamp (n:=M.1.length) (fun i hi=>by
   simp only[List.length_append,List.length_singleton]at hi
   by_cases hl:i < M.1.length
   ·have:=h2 i hl;simpa[List.getD,zL hl]using this
   ·have:i=M.1.length:=by omega
    subst this;simp[List.getD,h1]) (by simp)
  simp only[hfs,encM_get (l:=M.1++[(M.2,k,0)]) (i:=M.1.length) (by simp) default];have hgt:(M.1++[((M.2,k,0):Nat × κ × Int)]).getD M.1.length default=(M.2,k,0):=by simp[List.getD]
  have hst:(M.1++[((M.2,k,0):Nat × κ × Int)]).set M.1.length (M.2,k,v)=M.1++[(M.2,k,v)]:=by simp
  rw[hgt];simp only[encM_set,hst]
 | some i =>
  obtain⟨hi,hk⟩:=fndM_lt hf;have hfs:(encM ek ev M.1).findIdx? (fun e=>(e.1:Int)==(i:Int))=some i:=find_stamp h2 hi;simp only[hfs,encM_get hi default,hk default,encM_set]
theorem get_put{M:MS κ}(k:κ)(v:Int):getM (putM M k v) k=v:=by
 have key:∀ l:List (Nat × κ × Int),(∀ i,fndM k l=some i->∀ e:Nat × κ × Int,e.2.1=k->fndM k (l.set i e)=some i)/\(fndM k l=none->∀ e:Nat × κ × Int,e.2.1=k->fndM k (l++[e])=some l.length):=by
  intro l
  induction l with
  | nil=>exact⟨fun i h=>(by cases h),fun _ e he=>by simp[fndM,he]⟩
  | cons x l ih =>
   constructor
   ·intro i h e he
    unfold fndM at h
    split at h
    ·cases h;rw[List.set_cons_zero];simp[fndM,he]
    ·rename_i hx;cases hf:fndM k l with
     | none=>rw[hf]at h; cases h
     | some j =>
      rw[hf]at h;cases h;rw[List.set_cons_succ];unfold fndM;rw[if_neg hx,ih.1 j hf e he]; rfl
   ·intro h e he
    unfold fndM at h
    split at h
    ·cases h
    ·rename_i hx;have hn:fndM k l=none:=by
      cases hf:fndM k l with
      | none=>rfl
      | some j=>rw[hf]at h; cases h
     rw[List.cons_append];unfold fndM;rw[if_neg hx,ih.2 hn e he]; simp
 unfold putM;cases hf:fndM k M.1 with
 | none =>
  unfold getM;simp only;rw[(key M.1).2 hf _ rfl];simp[List.getD]
 | some i =>
  unfold getM;simp only;rw[(key M.1).1 i hf _ rfl];have:=(fndM_lt hf).1;simp[List.getD,this]
theorem get_ent{M:MS κ}(k:κ):getM (entM M k) k=getM M k:=by
 have h0:=get_put (M:=M) k 0;unfold entM;unfold putM at h0;cases hf:fndM k M.1 with
 | none =>
  rw[hf]at h0;simp only at h0 ⊢;rw[h0];unfold getM;rw[hf]
 | some i=>rfl
end
abbrev A2(a b:Int):AV:=.agg [I a,I b]
def encA(k:Int × Int):AV:=A2 k.1 k.2
theorem eqA0(a b c d:Int):aEq zP 10000 141 (A2 a b) (A2 c d)=some (a==c&&(b==d&&true)):=by kernel_rfl
theorem eqA(x y:Int × Int):aEq zP 10000 141 (encA x) (encA y)=some (decide (x=y)):=by
 obtain⟨a,b⟩:=x;obtain⟨c,d⟩:=y;show aEq zP 10000 141 (A2 a b) (A2 c d)=_;rw[eqA0,Option.some.injEq,Bool.eq_iff_iff,decide_eq_true_iff];simp
theorem ckA0(a b:Int):ckOk zP 10000 141 (A2 a b)=true:=by kernel_rfl
theorem ckA(x:Int × Int):ckOk zP 10000 141 (encA x)=true:=ckA0 x.1 x.2
theorem flA(x:Int × Int):flatA (encA x)=true:=rfl
def startG(cls:List Cls)(P:Int->Bool):MS (Int × Int)->List Jb->Bool
 | _,[]=>true
 | M,j::l=>if j.st=2 then !(decide ((cls.getD j.cls.toNat default).d < IntKind.i64.wrap (getM M (j.user,j.cls)+1))||!P j.id)&&startG cls P (putM M (j.user,j.cls) (IntKind.i64.wrap (getM M (j.user,j.cls)+1))) l else startG cls P M l
def hasPart(ps:List Prt)(id:Int):Bool:=anyN (fun i=>decide ((ps.getD i default).job=id)) ps.length 0
theorem e75:Ent zP 75 Tryz.f75 [] 2:=.mk Tryz.func75 rfl
theorem started1_ac{p:Prt}{q:Nat}{a2 a3 a4 a5 a6 a7 a8 a9 b1 b2 b3 b4 b5 b6 b7:AV}{id:Int}{H:List AO}(h0:H[q]?=some (.cells [I id,a2,a3,a4,a5,a6,a7,a8,a9,b1,b2,b3,b4,b5,b6,b7])){K:AV->List AO->Prop}(hK:∀ X,K (B (decide (p.job=id))) (H++X)):AC zP GG 75 [p.av,.ptr q 0] H K:=by
 have h0':∀ l,(H++l)[q]?=_:=fun l=>(zL (zAc h0)).trans h0
 show AC zP GG 75 [PA p.job p.pl p.ph p.tries p.since,.ptr q 0] H K;refine goE e75 TOk.nil 0 ?_;simp only[push_cast,seval,↓kw2,h0,h0',zAd,getA,zAe,setA,zAb];exact⟨_,rfl,hK _⟩
def ord7:List (List Nat):=[[0,1,2,3,4,5,6],[0,1,2,4,3,5,6],[0,1,2,4,5,3,6],[0,1,4,2,3,5,6],[0,1,4,2,5,3,6],[0,1,4,5,2,3,6],[1,0,2,3,4,5,6],[1,0,2,4,3,5,6],[1,0,2,4,5,3,6],[1,0,4,2,3,5,6],[1,0,4,2,5,3,6],[1,0,4,5,2,3,6]]
theorem e38:Ent zP 38 Tryz.f38 [7,8] 1:=.mk Tryz.func38 rfl
theorem started_pur{s:Sta}(h:s.good)(hl:s.lim)(hcl:∀ j∈s.jobs,0<=j.cls/\j.cls < s.c.cls.length):Pur zP GG 38 [s.av] (B (startG s.c.cls (hasPart s.parts) ([],0) s.jobs)):=by
 have hZ:=h.cell;obtain⟨⟨⟨a1,a2,a3⟩,b1,b2,b3⟩,⟨⟨c1,c2,c3⟩,d1,d2,d3⟩,⟨e1,e2,e3⟩,⟨f1,f2,f3⟩,g1,g2,g3⟩:=h.cell;obtain⟨p1,p2,p3,p4,p5,p6,p7⟩:=h.purs;have hlj:=hl.jl;have hlen:=h.js.1.len un27;rw[zM]at hlen;have hidx:=fun(i:Nat) (hi:i < s.jobs.length) (H:List AO)=>h.js.1.idx (P:=zP) un27 sz50 (i:=(i:Int)) (by rw[zM]; omega) (by omega) H
 show Pur zP GG 38 [ST s.c.a s.c.b s.c.c s.c.boot s.c.free s.c.tries s.c.age s.cs s.now s.next s.js s.ps s.ks s.ds s.hs s.us] _;refine goQ e38 TOk.nil 0 ?_ (by simp[AV.purL,AV.pur,p1,p2,p3,p4,p5,p6,p7]);simp only[push_cast,seval,↓kw2,hZ,hlen]
 let CC:AO:=.cells [I s.c.a,I s.c.b,I s.c.c,I s.c.boot,I s.c.free,I s.c.tries,I s.c.age,s.cs,I s.now,I s.next,s.js,s.ps,s.ks,s.ds,s.hs,s.us]
 refine FW.loopInv (fun m ts H=>∃(i:Nat) (M:MS (Int × Int)),i+m=s.jobs.length/\SeqM M/\startG s.c.cls (hasPart s.parts) M (s.jobs.drop i)=startG s.c.cls (hasPart s.parts) ([],0) s.jobs/\H[0]?=some CC/\H[1]?=some (.map (encM encA I M.1) M.2)/\ts 1=.ptr 0 0/\ts 3=.mp 1/\ts 10=s.js/\ts 11=I (s.jobs.length:Int)/\ts 12=I (i:Int)) s.jobs.length
  ⟨0,([],0),by omega,⟨rfl,fun i hi=>by simp at hi⟩,rfl,rfl,rfl,rfl,rfl,rfl,rfl,rfl⟩ ?_
 rintro m ih ts H ⟨i,M,hi,hsq,hst,h0,h1,t1,t3,t10,t11,t12⟩
 refine FW.inLoop ?_
 by_cases hlt:i < s.jobs.length
 ·have hd1:decide ((i:Int) < (s.jobs.length:Int))=true:=by simp[hlt]
  have hx:=hidx i hlt;have hgy:=zAj Jb.av s.jobs default hlt;simp only[Int.toNat_natCast]at hx;rw[hgy]at hx;rw[zBa default hlt]at hst;have hg:=h.js.get i;have hjc:=hcl (s.jobs.getD i default) (by simp[List.getD,hlt])
  generalize s.jobs.getD i default=j at hx hst hg hjc
  have hcx:=Jb.cells j;obtain⟨m1,m2,m3⟩:=IsSl.cell hg;have hbb:(0<=(i:Int)/\(i:Int) < ((s.jobs.map Jb.av).length:Int)):=⟨by omega,by rw[zM]; omega⟩;have hi1:=zAl (n:=(i:Int)+1) (by omega) (by omega)
  by_cases hj2:j.st=2
  ·have hd2:decide (j.st=2)=true:=zT hj2;rw[startG,if_pos hj2]at hst;refine goW TOk.nil [7,8] 0 ?_;simp only[push_cast,seval,↓kw2,t1,t3,t10,t11,t12,hd1,hd2,hx,hcx,m1,m2,m3,zAd,getA,zAe,setA,zAb,h0,h1,List.contains_cons,Bool.true_or,Bool.or_true,Bool.false_or];have hL1:=zAc h1;have hm1:∀ X,(H++X)[1]?=some (.map (encM encA I M.1) M.2):=fun X=>(zL hL1).trans h1
   have hget:∀ X,aLookup zP 140 (.mp 1) (.agg [I j.user,I j.cls]) false (H++X)=some ⟨True,I (getM M (j.user,j.cls)),H++X⟩:=fun X=>get_M (ek:=encA) (ev:=I) un140 ze3 eqA ckA (hm1 X) (j.user,j.cls)
   have hent:∀ X,aMapEntry zP 140 (.mp 1) (.agg [I j.user,I j.cls]) (H++X)=some ⟨True,.tup [I (getM M (j.user,j.cls)),I (posM M (j.user,j.cls):Nat)],(H++X).set 1 (.map (encM encA I (entM M (j.user,j.cls)).1) (entM M (j.user,j.cls)).2)⟩:=fun X=>ent_M (ek:=encA) (ev:=I) un140 ze3 eqA ckA flA hsq (hm1 X) (j.user,j.cls)
   have hm2:∀ X o,((H++X).set 1 o)[1]?=some o:=fun X o=>zS (by simp; omega)
   have hge2:∀ X,aLookup zP 140 (.mp 1) (.agg [I j.user,I j.cls]) false ((H++X).set 1 (.map (encM encA I (entM M (j.user,j.cls)).1) (entM M (j.user,j.cls)).2))=some ⟨True,I (getM M (j.user,j.cls)),(H++X).set 1 (.map (encM encA I (entM M (j.user,j.cls)).1) (entM M (j.user,j.cls)).2)⟩:=fun X=>by
    have:=get_M (ek:=encA) (ev:=I) un140 ze3 eqA ckA (hm2 X (.map (encM encA I (entM M (j.user,j.cls)).1) (entM M (j.user,j.cls)).2)) (j.user,j.cls);rw[get_ent]at this;exact this
   have hsto:∀ X v,zEp (.mp 1) (I (posM M (j.user,j.cls):Nat)) (I v) ((H++X).set 1 (.map (encM encA I (entM M (j.user,j.cls)).1) (entM M (j.user,j.cls)).2))=some ⟨True,.un,(H++X).set 1 (.map (encM encA I (putM M (j.user,j.cls) v).1) (putM M (j.user,j.cls) v).2)⟩:=fun X v=>by
    have:=store_M (ek:=encA) (ev:=I) hsq (j.user,j.cls) (hm2 X _) v;rw[List.set_set]at this;exact this
   refine⟨hbb,FW.drawAll hmix (ls:=ord7) (by kernel_rfl) (by kernel_rfl) (Inv:=fun ts' H'=>(ts' 1=.ptr 0 0/\ts' 3=.mp 1/\ts' 5=.ptr H.length 0/\ts' 6=.ptr (H.length+1) 0/\ts' 10=s.js/\ts' 11=I (s.jobs.length:Int)/\ts' 12=I (i:Int)) /\
    H'=(H++[AO.cells [I j.id,I j.user,I j.cls,I j.w.p,I j.w.q,I j.w.r,B j.w.s,B j.w.t,B j.w.u,B j.w.v,I j.wall,I j.prio,B j.held,j.aft,.c (.int .u8 j.st),I j.came],AO.cells [I j.user,I j.cls]]).set 1 (.map (encM encA I (putM M (j.user,j.cls) (IntKind.i64.wrap (getM M (j.user,j.cls)+1))).1) (putM M (j.user,j.cls) (IntKind.i64.wrap (getM M (j.user,j.cls)+1))).2)) ?_ ?_⟩
   ·intro l hl
    simp only[ord7,List.mem_cons,List.not_mem_nil,or_false]at hl
    rcases hl with rfl | rfl | rfl | rfl | rfl | rfl | rfl | rfl | rfl | rfl | rfl | rfl
    all_goals
     simp only[push_cast,seval,↓kw2,t1,t3,t10,t11,t12,zAd,getA,aop3,hget,hge2,hent,hsto]
   ·clear t1 t3 t10 t11 t12
    rintro ts' H' ⟨⟨t1,t3,t5,t6,t10,t11,t12⟩,rfl⟩
    have hcx2:=h.cs.idx (P:=zP) un24 sz93 (i:=j.cls) (by rw[zM]; omega) (by omega);rw[zAj Cls.av s.c.cls default (by omega)]at hcx2;have hcc:=Cls.cells (s.c.cls.getD j.cls.toNat default)
    generalize s.c.cls.getD j.cls.toNat default=cl at hcx2 hcc hst
    generalize IntKind.i64.wrap (getM M (j.user,j.cls)+1)=v at hst ⊢
    generalize hXX:[AO.cells [I j.id,I j.user,I j.cls,I j.w.p,I j.w.q,I j.w.r,B j.w.s,B j.w.t,B j.w.u,B j.w.v,I j.wall,I j.prio,B j.held,j.aft,.c (.int .u8 j.st),I j.came],AO.cells [I j.user,I j.cls]]=X
    have hX0:X[0]?=some (.cells [I j.id,I j.user,I j.cls,I j.w.p,I j.w.q,I j.w.r,B j.w.s,B j.w.t,B j.w.u,B j.w.v,I j.wall,I j.prio,B j.held,j.aft,.c (.int .u8 j.st),I j.came]):=by rw[<- hXX]; rfl
    have hX1:X[1]?=some (.cells [I j.user,I j.cls]):=by rw[<- hXX]; rfl
    have hlo:=get_M (ek:=encA) (ev:=I) un140 ze3 eqA ckA (hm2 X (.map (encM encA I (putM M (j.user,j.cls) v).1) (putM M (j.user,j.cls) v).2)) (j.user,j.cls);rw[get_put,show encA (j.user,j.cls)=.agg [I j.user,I j.cls] from rfl]at hlo;have hs1:=hm2 X (.map (encM encA I (putM M (j.user,j.cls) v).1) (putM M (j.user,j.cls) v).2);have q0:((H++X).set 1 (.map (encM encA I (putM M (j.user,j.cls) v).1) (putM M (j.user,j.cls) v).2))[0]?=some CC:=by rw[zQ (by omega),zL (by omega)]; exact h0
    have q5:((H++X).set 1 (.map (encM encA I (putM M (j.user,j.cls) v).1) (putM M (j.user,j.cls) v).2))[H.length]?=X[0]?:=by rw[zQ (by omega),zAd]
    have q6:((H++X).set 1 (.map (encM encA I (putM M (j.user,j.cls) v).1) (putM M (j.user,j.cls) v).2))[H.length+1]?=X[1]?:=by rw[zQ (by omega),getA]
    rw[hX0]at q5;rw[hX1]at q6
    generalize (H++X).set 1 (.map (encM encA I (putM M (j.user,j.cls) v).1) (putM M (j.user,j.cls) v).2)=H2 at hlo hs1 q0 q5 q6 ⊢
    have hcb:(0<=j.cls/\j.cls < ((s.c.cls.map Cls.av).length:Int)):=⟨by omega,by rw[zM]; omega⟩;simp only[CC]at q0;refine goW TOk.nil [7,8] 0 ?_;simp only[push_cast,seval,↓kw2,t1,t3,t5,t6,t10,t11,t12,List.contains_cons,Bool.true_or,Bool.or_true,Bool.false_or];refine FW.drawI hmix (by kernel_rfl) ?_;cases hc:decide (cl.d < v)
    ·rw[hc,Bool.false_or,Bool.not_not]at hst;simp only[push_cast,seval,↓kw2,symI_cons,symI_nil,t1,t3,t5,t6,t10,t11,t12,hlo,q0,q5,q6,hcx2,hcc,hc];refine⟨hcb,?_⟩;refine hasP h.ps hl.pl (fun _ H'=>∃ Y,H'=H2++Y) (pr:=fun i=>decide ((s.parts.getD i default).job=j.id)) ?_ ⟨[],by simp⟩ ?_
     ·rintro i _ K hi ⟨Y,rfl⟩ hK
      exact started1_ac ((zL (zAc q5)).trans q5) fun X=>hK _ ⟨Y++X,by simp⟩
     rintro H' ⟨_,_,Y,rfl⟩
     have hps:hasPart s.parts j.id=anyN (fun i=>decide ((s.parts.getD i default).job=j.id)) s.parts.length 0:=rfl;rw[symI_on];cases hA:anyN (fun i=>decide ((s.parts.getD i default).job=j.id)) s.parts.length 0
     ·rw[hps,hA]at hst;simp only[push_cast,seval,↓kw2,symI_cons,symI_nil];refine goW TOk.nil [7,8] 0 ?_;simp only[push_cast,seval,↓kw2];exact⟨_,rfl,zAa rfl (by rw[<- hst]; rfl)⟩
     ·rw[hps,hA,Bool.true_and]at hst;simp only[push_cast,seval,↓kw2,symI_cons,symI_nil];refine goW TOk.nil [7,8] 0 ?_;simp only[push_cast,seval,↓kw2,t12,hi1];exact ih (m - 1) (by omega) _ _ ⟨i+1,_,by omega,seq_put hsq _ _,hst,(zL (zAc q0)).trans q0,(zL (zAc hs1)).trans hs1,t1,t3,t10,t11,rfl⟩
    ·rw[hc,Bool.true_or]at hst;simp only[push_cast,seval,↓kw2,symI_cons,symI_nil,t1,t3,t5,t6,t10,t11,t12,hlo,q0,q5,q6,hcx2,hcc,hc];refine⟨hcb,?_⟩;refine goW TOk.nil [7,8] 0 ?_;simp only[push_cast,seval,↓kw2];exact⟨_,rfl,zAa rfl (by rw[<- hst]; rfl)⟩
  ·have hd2:decide (j.st=2)=false:=zF hj2;rw[startG,if_neg hj2]at hst;refine goW TOk.nil [7,8] 0 ?_;simp only[push_cast,seval,↓kw2,t1,t3,t10,t11,t12,hd1,hd2,hx,hcx,m1,m2,m3,zAd,getA,zAe,setA,zAb,h0,h1,hi1];refine⟨hbb,ih (m - 1) (by omega) _ _ ⟨i+1,M,by omega,hsq,hst,(zL (zAc h0)).trans h0,(zL (zAc h1)).trans h1,t1,t3,t10,t11,rfl⟩⟩
 ·have hd1:decide ((i:Int) < (s.jobs.length:Int))=false:=by simp; omega
  rw[List.drop_eq_nil_of_le (by omega)]at hst;refine goW TOk.nil [7,8] 0 ?_;simp only[push_cast,seval,↓kw2,t1,t3,t10,t11,t12,hd1];exact⟨_,rfl,zAa rfl (by rw[<- hst]; rfl)⟩
theorem IsSl.ne{s:AV}{l:List AV}(h:IsSl s l)(h0:0 < l.length):s=.isl l:=by
 rcases h with h | ⟨h,_⟩
 ·exact h
 ·rw[h]at h0; simp at h0
theorem sl_parts{l:List Prt}{i:Nat}(hi:i<=l.length):∃ C,(∀ H,zCm zP 28 (.isl (l.map Prt.av)) H none (some (I (i:Int))) none=some (C,.isl ((l.take i).map Prt.av)))/\C:=by
 unfold zCm;simp only[un28,sz65,zBi];refine⟨True/\0<=(i:Int)/\0<=(i:Int).toNat/\(i:Int).toNat<=(l.map Prt.av).length/\(0 < (i:Int).toNat->((l.map Prt.av).getD 0 .un).cells.length=13),?_,?_⟩
 ·intro H
  show some (_,AV.isl (List.take ((i:Int).toNat - 0) (List.drop 0 (List.map Prt.av l))))=_;rw[Int.toNat_natCast,Nat.sub_zero,List.drop_zero,List.map_take]
 ·refine⟨trivial,by omega,by omega,by rw[zM]; omega,fun h=>?_⟩;rw[zAj Prt.av l default (by omega)];rfl
theorem e73:Ent zP 73 Tryz.f73 [] 3:=.mk Tryz.func73 rfl
theorem parts1_ac{s:Sta}(h:s.good)(p o:Prt){H:List AO}{q0 q1:Nat}(h0:H[q0]?=some (.cells s.cel))(h1:H[q1]?=some (.cells p.av.cells)){K:AV->List AO->Prop}(hK:∀ X,K (B (s.meet p.pl o.pl)) (H++X)) :
  AC zP GG 73 [o.av,.ptr q0 0,.ptr q1 0] H K:=by
 have hZ:=h.cell;obtain⟨⟨⟨a1,a2,a3⟩,b1,b2,b3⟩,⟨⟨c1,c2,c3⟩,d1,d2,d3⟩,⟨e1,e2,e3⟩,⟨f1,f2,f3⟩,g1,g2,g3⟩:=h.cell;obtain⟨p1,p2,p3,p4,p5,p6,p7⟩:=h.purs;have hm:=meetS_pur h p.pl o.pl;have w0:∀ X,(H++X)[q0]?=some (.cells s.cel):=fun X=>(zL (zAc h0)).trans h0
 have w1:∀ X,(H++X)[q1]?=some (.cells p.av.cells):=fun X=>(zL (zAc h1)).trans h1
 unfold Sta.cel at h0 w0;rw[Prt.cells]at h1;simp only[Prt.cells]at w1;simp only[Sta.av,Plc.av]at hm;show AC zP GG 73 [PA o.job o.pl o.ph o.tries o.since,.ptr q0 0,.ptr q1 0] H K;refine goE e73 TOk.nil 0 ?_;simp only[push_cast,seval,↓kw2,hZ,h0,h1,w0,w1,zAd,getA,zAe,setA,zAb,List.length_cons,List.length_nil,List.take];refine AC.pur hm ?_;refine goN ?_;simp only[push_cast,seval,↓kw2];exact⟨_,rfl,hK _⟩
def Sta.odd1(s:Sta)(i:Nat):Bool:=(decide (0 < i)&&decide ((s.parts.getD i default).job<=(s.parts.getD (i - 1) default).job))||!s.part (s.parts.getD i default)
def Sta.odd2(s:Sta)(i:Nat):Bool:=anyN (fun k=>s.meet (s.parts.getD i default).pl ((s.parts.take i).getD k default).pl) (s.parts.take i).length 0
def Sta.partsV(s:Sta):Bool:=decide ((s.parts.length:Int)<=24)&&!anyN (fun i=>s.odd1 i||s.odd2 i) s.parts.length 0
theorem e37:Ent zP 37 Tryz.f37 [] 1:=.mk Tryz.func37 rfl
theorem parts_pur{s:Sta}(h:s.good)(hl:s.lim):Pur zP GG 37 [s.av] (B s.partsV):=by
 have hZ:=h.cell;obtain⟨⟨⟨a1,a2,a3⟩,b1,b2,b3⟩,⟨⟨c1,c2,c3⟩,d1,d2,d3⟩,⟨e1,e2,e3⟩,⟨f1,f2,f3⟩,g1,g2,g3⟩:=h.cell;obtain⟨p1,p2,p3,p4,p5,p6,p7⟩:=h.purs;have hlen:=h.ps.len un28;rw[zM]at hlen;unfold Sta.partsV;show Pur zP GG 37 [ST s.c.a s.c.b s.c.c s.c.boot s.c.free s.c.tries s.c.age s.cs s.now s.next s.js s.ps s.ks s.ds s.hs s.us] _
 by_cases h24:24 < (s.parts.length:Int)
 ·rw[zF (by omega),Bool.false_and];refine goQ e37 TOk.nil 0 ?_ (by simp[AV.purL,AV.pur,p1,p2,p3,p4,p5,p6,p7]);simp only[push_cast,seval,↓kw2,hZ,hlen,h24];exact⟨_,rfl,zAa rfl rfl⟩
 rw[zT (by omega),Bool.true_and];have hidx:=fun(i:Nat) (hi:i < s.parts.length) (H:List AO)=>h.ps.idx (P:=zP) un28 sz65 (i:=(i:Int)) (by rw[zM]; omega) (by omega) H
 refine goQ e37 TOk.nil 0 ?_ (by simp[AV.purL,AV.pur,p1,p2,p3,p4,p5,p6,p7]);simp only[push_cast,seval,↓kw2,hZ,hlen,h24];refine FW.loopInv (fun m ts H=>∃ i:Nat,i+m=s.parts.length/\anyN (fun i=>s.odd1 i||s.odd2 i) m i=anyN (fun i=>s.odd1 i||s.odd2 i) s.parts.length 0/\H[0]?=some (.cells s.cel)/\ts 1=.ptr 0 0/\ts 12=s.ps/\ts 13=I (s.parts.length:Int)/\ts 14=I (i:Int)) s.parts.length
  ⟨0,by omega,rfl,rfl,rfl,rfl,rfl,rfl⟩ ?_
 rintro m ih ts H ⟨i,hi,hf,m0,t1,t12,t13,t14⟩
 refine FW.inLoop ?_
 by_cases hlt:i < s.parts.length
 ·have hd1:decide ((i:Int) < (s.parts.length:Int))=true:=by simp[hlt]
  have hx:=hidx i hlt;have hgy:=zAj Prt.av s.parts default hlt;simp only[Int.toNat_natCast]at hx;rw[hgy]at hx;obtain⟨m,rfl⟩:∃ m',m=m'+1:=⟨m - 1,by omega⟩;have hfs:anyN (fun i=>s.odd1 i||s.odd2 i) (m+1) i=((s.odd1 i||s.odd2 i)||anyN (fun i=>s.odd1 i||s.odd2 i) m (i+1)):=rfl;rw[hfs]at hf;have hP:=partS_pur h hl (s.parts.getD i default);have ho1:s.odd1 i=((decide (0 < i)&&decide ((s.parts.getD i default).job<=(s.parts.getD (i - 1) default).job))||!s.part (s.parts.getD i default)):=rfl;have ho2:s.odd2 i=anyN (fun k=>s.meet (s.parts.getD i default).pl ((s.parts.take i).getD k default).pl) (s.parts.take i).length 0:=rfl
  generalize hp0:s.parts.getD i default=p at hx hP ho1 ho2
  have hcx:=Prt.cells p;have hbb:(0<=(i:Int)/\(i:Int) < ((s.parts.map Prt.av).length:Int)):=⟨by omega,by rw[zM]; omega⟩;have mm0:∀ X,(H++X)[0]?=some (.cells s.cel):=fun X=>(zL (zAc m0)).trans m0
  have mm0':=mm0;unfold Sta.cel at mm0';have hi1:=zAl (n:=(i:Int)+1) (by omega) (by omega);simp only[Sta.av,Prt.av]at hP;have hpe:=Go.Ab.Pd.IsSl.ne h.ps (by rw[zM]; omega);obtain⟨C,hsl,hC⟩:=sl_parts (l:=s.parts) (i:=i) (by omega);rw[<- hpe]at hsl;have hbad:s.odd1 i=true->anyN (fun i=>s.odd1 i||s.odd2 i) s.parts.length 0=true:=fun ho=>by rw[<- hf,ho]; rfl
  have hmid:s.odd1 i=false->True:=fun _=>trivial
  by_cases hi0:i=0
  ·have d0:decide (0 < (i:Int))=false:=zF (by omega);rw[zF (by omega:¬0 < i),Bool.false_and,Bool.false_or]at ho1;refine goN ?_;simp only[push_cast,seval,↓kw2,hZ,t1,t12,t13,t14,hd1,hx,hcx,mm0',d0,zAd,getA,zAe,setA,zAb,List.length_cons,List.length_nil,List.take];cases hpt:s.part p
   ·rw[hpt]at hP ho1;have hb:=hbad ho1;refine⟨hbb,_,toVQ hP,?_⟩;simp only[push_cast,seval,↓kw2,hZ,t1,t12,t13,t14,mm0',zAd,getA,zAe,setA,zAb,List.length_cons,List.length_nil,List.take];exact⟨_,rfl,zAa rfl (by rw[hb]; rfl)⟩
   ·rw[hpt]at hP ho1;rw[show s.odd1 i=false from ho1,Bool.false_or]at hf;refine⟨hbb,_,toVQ hP,?_⟩;simp only[push_cast,seval,↓kw2,hZ,t1,t12,t13,t14,mm0',zAd,getA,zAe,setA,zAb,List.length_cons,List.length_nil,List.take,hsl];refine⟨hC,?_⟩;refine hasP (.inl rfl) (by rw[List.length_take]; omega) (fun _ H2=>∃ X,H2=H++(AO.cells [I p.job,I p.pl.x,I p.pl.y,I p.pl.z,I p.pl.p,I p.pl.q,I p.pl.r,B p.pl.s,B p.pl.t,B p.pl.u,.c (.int .u8 p.ph),I p.tries,I p.since]::X)) (pr:=fun k=>s.meet p.pl ((s.parts.take i).getD k default).pl) ?_ ⟨[],rfl⟩ ?_
    ·rintro k H2 K hk ⟨X,rfl⟩ hK
     exact parts1_ac h p _ (q0:=0) (q1:=H.length) (mm0 _) (by rw[zAd]; rfl) fun X2=>hK _ ⟨X++X2,by simp⟩
    rintro H2 ⟨_,_,X,rfl⟩
    show FW _ _ _ _ _ (upd _ _ (B (anyN (fun k=>s.meet p.pl ((s.parts.take i).getD k default).pl) (s.parts.take i).length 0))) _ _;rw[<- ho2];cases ho:s.odd2 i
    ·rw[ho,Bool.false_or]at hf;refine goN ?_;simp only[push_cast,seval,↓kw2,t14,hi1];refine goN ?_;simp only[push_cast,seval,↓kw2,t14,hi1];exact ih m (by omega) _ _ ⟨i+1,by omega,hf,mm0 _,t1,t12,t13,rfl⟩
    ·rw[ho,Bool.true_or]at hf;refine goN ?_;simp only[push_cast,seval,↓kw2];exact⟨_,rfl,zAa rfl (by rw[<- hf]; rfl)⟩
  ·have d0:decide (0 < (i:Int))=true:=zT (by omega);rw[zT (by omega:0 < i),Bool.true_and]at ho1;have hw1:=zAl (n:=(i:Int) - 1) (by omega) (by omega);have hx2:=hidx (i - 1) (by omega);have hgy2:=zAj Prt.av s.parts default (by omega:i - 1 < s.parts.length);rw[show((i - 1:Nat):Int)=(i:Int) - 1 by omega]at hx2;rw[show((i:Int) - 1).toNat=i - 1 by omega,hgy2]at hx2
   generalize hp2:s.parts.getD (i - 1) default=o at hx2 ho1
   have hcx2:=Prt.cells o;have hbb2:(0<=(i:Int) - 1/\(i:Int) - 1 < ((s.parts.map Prt.av).length:Int)):=⟨by omega,by rw[zM]; omega⟩
   by_cases hle:p.job<=o.job
   ·have d2:=zT hle;rw[d2,Bool.true_or]at ho1;have hb:=hbad ho1;refine goN ?_;simp only[push_cast,seval,↓kw2,hZ,t1,t12,t13,t14,hd1,hx,hcx,mm0',d0,hw1,hx2,hcx2,d2,zAd,getA,zAe,setA,zAb,List.length_cons,List.length_nil,List.take];refine⟨hbb,hbb2,?_⟩;exact⟨_,rfl,zAa rfl (by rw[hb]; rfl)⟩
   ·have d2:=zF hle;rw[d2,Bool.false_or]at ho1;refine goN ?_;simp only[push_cast,seval,↓kw2,hZ,t1,t12,t13,t14,hd1,hx,hcx,mm0',d0,hw1,hx2,hcx2,d2,zAd,getA,zAe,setA,zAb,List.length_cons,List.length_nil,List.take];refine⟨hbb,hbb2,?_⟩;cases hpt:s.part p
    ·rw[hpt]at hP ho1;have hb:=hbad ho1;refine⟨_,toVQ hP,?_⟩;simp only[push_cast,seval,↓kw2,hZ,t1,t12,t13,t14,mm0',zAd,getA,zAe,setA,zAb,List.length_cons,List.length_nil,List.take];exact⟨_,rfl,zAa rfl (by rw[hb]; rfl)⟩
    ·rw[hpt]at hP ho1;rw[show s.odd1 i=false from ho1,Bool.false_or]at hf;refine⟨_,toVQ hP,?_⟩;simp only[push_cast,seval,↓kw2,hZ,t1,t12,t13,t14,mm0',zAd,getA,zAe,setA,zAb,List.length_cons,List.length_nil,List.take,hsl];refine⟨hC,?_⟩;refine hasP (.inl rfl) (by rw[List.length_take]; omega) (fun _ H2=>∃ X,H2=H++(AO.cells [I p.job,I p.pl.x,I p.pl.y,I p.pl.z,I p.pl.p,I p.pl.q,I p.pl.r,B p.pl.s,B p.pl.t,B p.pl.u,.c (.int .u8 p.ph),I p.tries,I p.since]::X)) (pr:=fun k=>s.meet p.pl ((s.parts.take i).getD k default).pl) ?_ ⟨[],rfl⟩ ?_
     ·rintro k H2 K hk ⟨X,rfl⟩ hK
      exact parts1_ac h p _ (q0:=0) (q1:=H.length) (mm0 _) (by rw[zAd]; rfl) fun X2=>hK _ ⟨X++X2,by simp⟩
     rintro H2 ⟨_,_,X,rfl⟩
     show FW _ _ _ _ _ (upd _ _ (B (anyN (fun k=>s.meet p.pl ((s.parts.take i).getD k default).pl) (s.parts.take i).length 0))) _ _;rw[<- ho2];cases ho:s.odd2 i
     ·rw[ho,Bool.false_or]at hf;refine goN ?_;simp only[push_cast,seval,↓kw2,t14,hi1];refine goN ?_;simp only[push_cast,seval,↓kw2,t14,hi1];exact ih m (by omega) _ _ ⟨i+1,by omega,hf,mm0 _,t1,t12,t13,rfl⟩
     ·rw[ho,Bool.true_or]at hf;refine goN ?_;simp only[push_cast,seval,↓kw2];exact⟨_,rfl,zAa rfl (by rw[<- hf]; rfl)⟩
 ·have hd1:decide ((i:Int) < (s.parts.length:Int))=false:=by simp; omega
  have hm:m=0:=by omega
  subst hm;have hf2:anyN (fun i=>s.odd1 i||s.odd2 i) s.parts.length 0=false:=hf.symm;refine goN ?_;simp only[push_cast,seval,↓kw2,t13,t14,hd1];exact⟨_,rfl,zAa rfl (by rw[hf2]; rfl)⟩
end Go.Ab.Pd
