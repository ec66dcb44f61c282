/- A text of this claim. -/
import Derived.Test.YtplmblgihfogjaaGreatDoorEv28
import Derived.Test.YtplmblgihfogjaaGreatDoorEv29
set_option maxHeartbeats 40000000
set_option maxRecDepth 400000
set_option linter.all false
namespace Go.Ab.Pd
open Go.Proofs
open Go.Proofs.Tryz renaming prog->zP
theorem kgen{H3:List AO}{c L:Nat}{A B:AO}{j:Nat}(h0:j≠c)(h1:j≠L):((H3.set c A).set L B)[j]?=H3[j]?:=by
 rw[zQ (fun e=>h1 e.symm),zQ (fun e=>h0 e.symm)]
theorem e270:Ent zP 270 Tryz.f270 [] 2:=.mk Tryz.func270 rfl
theorem appendW{ws:List Wnt}{k m:Nat}{H:List AO}(hk:H[k]?=some (.cells [.mp m]))(hm:H[m]?=some (.map (entsF ws) ws.length))(hsz:ws.length<=2^16){K:AV->List AO->Prop}
  (hK:∀ H' s (l:List Wnt),l.Perm ws->OwnK 7 H' s (l.map Wnt.av)->zAw s≠some m->K s H') :
  AC zP GG 270 [.c (.slice none 0 0),.fn 228 [] [.ptr k 0]] H K:=by
 have hkl:=zAc hk;have hml:=zAc hm;refine goE e270 TOk.nil 0 ?_;simp only[push_cast,seval,↓kw2];refine FW.rangeFunc ?_;simp only[push_cast,seval,↓kw2,ACV,List.append_assoc,List.length_append]
 generalize hal:AO.loop _=lo
 have hk1:(H++[AO.cells [AV.c (Value.slice none 0 0)],lo])[k]?=some (.cells [.mp m]):=by rw[zL hkl]; exact hk
 have hm1:(H++[AO.cells [AV.c (Value.slice none 0 0)],lo])[m]?=some (.map (entsF ws) ws.length):=by rw[zL hml]; exact hm
 have hlen1:(H++[AO.cells [AV.c (Value.slice none 0 0)],lo]).length=H.length+2:=by simp
 refine keys1 hk1 hm1 (fun l H1=>∃ s,H1[H.length+1]?=some lo/\H1[H.length]?=some (.cells [s])/\OwnK 7 H1 s (l.map Wnt.av)/\(∀ j,zAw s=some j->H.length+2 < j)) ?_ ?_ ?_ ?_ ?_
 ·intro X
  refine⟨.c (.slice none 0 0),?_,?_,.nil,fun j hj=>by cases hj⟩
  ·rw[List.append_assoc,getA]; rfl
  ·rw[List.append_assoc,zAd]; rfl
 ·rintro l H1 X ⟨s,h1,h2,h3,h4⟩
  exact⟨s,by rw[zL (zAc h1)]; exact h1,by rw[zL (zAc h2)]; exact h2,h3.append _,h4⟩
 ·rintro l H1 X ⟨s,h1,h2,h3,h4⟩
  rw[hlen1];exact⟨s,by rw[zQ (by omega)]; exact h1,by rw[zQ (by omega)]; exact h2,h3.keep fun j hj=>zQ (by have:=h4 j hj; omega),h4⟩
 ·rintro x l H1 hx hll ⟨s,h1,hc,hown,hs⟩ hl1
  rw[hlen1]at hl1 ⊢;rw[<- hal]at h1;refine AY.of_loop h1 rfl ?_;have hl2:=zAc h1;have hcl:=Wnt.cells x;refine goN ?_;simp only[push_cast,seval,↓kw2,parTs,Wnt.av,zAd,zAe];have h1':(H1++[AO.cells [I x.p,I x.q,I x.r,B x.s,B x.t,B x.u,B x.v]])[H.length+1]?=H1[H.length+1]?:=zL hl2;have hlA:(H1++[AO.cells [I x.p,I x.q,I x.r,B x.s,B x.t,B x.u,B x.v]]).length=H1.length+1:=by simp
  have hgA:(H1++[AO.cells [I x.p,I x.q,I x.r,B x.s,B x.t,B x.u,B x.v]])[H1.length]?=some (AO.cells [I x.p,I x.q,I x.r,B x.s,B x.t,B x.u,B x.v]):=by rw[zAd]; rfl
  have hkA:∀ j,j < H1.length->(H1++[AO.cells [I x.p,I x.q,I x.r,B x.s,B x.t,B x.u,B x.v]])[j]?=H1[j]?:=fun j hj=>zL hj
  generalize H1++[AO.cells [I x.p,I x.q,I x.r,B x.s,B x.t,B x.u,B x.v]]=HA at h1' hlA hgA hkA
  have h1A:=h1'.trans h1;refine FW.beginRound h1A rfl ?_
  generalize hH2:HA.set (H.length+1) _=H2
  have hlen:H2.length=H1.length+1:=by rw[<- hH2,List.length_set,hlA]
  obtain⟨al2,hb,hal2⟩:∃ al2,H2[H.length+1]?=some (.loop al2)/\AO.loop { al2 with st:=.ready,pending:=none }=lo:=⟨_,by rw[<- hH2,zS (by omega)],hal⟩;have hk2:∀ j,j < H1.length->j≠H.length+1->H2[j]?=H1[j]?:=fun j h0 hj=>by rw[<- hH2,zQ (fun e=>hj e.symm),hkA j h0]
  have hg2:H2[H1.length]?=some (AO.cells [I x.p,I x.q,I x.r,B x.s,B x.t,B x.u,B x.v]):=by rw[<- hH2,zQ (by omega)]; exact hgA
  have hc2:H2[H.length]?=some (.cells [s]):=(hk2 _ (by omega) (by omega)).trans hc;have hown2:OwnK 7 H2 s (l.map Wnt.av):=hown.keep fun j hj=>hk2 j (hown.lt hj) (by have:=hs j hj; omega)
  have hns:∀ j,j<=H.length+2->zAw s≠some j:=fun j hj e=>by have:=hs j e; omega
  have hap:=aAppK (P:=zP) (k:=7) un166 un166 ze48 rfl by48 hown2 x.av;have h30:=(zFt (k:=7) (es:=l.map Wnt.av) (v:=x.av) (zAc hc2) (hns H.length (by omega))).trans hc2;have h31:=(zFt (k:=7) (es:=l.map Wnt.av) (v:=x.av) (zAc hb) (hns _ (by omega))).trans hb;have h3k:∀ j,j<=H.length+2->j≠H.length->j≠H.length+1->(apHk 7 H2 s (l.map Wnt.av) x.av)[j]?=H1[j]?:=fun j hj h0 h1=>by
   rw[zFt (by omega) (hns j hj),hk2 j (by omega) h1]
  have hLen3:=apHk_length (k:=7) (H:=H2) (s:=s) (es:=l.map Wnt.av) (v:=x.av);have hown3:=apHk_own (k:=7) (H:=H2) (s:=s) (es:=l.map Wnt.av) (v:=x.av);rw[show l.map Wnt.av++[x.av]=(l++[x]).map Wnt.av by simp]at hown3
  generalize apHk 7 H2 s (l.map Wnt.av) x.av=H3 at hap h30 h31 h3k hLen3 hown3
  have hap':zBk zP 166 166 s (.sl H2.length 0 1 1) (H2++[AO.arr 7 [AV.agg [I x.p,I x.q,I x.r,B x.s,B x.t,B x.u,B x.v]]])=_:=hap;clear h1 hH2 h1A h1';refine goN ?_;simp only[push_cast,seval,↓kw2,hc2,hg2,hap',h30];refine⟨apC_of (by rw[zM]; omega) (by decide),rfl,al2,(zQ (by omega)).trans h31,rfl,⟨_,?_,?_,hown3.keep fun j hj=>kgen ?_ ?_,?_⟩,by simp; omega,?_⟩
  ·rw[zS (by rw[List.length_set]; omega)]; exact congrArg some hal2
  ·rw[zQ (by omega),zS (by omega)]
  ·cases hj; omega
  ·cases hj; omega
  ·intro j hj; cases hj; omega
  ·rintro j (rfl | rfl)
   ·rw[kgen (by omega) (by omega),h3k _ (by omega) (by omega) (by omega)]
   ·rw[kgen (by omega) (by omega),h3k _ (by omega) (by omega) (by omega)]
 ·rintro l H1 hp ⟨s,h1,hc,hown,hs⟩
  rw[<- hal]at h1;refine⟨_,h1,by simp,?_⟩;have hc2:(H1.set (H.length+1) .dead)[H.length]?=some (.cells [s]):=(zQ (by omega)).trans hc;obtain⟨c1,c2,c3⟩:=hown.cell;refine goN ?_;simp only[push_cast,seval,↓kw2,hc2,c1,c2,c3];exact⟨_,rfl,hK _ _ _ hp (hown.keep fun j hj=>zQ (by have:=hs j hj; omega)) (fun e=>by have:=hs _ e; omega)⟩
theorem e226:Ent zP 226 Tryz.f226 [] 1:=.mk Tryz.func226 rfl
theorem collectW{ws:List Wnt}{k m:Nat}{H:List AO}(hk:H[k]?=some (.cells [.mp m]))(hm:H[m]?=some (.map (entsF ws) ws.length))(hsz:ws.length<=2^16){K:AV->List AO->Prop}
  (hK:∀ H' s (l:List Wnt),l.Perm ws->OwnK 7 H' s (l.map Wnt.av)->K s H'):AC zP GG 226 [.fn 228 [] [.ptr k 0]] H K:=by
 refine goE e226 TOk.nil 0 ?_;simp only[push_cast,seval,↓kw2];refine appendW hk hm hsz ?_
 intro H' s l hp hown _
 refine goN ?_;simp only[push_cast,seval,↓kw2];exact⟨_,rfl,hK _ _ _ hp hown⟩
def Wnt.cmp(a b:Wnt):Int:=cmpW a.p a.q a.r b.p b.q b.r a.s a.t a.u b.s b.t b.u
def Wnt.enc(a:Wnt):List Value:=[.int .i64 a.p,.int .i64 a.q,.int .i64 a.r,.bool a.s,.bool a.t,.bool a.u,.bool a.v]
theorem callableSW:zDv zP 227:=⟨_,Tryz.func227,rfl,by decide⟩
theorem wcmp_pur(a b:Wnt):Pur zP GG 166 [a.av,b.av] (I (Wnt.cmp a b)):=tcmp_pur _ _ _ _ _ _ _ _ _ _ _ _ _ _
def Tri3(p q r:Int):Prop:=(p < 0->q<=0->r < 0)/\(p<=0->q < 0->r < 0)/\(p=0->q=0->r=0)/\(0 < p->0<=q->0 < r)/\(0<=p->0 < q->0 < r)
theorem Tri3.cmp(l m n:Int):Tri3 (cmpV l m) (cmpV m n) (cmpV l n):=by
 unfold Tri3 cmpV
 split <;> (try split) <;> (try split) <;> (try split) <;> (try split) <;> (try split) <;> omega
theorem Tri3.or{a1 a2 a3 b1 b2 b3:Int}(h:Tri3 a1 a2 a3)(k:Tri3 b1 b2 b3):Tri3 (orV a1 b1) (orV a2 b2) (orV a3 b3):=by
 unfold Tri3 orV at *;obtain⟨h1,h2,h3,h4,h5⟩:=h;obtain⟨k1,k2,k3,k4,k5⟩:=k
 split <;> split <;> split <;> omega
theorem cmpV_self(m:Int):cmpV m m=0:=by unfold cmpV; simp
theorem zCl{a b:Int}:orV a b=0 ↔ a=0/\b=0:=by unfold orV; split <;> omega
theorem zBv{m n:Int}:cmpV m n=0 ↔ m=n:=by unfold cmpV; split <;> (try split) <;> omega
theorem bitV_inj{s t:Bool}(h:bitV s=bitV t):s=t:=by cases s <;> cases t <;> first | rfl | (simp[bitV]at h)
def Neg(p q:Int):Prop:=q=-p
theorem Neg.cmp(m n:Int):Neg (cmpV m n) (cmpV n m):=by unfold Neg cmpV; split <;> (try split) <;> (try split) <;> omega
theorem Neg.or{a1 a2 b1 b2:Int}(h:Neg a1 a2)(k:Neg b1 b2):Neg (orV a1 b1) (orV a2 b2):=by
 unfold Neg orV at *; split <;> split <;> omega
theorem Wnt.tri(a b c:Wnt):Tri3 (a.cmp b) (b.cmp c) (a.cmp c):=(Tri3.cmp _ _ _).or ((Tri3.cmp _ _ _).or ((Tri3.cmp _ _ _).or ((Tri3.cmp _ _ _).or ((Tri3.cmp _ _ _).or (Tri3.cmp _ _ _)))))
theorem Wnt.neg(a b:Wnt):Neg (a.cmp b) (b.cmp a):=(Neg.cmp _ _).or ((Neg.cmp _ _).or ((Neg.cmp _ _).or ((Neg.cmp _ _).or ((Neg.cmp _ _).or (Neg.cmp _ _)))))
theorem Wnt.zero{a b:Wnt}(h:a.cmp b=0)(hv:a.v=b.v):a=b:=by
 unfold Wnt.cmp cmpW at h;rw[zCl,zCl,zCl,zCl,zCl,zBv,zBv,zBv,zBv,zBv,zBv]at h;obtain⟨h1,h2,h3,h4,h5,h6⟩:=h;obtain⟨p,q,r,s,t,u,v⟩:=a;obtain⟨p',q',r',s',t',u',v'⟩:=b;simp only at h1 h2 h3 h4 h5 h6 hv;rw[h1,h2,h3,bitV_inj h4,bitV_inj h5,bitV_inj h6,hv]
theorem Wnt.self(a:Wnt):a.cmp a=0:=by
 unfold Wnt.cmp cmpW;simp[cmpV_self,orV]
end Go.Ab.Pd
