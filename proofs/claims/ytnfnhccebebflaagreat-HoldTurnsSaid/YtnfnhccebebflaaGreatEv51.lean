/- One of the texts that this claim stands on. -/
import Derived.Test.YtnfnhccebebflaaGreatEv50
import Derived.Test.YtnfnhccebebflaaGreatEv47
set_option maxHeartbeats 40000000
set_option maxRecDepth 400000
set_option linter.all false
namespace Go.Ab.Pd
open Go.Proofs
open Go.Proofs.Tryz renaming prog->zP
structure FzS(H:List AO)(s r:AV):Prop where
 lt:∀ i,zAl r=some i->i < H.length
 fz:∀ H':List AO,(∀ i,zAl r=some i->H'[i]?=H[i]?)->∃ x,frz 2 H' r=some x/\x.pur=true/\Le x s
 cell:r.isCell=true/\r.isEl=true/\r.cells=[r]
 sc:s.isCell=true
theorem FzS.keep{H H':List AO}{s r:AV}(h:FzS H s r)(hk:∀ i,zAl r=some i->H'[i]?=H[i]?):FzS H' s r :=
 ⟨fun i hi=>zAd ((hk i hi).trans (List.getElem?_eq_getElem (h.lt i hi))),fun H2 h2=>h.fz H2 fun i hi=>(h2 i hi).trans (hk i hi),h.cell,h.sc⟩
theorem FzS.of{k:Nat}{H:List AO}{s r:AV}{l:List AV}(h:LiveS k H s r l)(hp:AV.purL l=true):FzS H s r :=
 ⟨h.lt,fun H' hk=>by obtain⟨x,a,b,c,_⟩:=(h.keep hk).froz hp; exact⟨x,a,b,c⟩,h.cell,by cases h <;> rfl⟩
structure LiveA(s:Sta)(H:List AO)(rc rj rp rk rd rh ru:AV):Prop where
 c:FzS H s.cs rc
 j:FzS H s.js rj
 p:FzS H s.ps rp
 k:FzS H s.ks rk
 d:FzS H s.ds rd
 h:FzS H s.hs rh
 u:FzS H s.us ru
structure AboA(n:Nat)(rc rj rp rk rd rh ru:AV):Prop where
 c:∀ i,zAl rc=some i->n<=i
 j:∀ i,zAl rj=some i->n<=i
 p:∀ i,zAl rp=some i->n<=i
 k:∀ i,zAl rk=some i->n<=i
 d:∀ i,zAl rd=some i->n<=i
 h:∀ i,zAl rh=some i->n<=i
 u:∀ i,zAl ru=some i->n<=i
theorem LiveA.keep{s:Sta}{H H':List AO}{rc rj rp rk rd rh ru:AV}(h:LiveA s H rc rj rp rk rd rh ru){n:Nat}(ha:AboA n rc rj rp rk rd rh ru)(hk:∀ i,n<=i->i < H.length->H'[i]?=H[i]?):LiveA s H' rc rj rp rk rd rh ru :=
 ⟨h.c.keep fun i e=>hk i (ha.c i e) (h.c.lt i e),h.j.keep fun i e=>hk i (ha.j i e) (h.j.lt i e),h.p.keep fun i e=>hk i (ha.p i e) (h.p.lt i e),h.k.keep fun i e=>hk i (ha.k i e) (h.k.lt i e),h.d.keep fun i e=>hk i (ha.d i e) (h.d.lt i e),h.h.keep fun i e=>hk i (ha.h i e) (h.h.lt i e),h.u.keep fun i e=>hk i (ha.u i e) (h.u.lt i e)⟩
theorem liveV{f:FuncId}{s:Sta}{H:List AO}{rc rj rp rk rd rh ru:AV}(o:LiveA s H rc rj rp rk rd rh ru)
  {rest:List AV} (hr:AV.purL rest=true) {v:AV} (hv:v.scal=true) (h:Pur zP GG f (s.av::rest) v) {K:AV->List AO->Prop} (hK:K v H):AC zP GG f (ST s.c.a s.c.b s.c.c s.c.boot s.c.free s.c.tries s.c.age rc s.now s.next rj rp rk rd rh ru::rest) H K:=by
 obtain⟨y0,q1,q2,q3⟩:=o.c.fz H fun _ _=>rfl
 obtain⟨y1',t1,t2,t3⟩:=o.j.fz H fun _ _=>rfl
 obtain⟨y2',u1,u2,u3⟩:=o.p.fz H fun _ _=>rfl
 obtain⟨y3',v1,v2,v3⟩:=o.k.fz H fun _ _=>rfl
 obtain⟨y4,w1,w2,w3⟩:=o.d.fz H fun _ _=>rfl
 obtain⟨y5,x1,x2,x3⟩:=o.h.fz H fun _ _=>rfl
 obtain⟨y6,y1,y2,y3⟩:=o.u.fz H fun _ _=>rfl
 have hf:=ST_frz7 (H:=H) (a:=s.c.a) (b:=s.c.b) (c:=s.c.c) (p:=s.c.boot) (q:=s.c.free) (r:=s.c.tries) (t:=s.c.age) (now:=s.now) (next:=s.next) q1 t1 u1 v1 w1 x1 y1;refine AC.view ggp (n:=3) (args':=ST s.c.a s.c.b s.c.c s.c.boot s.c.free s.c.tries s.c.age y0 s.now s.next y1' y2' y3' y4 y5 y6::rest) ?_ ?_ hv (Pur.args (args':=s.av::rest) rfl (fun i hi=>?_) h) hK
 ·rw[show ∀ a l,mapO (frz 3 H) (a::l)=(match frz 3 H a,mapO (frz 3 H) l with | some b,some m=>some (b::m) | _,_=>none) from fun _ _=>rfl,hf,zEc hr]
 ·simp only[AV.purL,zA];exact⟨by simp[AV.pur,AV.purL,q2,t2,u2,v2,w2,x2,y2],hr⟩
 ·cases i with
  | zero=>exact ST_le7 o.c.sc o.j.sc o.d.sc o.h.sc o.u.sc o.p.sc o.k.sc q3 t3 u3 v3 w3 x3 y3
  | succ i=>exact Le.refl _
def Sta.nil0:Sta:=⟨⟨0,0,0,0,0,0,0,[]⟩,NS,0,0,[],NS,[],NS,[],NS,[],NS,[],NS,[],NS⟩
theorem liveA_nil0(H:List AO):LiveA Sta.nil0 H NS NS NS NS NS NS NS :=
 have h:FzS H NS NS:=FzS.of (k:=0) LiveS.nil rfl
 ⟨h,h,h,h,h,h,h⟩
theorem aboA_nil0(n:Nat):AboA n NS NS NS NS NS NS NS :=
 have h:∀ i,zAl NS=some i->n<=i:=fun i e=>nomatch e
 ⟨h,h,h,h,h,h,h⟩
theorem zFe{H A:List AO}{n i:Nat}{c:AO}(h:∀ q,q < n->A[q]?=H[q]?)(hi:n<=i):∀ q,q < n->(A.set i c)[q]?=H[q]?:=fun q hq=>by rw[zQ (by omega)]; exact h q hq
theorem zFd{H A L:List AO}{n:Nat}(h:∀ q,q < n->A[q]?=H[q]?)(hi:n<=A.length):∀ q,q < n->(A++L)[q]?=H[q]?:=fun q hq=>by rw[zL (by omega)]; exact h q hq
def Sta.addS(s:Sta)(b:Bx6)(fr till:Int):Sta:=if s.addE b fr till=0 then s.put b fr till else Sta.nil0
theorem addS_ok{s:Sta}{b:Bx6}{fr till:Int}(h:s.addE b fr till=0):s.addS b fr till=s.put b fr till:=if_pos h
theorem addS_no{s:Sta}{b:Bx6}{fr till:Int}(h:¬s.addE b fr till=0):s.addS b fr till=Sta.nil0:=if_neg h
theorem put_row{H H2:List AO}{s rk:AV}{l:List Kep}{k:Kep}{n:Nat}(hrow:H2[n]?=some (.arr 9 (l.map Kep.av++[k.av]))):LiveS 9 H2 (.isl ((l++[k]).map Kep.av)) (.sl n 0 (l.length+1) (l.length+1)) ((l++[k]).map Kep.av):=by
 have:=LiveS.row (k:=9) (H:=H2) (id:=n) (l:=(l++[k]).map Kep.av) (by rw[hrow,List.map_append]; rfl) (by simp);rw[zM,List.length_append]at this;exact this
theorem addA_ac{s:Sta}(h:s.good)(hl:s.lim)(hl2:s.lim2)(b:Bx6)(fr till:Int){H:List AO}{K:AV->List AO->Prop}
  (hK:∀ rc rj rp rk rd rh ru H',LiveA (s.addS b fr till) H' rc rj rp rk rd rh ru->LiveR 9 H' rk ((s.addS b fr till).keeps.map Kep.av)->AboA H.length rc rj rp rk rd rh ru->(∀ q,q < H.length->H'[q]?=H[q]?)->H.length<=H'.length ->
   K (.tup [ST (s.addS b fr till).c.a (s.addS b fr till).c.b (s.addS b fr till).c.c (s.addS b fr till).c.boot (s.addS b fr till).c.free (s.addS b fr till).c.tries (s.addS b fr till).c.age rc (s.addS b fr till).now (s.addS b fr till).next rj rp rk rd rh ru,I (if s.addE b fr till=0 then s.next else 0),I (s.addE b fr till)]) H') :
  AC zP GG 23 [s.av,.agg [I b.x,I b.y,I b.z,I b.p,I b.q,I b.r],.agg [I fr,I till]] H K:=by
 have hE:¬s.addE b fr till=0->∀ H':List AO,(∀ q,q < H.length->H'[q]?=H[q]?)->H.length<=H'.length->K (.tup [ST0,I 0,I (s.addE b fr till)]) H':=fun hne H' hk hlen=>by
  have:=hK NS NS NS NS NS NS NS H' (by rw[addS_no hne]; exact liveA_nil0 _) (by rw[addS_no hne]; exact .nil) (aboA_nil0 _) hk hlen;rw[addS_no hne,if_neg hne]at this;exact this
 have hO:=fun he:s.addE b fr till=0=>by
  have:=hK;rw[addS_ok he,if_pos he,he]at this;exact this
 clear hK;have c0:=h.cell;obtain⟨p1,p2,p3,p4,p5,p6,p7⟩:=h.purs;have hC:=holdc_pur h hl;have hcan:=canon_pur s.c.a s.c.b s.c.c b.x b.y b.z b.p b.q b.r;have hlen:=h.ks.len un55;rw[zM]at hlen;simp only[Sta.av]at hC;show AC zP GG 23 [ST s.c.a s.c.b s.c.c s.c.boot s.c.free s.c.tries s.c.age s.cs s.now s.next s.js s.ps s.ks s.ds s.hs s.us,.agg [I b.x,I b.y,I b.z,I b.p,I b.q,I b.r],.agg [I fr,I till]] H K;have hMk:∀ q,q < H.length->H[q]?=H[q]?:=fun _ _=>rfl
 cases hok:s.okV
 ·rw[hok]at hC;simp only[Bool.false_eq_true,if_false]at hC;have hA:s.addE b fr till=8:=by simp[Sta.addE,hok]
  rw[hA]at hE;refine goE e23 TOk.nil 0 ?_;simp only[push_cast,seval,↓kw2,c0,zAf,getA,zAg,setA,zAb];refine AC.pur hC ?_;refine goW TOk.nil [14] 0 ?_;simp only[push_cast,seval,↓kw2,c0,zAf,getA,zAg,setA,zAb];exact⟨_,rfl,hE (by decide) _ (by repeat (first | exact hMk | exact fun _ _=>rfl | refine zFe ?_ (by first | omega | (simp; done) | (simp; omega)) | refine zFd ?_ (by first | omega | (simp; done) | (simp; omega)))) (by simp)⟩
 rw[hok]at hC;simp only[if_true]at hC;have hE:=fun(e:Int) (he:s.addE b fr till=e)=>(he ▸ hE:¬e=0->_)
 refine goE e23 TOk.nil 0 ?_;simp only[push_cast,seval,↓kw2,c0,zAf,getA,zAg,setA,zAb];refine AC.pur hC ?_;refine goW TOk.nil [14] 0 ?_;simp only[push_cast,seval,↓kw2,c0,zAf,getA,zAg,setA,zAb];refine twinA_ac h hl2 ?_
 intro rc rj rp rk rd rh ru X n1 n2 n3 n4 n5 n6 n7 Lc Lj Lp Lk Ld Lh Lu hn1 Rc Rj Rp Rk Rd Rh Ru hmo
 have l0:=And.intro Lc.cell (And.intro Lj.cell (And.intro Lp.cell (And.intro Lk.cell (And.intro Ld.cell (And.intro Lh.cell Lu.cell)))));clear hMk
 generalize hM:(_++X:List AO)=M at Lc Lj Lp Lk Ld Lh Lu Ru hmo ⊢
 have hMk:∀ q,q < H.length->M[q]?=H[q]?:=fun q hq=>by rw[<- hM]; simp[zL,hq,List.append_assoc]
 have hn1:H.length+4<=n1:=by simpa using hn1
 have i0:M[H.length]?=some (AO.cells [I s.c.a,I s.c.b,I s.c.c,I s.c.boot,I s.c.free,I s.c.tries,I s.c.age,s.cs,I s.now,I s.next,s.js,s.ps,s.ks,s.ds,s.hs,s.us]):=by rw[<- hM]; simp
 have i2:M[H.length+2]?=some (AO.cells [I fr,I till]):=by rw[<- hM]; simp
 have i3:M[H.length+3]?=some (AO.cells [I 0,I 0,I 0,I 0,I 0,I 0,I 0,NS,I 0,I 0,NS,NS,NS,NS,NS,NS]):=by rw[<- hM]; simp
 have j0:∀ L,(M++L)[H.length]?=some (AO.cells [I s.c.a,I s.c.b,I s.c.c,I s.c.boot,I s.c.free,I s.c.tries,I s.c.age,s.cs,I s.now,I s.next,s.js,s.ps,s.ks,s.ds,s.hs,s.us]):=fun L=>(zL (by omega)).trans i0
 have j1:∀ L,(M++L)[H.length+1]?=some (AO.cells [I b.x,I b.y,I b.z,I b.p,I b.q,I b.r]):=fun L=>(zL (by omega)).trans (by rw[<- hM]; simp)
 have j2:∀ L,(M++L)[H.length+2]?=some (AO.cells [I fr,I till]):=fun L=>(zL (by omega)).trans i2
 have j3:∀ L,(M++L)[H.length+3]?=some (AO.cells [I 0,I 0,I 0,I 0,I 0,I 0,I 0,NS,I 0,I 0,NS,NS,NS,NS,NS,NS]):=fun L=>(zL (by omega)).trans i3
 have jz:∀ L c,((M++L).set (H.length+3) c)[H.length+3]?=some c:=fun L c=>zS (zAd (j3 L))
 refine goW TOk.nil [14] 0 ?_;simp only[push_cast,seval,↓kw2,c0,zAf,getA,zAg,setA,zAb,l0,i0,i2,i3,j0,j1,j2,j3];refine AC.pur hcan ?_;have hck:s.ckb b=ckB s.c.a s.c.b s.c.c b.x b.y b.z b.p b.q b.r:=rfl;simp only[<- hck]at hcan ⊢;have how:s.own b=⟨can (s.ckb b) s.c.a b.p b.x,can (s.ckb b) s.c.b b.q b.y,can (s.ckb b) s.c.c b.r b.z,cas (s.ckb b) b.p,cas (s.ckb b) b.q,cas (s.ckb b) b.r⟩:=rfl
 by_cases hq1:¬s.ckb b=0
 ·have q1:decide (s.ckb b=0)=false:=zF hq1;have hA:s.argE b fr till=true:=by simp[Sta.argE,q1]
  refine goW TOk.nil [14] 0 ?_;simp only[push_cast,seval,↓kw2,c0,zAf,getA,zAg,setA,zAb,l0,i0,i2,i3,j0,j1,j2,j3,jz,q1];exact⟨_,rfl,hE 2 (by simp[Sta.addE,hok,hA]) (by decide) _ (by repeat (first | exact hMk | exact fun _ _=>rfl | refine zFe ?_ (by first | omega | (simp; done) | (simp; omega)) | refine zFd ?_ (by first | omega | (simp; done) | (simp; omega)))) (by first | (simp; done) | (simp; omega))⟩
 have q1:decide (s.ckb b=0)=true:=zT (Classical.not_not.1 hq1)
 by_cases hq2:fr < s.now
 ·have q2:decide (fr < s.now)=true:=zT hq2;have hA:s.argE b fr till=true:=by simp[Sta.argE,q1,q2]
  refine goW TOk.nil [14] 0 ?_;simp only[push_cast,seval,↓kw2,c0,zAf,getA,zAg,setA,zAb,l0,i0,i2,i3,j0,j1,j2,j3,jz,q1,q2];exact⟨_,rfl,hE 2 (by simp[Sta.addE,hok,hA]) (by decide) _ (by repeat (first | exact hMk | exact fun _ _=>rfl | refine zFe ?_ (by first | omega | (simp; done) | (simp; omega)) | refine zFd ?_ (by first | omega | (simp; done) | (simp; omega)))) (by first | (simp; done) | (simp; omega))⟩
 have q2:decide (fr < s.now)=false:=zF hq2
 by_cases hq3:till<=fr
 ·have q3:decide (till<=fr)=true:=zT hq3;have hA:s.argE b fr till=true:=by simp[Sta.argE,q1,q2,q3]
  refine goW TOk.nil [14] 0 ?_;simp only[push_cast,seval,↓kw2,c0,zAf,getA,zAg,setA,zAb,l0,i0,i2,i3,j0,j1,j2,j3,jz,q1,q2,q3];exact⟨_,rfl,hE 2 (by simp[Sta.addE,hok,hA]) (by decide) _ (by repeat (first | exact hMk | exact fun _ _=>rfl | refine zFe ?_ (by first | omega | (simp; done) | (simp; omega)) | refine zFd ?_ (by first | omega | (simp; done) | (simp; omega)))) (by first | (simp; done) | (simp; omega))⟩
 have q3:decide (till<=fr)=false:=zF hq3
 by_cases hq4:1099511627776 < till
 ·have q4:decide (1099511627776 < till)=true:=zT hq4;have hA:s.argE b fr till=true:=by simp[Sta.argE,q1,q2,q3,q4]
  refine goW TOk.nil [14] 0 ?_;simp only[push_cast,seval,↓kw2,c0,zAf,getA,zAg,setA,zAb,l0,i0,i2,i3,j0,j1,j2,j3,jz,q1,q2,q3,q4];exact⟨_,rfl,hE 2 (by simp[Sta.addE,hok,hA]) (by decide) _ (by repeat (first | exact hMk | exact fun _ _=>rfl | refine zFe ?_ (by first | omega | (simp; done) | (simp; omega)) | refine zFd ?_ (by first | omega | (simp; done) | (simp; omega)))) (by first | (simp; done) | (simp; omega))⟩
 have q4:decide (1099511627776 < till)=false:=zF hq4;have hA:s.argE b fr till=false:=by simp[Sta.argE,q1,q2,q3,q4]
 by_cases hq5:4<=(s.keeps.length:Int)
 ·have q5:decide (4<=(s.keeps.length:Int))=true:=zT hq5;have hF:s.full=true:=by simp[Sta.full,q5]
  refine goW TOk.nil [14] 0 ?_;simp only[push_cast,seval,↓kw2,c0,zAf,getA,zAg,setA,zAb,l0,i0,i2,i3,j0,j1,j2,j3,jz,q1,q2,q3,q4,q5,hlen];exact⟨_,rfl,hE 9 (by simp[Sta.addE,hok,hA,hF]) (by decide) _ (by repeat (first | exact hMk | exact fun _ _=>rfl | refine zFe ?_ (by first | omega | (simp; done) | (simp; omega)) | refine zFd ?_ (by first | omega | (simp; done) | (simp; omega)))) (by first | (simp; done) | (simp; omega))⟩
 have q5:decide (4<=(s.keeps.length:Int))=false:=zF hq5
 by_cases hq6:2147483647<=s.next
 ·have q6:decide (2147483647<=s.next)=true:=zT hq6;have hF:s.full=true:=by simp[Sta.full,q5,q6]
  refine goW TOk.nil [14] 0 ?_;simp only[push_cast,seval,↓kw2,c0,zAf,getA,zAg,setA,zAb,l0,i0,i2,i3,j0,j1,j2,j3,jz,q1,q2,q3,q4,q5,q6,hlen];exact⟨_,rfl,hE 9 (by simp[Sta.addE,hok,hA,hF]) (by decide) _ (by repeat (first | exact hMk | exact fun _ _=>rfl | refine zFe ?_ (by first | omega | (simp; done) | (simp; omega)) | refine zFd ?_ (by first | omega | (simp; done) | (simp; omega)))) (by first | (simp; done) | (simp; omega))⟩
 have q6:decide (2147483647<=s.next)=false:=zF hq6;have hF:s.full=false:=by simp[Sta.full,q5,q6]
 refine goW TOk.nil [14] 0 ?_;simp only[push_cast,seval,↓kw2,c0,zAf,getA,zAg,setA,zAb,l0,i0,i2,i3,j0,j1,j2,j3,jz,q1,q2,q3,q4,q5,q6,hlen];have hpv:s.partsV=true:=by
  unfold Sta.okV at hok;simp only[zA]at hok;exact hok.2.2.2.1
 have hT:=takenS_pur h hl (parts_ends h hl hpv) h.ks hl.kl (s.own b) fr till;rw[how]at hT;simp only at hT;have hlM:H.length+4<=M.length:=by omega
 have fa:∀ {k:Nat} {a r:AV} {l:List AV},LiveS k M a r l->∀ L,LiveS k (M++L) a r l:=fun h L=>h.keep fun i hi=>zL (h.lt i hi)
 have purK:=zAc Kep.av s.keeps (fun _=>rfl);have hLA:∀ L,LiveA s (M++L) rc rj rp rk rd rh ru:=fun L=>⟨.of (fa Lc L) (zAc Cls.av _ (fun _=>rfl)),.of (fa Lj L) (purL_jobs h.js.2),.of (fa Lp L) (zAc Prt.av _ (fun _=>rfl)),.of (fa Lk L) purK,.of (fa Ld L) (zAc IA _ (fun _=>rfl)),.of (fa Lh L) (zAc IA _ (fun _=>rfl)),.of (fa Lu L) (zAc IA _ (fun _=>rfl))⟩
 refine liveV (hLA _) (rest:=[s.ks,.agg [I (can (s.ckb b) s.c.a b.p b.x),I (can (s.ckb b) s.c.b b.q b.y),I (can (s.ckb b) s.c.c b.r b.z),I (cas (s.ckb b) b.p),I (cas (s.ckb b) b.q),I (cas (s.ckb b) b.r)],.agg [I fr,I till]]) (by simp[AV.purL,AV.pur,p4]) rfl hT ?_;rw[<- how];cases htk:s.taken s.keeps (s.own b) fr till
 ·skip
  have hA0:s.addE b fr till=0:=by simp[Sta.addE,hok,hA,hF,htk]
  have hO:=hO hA0
  generalize hHH:(M++_:List AO)=HH
  have lE:M++[AO.cells [I s.c.a,I s.c.b,I s.c.c,I s.c.boot,I s.c.free,I s.c.tries,I s.c.age,rc,I s.now,I s.next,rj,rp,rk,rd,rh,ru],AO.cells [I (can (s.ckb b) s.c.a b.p b.x),I (can (s.ckb b) s.c.b b.q b.y),I (can (s.ckb b) s.c.c b.r b.z),I (cas (s.ckb b) b.p),I (cas (s.ckb b) b.q),I (cas (s.ckb b) b.r)]]=HH:=hHH;have hk2:LiveS 9 HH s.ks rk (s.keeps.map Kep.av):=lE ▸ fa Lk _;have hlH:HH.length=M.length+2:=by rw[<- hHH]; simp
  have hget:∀ i,i < M.length->HH[i]?=M[i]?:=fun i hi=>by rw[<- hHH]; exact zL hi
  have n0:=(hget _ (by omega)).trans i0;have n2:=(hget _ (by omega)).trans i2;have m3:=(hget _ (by omega)).trans i3;have mE:HH[M.length]?=some (AO.cells [I s.c.a,I s.c.b,I s.c.c,I s.c.boot,I s.c.free,I s.c.tries,I s.c.age,rc,I s.now,I s.next,rj,rp,rk,rd,rh,ru]):=by rw[<- lE]; simp
  have mO:HH[M.length+1]?=some (AO.cells [I (can (s.ckb b) s.c.a b.p b.x),I (can (s.ckb b) s.c.b b.q b.y),I (can (s.ckb b) s.c.c b.r b.z),I (cas (s.ckb b) b.p),I (cas (s.ckb b) b.q),I (cas (s.ckb b) b.r)]):=by rw[<- lE]; simp
  have m0:∀ L,(HH++L)[H.length]?=some (AO.cells [I s.c.a,I s.c.b,I s.c.c,I s.c.boot,I s.c.free,I s.c.tries,I s.c.age,s.cs,I s.now,I s.next,s.js,s.ps,s.ks,s.ds,s.hs,s.us]):=fun L=>(zL (by omega)).trans n0
  have m2:∀ L,(HH++L)[H.length+2]?=some (AO.cells [I fr,I till]):=fun L=>(zL (by omega)).trans n2
  obtain⟨C,H2,happ,hC,hrow,hkeep⟩:=app_live hk2 (by rw[zM]; have:=hl2.kl; omega) (Kep.mk6 s.next (s.own b) fr till);rw[zM]at happ;simp only[Kep.mk6,Sta.own]at happ;have hnx:=zAh (n:=s.next+1) (by have:=cfg_next hok; omega) (by omega);have hne:∀ j,(j < H.length+4\/M.length<=j)->zAl rk≠some j:=fun j hj e=>by
   have h1:=Rk j e;omega
  have k0:=(hkeep _ (by omega) (hne _ (by omega))).trans n0;have k3:=(hkeep _ (by omega) (hne _ (by omega))).trans m3;have kE:=(hkeep _ (by omega) (hne _ (by omega))).trans mE;have u0:∀ c,(H2.set M.length c)[H.length]?=some (AO.cells [I s.c.a,I s.c.b,I s.c.c,I s.c.boot,I s.c.free,I s.c.tries,I s.c.age,s.cs,I s.now,I s.next,s.js,s.ps,s.ks,s.ds,s.hs,s.us]):=fun c=>by rw[zQ (by omega)]; exact k0
  have u3:∀ c,(H2.set M.length c)[H.length+3]?=some (AO.cells [I 0,I 0,I 0,I 0,I 0,I 0,I 0,NS,I 0,I 0,NS,NS,NS,NS,NS,NS]):=fun c=>by rw[zQ (by omega)]; exact k3
  have uE:∀ c,(H2.set M.length c)[M.length]?=some c:=fun c=>zS (zAd kE)
  have v0:∀ c d,((H2.set M.length c).set (H.length+3) d)[H.length]?=some (AO.cells [I s.c.a,I s.c.b,I s.c.c,I s.c.boot,I s.c.free,I s.c.tries,I s.c.age,s.cs,I s.now,I s.next,s.js,s.ps,s.ks,s.ds,s.hs,s.us]):=fun c d=>by rw[zQ (by omega)]; exact u0 c
  refine goW TOk.nil [14] 0 ?_;simp only[push_cast,seval,↓kw2,c0,zAf,getA,zAg,setA,zAb,l0,n0,n2,m0,m2,mE,mO,happ,k0,k3,kE,u0,u3,uE,List.set_set,hnx,List.contains_cons,Bool.true_or,Bool.or_true,Bool.false_or];refine⟨hC,?_⟩;refine FW.drawAll hmix (ls:=ord14a) (by kernel_rfl) (by kernel_rfl) (Inv:=fun ts' H'=>ts' 6=.ptr (H.length+3) 0/\ts' 7=I s.next/\ts' 8=I 0/\H'=(H2.set M.length (AO.cells [I s.c.a,I s.c.b,I s.c.c,I s.c.boot,I s.c.free,I s.c.tries,I s.c.age,rc,I s.now,I (s.next+1),rj,rp,(.sl (HH.length+1) 0 (s.keeps.length+1) (s.keeps.length+1)),rd,rh,ru])).set (H.length+3) (AO.cells [I s.c.a,I s.c.b,I s.c.c,I s.c.boot,I s.c.free,I s.c.tries,I s.c.age,rc,I s.now,I (s.next+1),rj,rp,(.sl (HH.length+1) 0 (s.keeps.length+1) (s.keeps.length+1)),rd,rh,ru])) ?_ ?_
  ·intro l hl'
   simp only[ord14a,List.mem_cons,List.not_mem_nil,or_false]at hl'
   rcases hl' with rfl | rfl | rfl | rfl | rfl | rfl | rfl | rfl | rfl | rfl
   all_goals
    simp only[push_cast,seval,↓kw2,c0,zAf,getA,zAg,setA,zAb,l0,u0,u3,uE,v0]
  ·rintro ts' H' ⟨t6,t7,t8,rfl⟩
   have uF:∀ c d,((H2.set M.length c).set (H.length+3) d)[H.length+3]?=some d:=fun c d=>zS (zAd (u3 c))
   refine goW TOk.nil [14] 0 ?_;simp only[push_cast,seval,↓kw2,t6,t7,t8,uF];have hset:∀ i c d,i≠M.length->i≠H.length+3->((H2.set M.length c).set (H.length+3) d)[i]?=H2[i]?:=fun i c d h1 h2=>by rw[zQ (by omega),zQ (by omega)]
   have hold:∀ {k:Nat} {a r:AV} {l:List AV} {n m:Nat},LiveS k M a r l->Rng r n m->H.length+4<=n->m<=n4\/n5<=n->LiveS k ((H2.set M.length (AO.cells [I s.c.a,I s.c.b,I s.c.c,I s.c.boot,I s.c.free,I s.c.tries,I s.c.age,rc,I s.now,I (s.next+1),rj,rp,(.sl (HH.length+1) 0 (s.keeps.length+1) (s.keeps.length+1)),rd,rh,ru])).set (H.length+3) (AO.cells [I s.c.a,I s.c.b,I s.c.c,I s.c.boot,I s.c.free,I s.c.tries,I s.c.age,rc,I s.now,I (s.next+1),rj,rp,(.sl (HH.length+1) 0 (s.keeps.length+1) (s.keeps.length+1)),rd,rh,ru])) a r l:=fun hL hR h1 h2=>hL.keep fun i hi=>by
    have q1:=hL.lt i hi;have q2:=hR i hi;rw[hset i _ _ (by omega) (by omega),hkeep i (by omega) (fun e=>by have:=Rk i e; omega)];exact hget i q1
   have hnew:=put_row (H:=H) (s:=s.ks) (rk:=rk) ((hset (HH.length+1) (AO.cells [I s.c.a,I s.c.b,I s.c.c,I s.c.boot,I s.c.free,I s.c.tries,I s.c.age,rc,I s.now,I (s.next+1),rj,rp,(.sl (HH.length+1) 0 (s.keeps.length+1) (s.keeps.length+1)),rd,rh,ru]) (AO.cells [I s.c.a,I s.c.b,I s.c.c,I s.c.boot,I s.c.free,I s.c.tries,I s.c.age,rc,I s.now,I (s.next+1),rj,rp,(.sl (HH.length+1) 0 (s.keeps.length+1) (s.keeps.length+1)),rd,rh,ru]) (by omega) (by omega)).trans hrow);refine⟨_,rfl,?_⟩;refine hO rc rj rp (.sl (HH.length+1) 0 (s.keeps.length+1) (s.keeps.length+1)) rd rh ru _ ⟨.of (hold Lc Rc (by omega) (by omega)) (zAc Cls.av _ (fun _=>rfl)),.of (hold Lj Rj (by omega) (by omega)) (purL_jobs h.js.2),.of (hold Lp Rp (by omega) (by omega)) (zAc Prt.av _ (fun _=>rfl)),.of hnew (zAc Kep.av _ (fun _=>rfl)),.of (hold Ld Rd (by omega) (by omega)) (zAc IA _ (fun _=>rfl)),.of (hold Lh Rh (by omega) (by omega)) (zAc IA _ (fun _=>rfl)),.of (hold Lu Ru (by omega) (by omega)) (zAc IA _ (fun _=>rfl))⟩ hnew.toR ⟨fun i e=>by have:=Rc i e; omega,fun i e=>by have:=Rj i e; omega,fun i e=>by have:=Rp i e; omega,fun i e=>by cases e; omega,fun i e=>by have:=Rd i e; omega,fun i e=>by have:=Rh i e; omega,fun i e=>by have:=Ru i e; omega⟩ ?_ ?_
   ·intro q hq
    rw[hset q _ _ (by omega) (by omega),hkeep q (by omega) (hne q (by omega)),hget q (by omega)];exact hMk q hq
   ·have:=zAd (uF (AO.cells [I s.c.a,I s.c.b,I s.c.c,I s.c.boot,I s.c.free,I s.c.tries,I s.c.age,rc,I s.now,I (s.next+1),rj,rp,(.sl (HH.length+1) 0 (s.keeps.length+1) (s.keeps.length+1)),rd,rh,ru]) (AO.cells [I s.c.a,I s.c.b,I s.c.c,I s.c.boot,I s.c.free,I s.c.tries,I s.c.age,rc,I s.now,I (s.next+1),rj,rp,(.sl (HH.length+1) 0 (s.keeps.length+1) (s.keeps.length+1)),rd,rh,ru]));simp only[List.length_set]at this ⊢;omega
 ·skip
  refine goW TOk.nil [14] 0 ?_;simp only[push_cast,seval,↓kw2,c0,zAf,getA,zAg,setA,zAb,l0,i0,i2,i3,j0,j1,j2,j3,jz];exact⟨_,rfl,hE 80 (by simp[Sta.addE,hok,hA,hF,htk]) (by decide) _ (by repeat (first | exact hMk | exact fun _ _=>rfl | refine zFe ?_ (by first | omega | (simp; done) | (simp; omega)) | refine zFd ?_ (by first | omega | (simp; done) | (simp; omega)))) (by first | (simp; done) | (simp; omega))⟩
def Sta.dropS(s:Sta)(id:Int):Sta:=if s.dropE id=0 then s.del id else Sta.nil0
theorem dropS_ok{s:Sta}{id:Int}(h:s.dropE id=0):s.dropS id=s.del id:=if_pos h
theorem dropS_no{s:Sta}{id:Int}(h:¬s.dropE id=0):s.dropS id=Sta.nil0:=if_neg h
theorem FzS.del{H0 H:List AO}{ks r s':AV}{l m:List Kep}(hr:LiveS 9 H0 ks r (l.map Kep.av))(hs:Same3 r s')(hg:SegK H s' m)(hle:Le (delZ ks m) (delS ks m))(hc:(delS ks m).isCell=true):FzS H (delS ks m) s' :=
 ⟨fun i hi=>by cases hg with
  | nil=>cases hi
  | zs=>cases hi
  | row h=>cases hi; exact zAd h,fun H' hk=>by obtain⟨a,b,_⟩:=del_froz hr hs (hg.keep hk); exact⟨_,a,b,hle⟩,hg.cell,hc⟩
theorem dropA_ac{s:Sta}(h:s.good)(hl:s.lim)(hl2:s.lim2)(id:Int){H:List AO}{K:AV->List AO->Prop}
  (hK:∀ rc rj rp rk rd rh ru H',LiveA (s.dropS id) H' rc rj rp rk rd rh ru->LiveR 16 H' rj ((s.dropS id).jobs.map Jb.av)->AboA H.length rc rj rp rk rd rh ru->(∀ q,q < H.length->H'[q]?=H[q]?)->H.length<=H'.length ->
   K (.tup [ST (s.dropS id).c.a (s.dropS id).c.b (s.dropS id).c.c (s.dropS id).c.boot (s.dropS id).c.free (s.dropS id).c.tries (s.dropS id).c.age rc (s.dropS id).now (s.dropS id).next rj rp rk rd rh ru,I (s.dropE id)]) H') :
  AC zP GG 25 [s.av,I id] H K:=by
 have hE:¬s.dropE id=0->∀ H':List AO,(∀ q,q < H.length->H'[q]?=H[q]?)->H.length<=H'.length->K (.tup [ST0,I (s.dropE id)]) H':=fun hne H' hk hlen=>by
  have:=hK NS NS NS NS NS NS NS H' (by rw[dropS_no hne]; exact liveA_nil0 _) (by rw[dropS_no hne]; exact .nil) (aboA_nil0 _) hk hlen;rw[dropS_no hne]at this;exact this
 have hO:=fun he:s.dropE id=0=>by
  have:=hK;rw[dropS_ok he,he]at this;exact this
 clear hK;have c0:=h.cell;obtain⟨p1,p2,p3,p4,p5,p6,p7⟩:=h.purs;have hC:=holdc_pur h hl;have hlen:=h.ks.len un55;rw[zM]at hlen;simp only[Sta.av]at hC;show AC zP GG 25 [ST s.c.a s.c.b s.c.c s.c.boot s.c.free s.c.tries s.c.age s.cs s.now s.next s.js s.ps s.ks s.ds s.hs s.us,I id] H K;have hMk:∀ q,q < H.length->H[q]?=H[q]?:=fun _ _=>rfl
 cases hok:s.okV
 ·rw[hok]at hC;simp only[Bool.false_eq_true,if_false]at hC;have hA:s.dropE id=8:=by simp[Sta.dropE,hok]
  rw[hA]at hE;refine goE e25 TOk.nil 0 ?_;simp only[push_cast,seval,↓kw2,c0,zAf,getA,zAg,setA,zAb];refine AC.pur hC ?_;refine goN ?_;simp only[push_cast,seval,↓kw2,c0,zAf,getA,zAg,setA,zAb];exact⟨_,rfl,hE (by decide) _ (by repeat (first | exact hMk | exact fun _ _=>rfl | refine zFe ?_ (by first | omega | (simp; done) | (simp; omega)) | refine zFd ?_ (by first | omega | (simp; done) | (simp; omega)))) (by simp)⟩
 rw[hok]at hC;simp only[if_true]at hC;have hE:=fun(e:Int) (he:s.dropE id=e)=>(he ▸ hE:¬e=0->_)
 refine goE e25 TOk.nil 0 ?_;simp only[push_cast,seval,↓kw2,c0,zAf,getA,zAg,setA,zAb];refine AC.pur hC ?_;refine goN ?_;simp only[push_cast,seval,↓kw2,c0,zAf,getA,zAg,setA,zAb];refine twinA_ac h hl2 ?_
 intro rc rj rp rk rd rh ru X n1 n2 n3 n4 n5 n6 n7 Lc Lj Lp Lk Ld Lh Lu hn1 Rc Rj Rp Rk Rd Rh Ru hmo
 have l0:=And.intro Lc.cell (And.intro Lj.cell (And.intro Lp.cell (And.intro Lk.cell (And.intro Ld.cell (And.intro Lh.cell Lu.cell)))));clear hMk
 generalize hM:(_++X:List AO)=M at Lc Lj Lp Lk Ld Lh Lu Ru hmo ⊢
 have hMk:∀ q,q < H.length->M[q]?=H[q]?:=fun q hq=>by rw[<- hM]; simp[zL,hq,List.append_assoc]
 have hn1:H.length+3<=n1:=by simpa using hn1
 have i0:M[H.length]?=some (AO.cells [I s.c.a,I s.c.b,I s.c.c,I s.c.boot,I s.c.free,I s.c.tries,I s.c.age,s.cs,I s.now,I s.next,s.js,s.ps,s.ks,s.ds,s.hs,s.us]):=by rw[<- hM]; simp
 have i1:M[H.length+1]?=some (AO.cells [I id]):=by rw[<- hM]; simp
 have i2:M[H.length+2]?=some (AO.cells [I 0,I 0,I 0,I 0,I 0,I 0,I 0,NS,I 0,I 0,NS,NS,NS,NS,NS,NS]):=by rw[<- hM]; simp
 have hlM:H.length+3<=M.length:=by omega
 refine goN ?_;simp only[push_cast,seval,↓kw2,c0,zAf,getA,zAg,setA,zAb,l0];have fa:∀ {k:Nat} {a r:AV} {l:List AV},LiveS k M a r l->∀ L,LiveS k (M++L) a r l:=fun h L=>h.keep fun i hi=>zL (h.lt i hi)
 generalize hHH:(M++_:List AO)=HH
 have lE:M++[AO.cells [I s.c.a,I s.c.b,I s.c.c,I s.c.boot,I s.c.free,I s.c.tries,I s.c.age,rc,I s.now,I s.next,rj,rp,rk,rd,rh,ru]]=HH:=hHH;have hk2:LiveS 9 HH s.ks rk (s.keeps.map Kep.av):=lE ▸ fa Lk _;have hlH:HH.length=M.length+1:=by rw[<- hHH]; simp
 have hget:∀ i,i < M.length->HH[i]?=M[i]?:=fun i hi=>by rw[<- hHH]; exact zL hi
 have n0:=(hget _ (by omega)).trans i0;have n1':=(hget _ (by omega)).trans i1;have n2':=(hget _ (by omega)).trans i2;have nE:HH[M.length]?=some (AO.cells [I s.c.a,I s.c.b,I s.c.c,I s.c.boot,I s.c.free,I s.c.tries,I s.c.age,rc,I s.now,I s.next,rj,rp,rk,rd,rh,ru]):=by rw[<- lE]; simp
 have hne:∀ j,(j < H.length+3\/M.length<=j)->zAl rk≠some j:=fun j hj e=>by
  have h1:=Rk j e;omega
 try simp only[push_cast,seval,↓kw2,c0,zAf,getA,zAg,setA,zAb,l0,nE,n0]
 refine deleteK hk2.segK (by have:=hl2.kl; omega) (predK (q:=H.length+1) (n:=id) (fun k=>drop1_pur k id) n1' (hne _ (by omega))) ?_
 intro H' sk hsg hsm hfr
 obtain⟨s1,s2,s3⟩:=hsg.cell;have k0:=(hfr _ (by omega) (hne _ (by omega))).trans n0;have k2:=(hfr _ (by omega) (hne _ (by omega))).trans n2';have kE:=(hfr _ (by omega) (hne _ (by omega))).trans nE;have u0:∀ c,(H'.set M.length c)[H.length]?=some (AO.cells [I s.c.a,I s.c.b,I s.c.c,I s.c.boot,I s.c.free,I s.c.tries,I s.c.age,s.cs,I s.now,I s.next,s.js,s.ps,s.ks,s.ds,s.hs,s.us]):=fun c=>by rw[zQ (by omega)]; exact k0
 have u2:∀ c,(H'.set M.length c)[H.length+2]?=some (AO.cells [I 0,I 0,I 0,I 0,I 0,I 0,I 0,NS,I 0,I 0,NS,NS,NS,NS,NS,NS]):=fun c=>by rw[zQ (by omega)]; exact k2
 have uE:∀ c,(H'.set M.length c)[M.length]?=some c:=fun c=>zS (zAd kE)
 have hll:=hsg.len;have hLe:(List.filter (fun x=>!decide (x.id=id)) s.keeps)=s.left id:=rfl;rw[hLe]at hsg hll;have uz:∀ c d,((H'.set M.length c).set (H.length+2) d)[H.length+2]?=some d:=fun c d=>zS (zAd (u2 c))
 have hset:∀ j c d,j≠M.length->j≠H.length+2->((H'.set M.length c).set (H.length+2) d)[j]?=H'[j]?:=fun j c d h1 h2=>by rw[zQ (fun e=>h2 e.symm),zQ (fun e=>h1 e.symm)]
 have hlow:∀ c d q,q < H.length->((H'.set M.length c).set (H.length+2) d)[q]?=H[q]?:=fun c d q hq=>by
  rw[hset q _ _ (by omega) (by omega),hfr q (by omega) (hne q (by omega)),hget q (by omega)];exact hMk q hq
 have hlz:∀ c d,H.length<=((H'.set M.length c).set (H.length+2) d).length:=fun c d=>by have:=zAd (uz c d); omega
 by_cases he:(s.left id).length=s.keeps.length
 ·have dE:decide (((s.left id).length:Int)=(s.keeps.length:Int))=true:=zT (by omega);refine goN ?_;simp only[push_cast,seval,↓kw2,c0,zAf,getA,zAg,setA,zAb,l0,s1,s2,s3,k0,k2,kE,u0,u2,uE,uz,hll,hlen,dE,List.set_set];exact⟨_,rfl,hE 6 (by simp[Sta.dropE,hok,he]) (by decide) _ (hlow _ _) (hlz _ _)⟩
 ·have dE:decide (((s.left id).length:Int)=(s.keeps.length:Int))=false:=zF (by omega);have hA0:s.dropE id=0:=by simp[Sta.dropE,hok,he]
  refine goN ?_;simp only[push_cast,seval,↓kw2,c0,zAf,getA,zAg,setA,zAb,l0,s1,s2,s3,k0,k2,kE,u0,u2,uE,uz,hll,hlen,dE,List.set_set];have hold:∀ {k:Nat} {a r:AV} {l:List AV} {n m:Nat},LiveS k M a r l->Rng r n m->H.length+3<=n->m<=n4\/n5<=n->LiveS k ((H'.set M.length (AO.cells [I s.c.a,I s.c.b,I s.c.c,I s.c.boot,I s.c.free,I s.c.tries,I s.c.age,rc,I s.now,I s.next,rj,rp,sk,rd,rh,ru])).set (H.length+2) (AO.cells [I s.c.a,I s.c.b,I s.c.c,I s.c.boot,I s.c.free,I s.c.tries,I s.c.age,rc,I s.now,I s.next,rj,rp,sk,rd,rh,ru])) a r l:=fun hL hR h1 h2=>hL.keep fun i hi=>by
   have q1:=hL.lt i hi;have q2:=hR i hi;rw[hset i _ _ (by omega) (by omega),hfr i (by omega) (fun e=>by have:=Rk i e; omega)];exact hget i q1
  have hown:∀ i,zAl sk=some i->zAl rk=some i:=fun i hi=>by rw[<- hsm.own]; exact hi
  have hs3:SegK ((H'.set M.length (AO.cells [I s.c.a,I s.c.b,I s.c.c,I s.c.boot,I s.c.free,I s.c.tries,I s.c.age,rc,I s.now,I s.next,rj,rp,sk,rd,rh,ru])).set (H.length+2) (AO.cells [I s.c.a,I s.c.b,I s.c.c,I s.c.boot,I s.c.free,I s.c.tries,I s.c.age,rc,I s.now,I s.next,rj,rp,sk,rd,rh,ru])) sk (s.left id):=hsg.keep fun i hi=>by
   have h1:=hk2.lt i (hown i hi);have h2:=Rk i (hown i hi);exact hset i _ _ (by omega) (by omega)
  have hdg:=del_good h id;have oj:=hold Lj Rj (by omega) (by omega);refine⟨_,rfl,hO hA0 rc rj rp sk rd rh ru _ ⟨.of (hold Lc Rc (by omega) (by omega)) (zAc Cls.av _ (fun _=>rfl)),.of oj (purL_jobs h.js.2),.of (hold Lp Rp (by omega) (by omega)) (zAc Prt.av _ (fun _=>rfl)),.del hk2 hsm hs3 (del_le h.ks (left_nil id)) hdg.ks.cell.1,.of (hold Ld Rd (by omega) (by omega)) (zAc IA _ (fun _=>rfl)),.of (hold Lh Rh (by omega) (by omega)) (zAc IA _ (fun _=>rfl)),.of (hold Lu Ru (by omega) (by omega)) (zAc IA _ (fun _=>rfl))⟩ oj.toR ⟨fun i e=>by have:=Rc i e; omega,fun i e=>by have:=Rj i e; omega,fun i e=>by have:=Rp i e; omega,fun i e=>by have:=Rk i (hown i e); omega,fun i e=>by have:=Rd i e; omega,fun i e=>by have:=Rh i e; omega,fun i e=>by have:=Ru i e; omega⟩ (hlow _ _) (hlz _ _)⟩
theorem e132:Ent zP 132 Tryz.f132 [] 3:=.mk Tryz.func132 rfl
attribute [push_cast] Tryz.f132
theorem maySpan21{s:Sta}(h:s.good)(hd:okD s.c.a s.c.b s.c.c)(b:Bx6)(fr till:Int):Pur zP GG 132 [s.av,.agg [I b.x,I b.y,I b.z,I b.p,I b.q,I b.r],.agg [I fr,I till]] (B (!s.argE b fr till)):=by
 have hZ:=h.cell;obtain⟨⟨⟨a1,a2,a3⟩,b1,b2,b3⟩,⟨⟨c1,c2,c3⟩,d1,d2,d3⟩,⟨e1,e2,e3⟩,⟨f1,f2,f3⟩,g1,g2,g3⟩:=h.cell;obtain⟨p1,p2,p3,p4,p5,p6,p7⟩:=h.purs;have hM:=may02 s.c.a s.c.b s.c.c b.x b.y b.z b.p b.q b.r;show Pur zP GG 132 [ST s.c.a s.c.b s.c.c s.c.boot s.c.free s.c.tries s.c.age s.cs s.now s.next s.js s.ps s.ks s.ds s.hs s.us,.agg [I b.x,I b.y,I b.z,I b.p,I b.q,I b.r],.agg [I fr,I till]] _;have hA:(!s.argE b fr till)=(decide (okB s.c.a s.c.b s.c.c b.x b.y b.z b.p b.q b.r)&&(decide (s.now<=fr)&&(decide (fr < till)&&decide (till<=1099511627776)))):=by
  unfold Sta.argE Sta.ckb;have:decide (ckB s.c.a s.c.b s.c.c b.x b.y b.z b.p b.q b.r=0)=decide (okB s.c.a s.c.b s.c.c b.x b.y b.z b.p b.q b.r):=decide_eq_decide.2 ⟨fun h=>(ckB0 h).2,fun h=>ckB_ok hd h⟩;rw[this];rw[Bool.eq_iff_iff];simp
 rw[hA];cases hk:decide (okB s.c.a s.c.b s.c.c b.x b.y b.z b.p b.q b.r)
 ·rw[hk]at hM;refine goQ e132 TOk.nil 0 ?_ (by simp[AV.purL,AV.pur,p1,p2,p3,p4,p5,p6,p7]);simp only[push_cast,seval,↓kw2,hZ];refine AC.pur hM ?_;refine goN ?_;simp only[push_cast,seval,↓kw2,hZ];exact⟨_,rfl,zAa rfl rfl⟩
 ·rw[hk]at hM;refine goQ e132 TOk.nil 0 ?_ (by simp[AV.purL,AV.pur,p1,p2,p3,p4,p5,p6,p7]);simp only[push_cast,seval,↓kw2,hZ];refine AC.pur hM ?_;refine goN ?_;simp only[push_cast,seval,↓kw2,hZ]
  repeat' (first | apply And.intro | intro _)
  all_goals
   refine⟨_,rfl,zAa rfl (congrArg B ?_)⟩;rw[Bool.eq_iff_iff];simp;omega
def Sta.delC(s:Sta)(id:Int):Sta:={ s.cp with keeps:=s.left id,ks:=frS ((s.left id).map Kep.av) }
theorem e76:Ent zP 76 Tryz.f76 [] 2:=.mk Tryz.func76 rfl
attribute [push_cast] Tryz.f76
theorem dropped21{s:Sta}(h:s.good)(hl2:s.lim2)(id:Int):Pur zP GG 76 [s.av,I id] (.tup [if (s.left id).length=s.keeps.length then ST0 else (s.delC id).av,I (if (s.left id).length=s.keeps.length then 6 else 0)]):=by
 have hZ:=h.cell;obtain⟨⟨⟨a1,a2,a3⟩,b1,b2,b3⟩,⟨⟨c1,c2,c3⟩,d1,d2,d3⟩,⟨e1,e2,e3⟩,⟨f1,f2,f3⟩,g1,g2,g3⟩:=h.cell;obtain⟨p1,p2,p3,p4,p5,p6,p7⟩:=h.purs;have hT:=twin21 h hl2;have hlen:=h.ks.len (P:=zP) un55;rw[zM]at hlen;have hkl:=hl2.kl;have hidx:=fun(i:Nat) (hi:i < s.keeps.length) (H:List AO)=>h.ks.idx (P:=zP) un55 sz68 (i:=(i:Int)) (by rw[zM]; omega) (by omega) H
 have hX:=s.cp_good.cell;obtain⟨⟨⟨z1a,z1b,z1c⟩,z2a,z2b,z2c⟩,⟨⟨z3a,z3b,z3c⟩,z4a,z4b,z4c⟩,⟨z5a,z5b,z5c⟩,⟨z6a,z6b,z6c⟩,z7a,z7b,z7c⟩:=s.cp_good.cell;obtain⟨u1,u2,u3,u4,u5,u6,u7⟩:=s.cp_good.purs;have hE:s.cp.av=ST s.c.a s.c.b s.c.c s.c.boot s.c.free s.c.tries s.c.age s.cp.cs s.now s.next s.cp.js s.cp.ps s.cp.ks s.cp.ds s.cp.hs s.cp.us:=rfl;rw[hE]at hT;simp only[Sta.av]at hT;have hdl:(s.delC id).av=ST s.c.a s.c.b s.c.c s.c.boot s.c.free s.c.tries s.c.age s.cp.cs s.now s.next s.cp.js s.cp.ps (frS ((s.left id).map Kep.av)) s.cp.ds s.cp.hs s.cp.us:=rfl;rw[hdl]
 generalize s.cp.cs=qc at *
 generalize s.cp.js=qj at *
 generalize s.cp.ps=qp at *
 generalize s.cp.ks=qk at *
 generalize s.cp.ds=qd at *
 generalize s.cp.hs=qh at *
 generalize s.cp.us=qu at *
 have hlf:s.left id=s.keeps.filter fun k=>!decide (k.id=id):=rfl
 show Pur zP GG 76 [ST s.c.a s.c.b s.c.c s.c.boot s.c.free s.c.tries s.c.age s.cs s.now s.next s.js s.ps s.ks s.ds s.hs s.us,I id] _;refine goQ e76 TOk.nil 0 ?_ (by simp[AV.purL,AV.pur,p1,p2,p3,p4,p5,p6,p7]);simp only[push_cast,seval,↓kw2,hZ];refine AC.pur hT ?_;refine goN ?_;simp only[push_cast,seval,↓kw2,hZ,hX];refine FW.loopInv (fun n ts H=>∃(i:Nat) (o:AV),i+n=s.keeps.length/\OwnK 9 H o (((s.keeps.take i).filter fun k=>!decide (k.id=id)).map Kep.av)/\H[0]?=some (.cells [I s.c.a,I s.c.b,I s.c.c,I s.c.boot,I s.c.free,I s.c.tries,I s.c.age,s.cs,I s.now,I s.next,s.js,s.ps,s.ks,s.ds,s.hs,s.us])/\H[1]?=some (.cells [I 0,I 0,I 0,I 0,I 0,I 0,I 0,NS,I 0,I 0,NS,NS,NS,NS,NS,NS])/\H[2]?=some (.cells [I s.c.a,I s.c.b,I s.c.c,I s.c.boot,I s.c.free,I s.c.tries,I s.c.age,qc,I s.now,I s.next,qj,qp,o,qd,qh,qu])/\(∀ j,zAl o=some j->3<=j)/\ts 1=I id/\ts 2=.ptr 0 0/\ts 4=.ptr 1 0/\ts 6=.ptr 2 0/\ts 7=I (i:Int)) s.keeps.length
  ⟨0,_,by omega,.nil,rfl,rfl,rfl,(fun j h=>by cases h),rfl,rfl,rfl,rfl,rfl⟩ ?_
 rintro n ih ts H ⟨i,o,hi,hown,n0,n1,n2,hoi,t1,t2,t4,t6,t7⟩
 refine FW.inLoop ?_;obtain⟨y1,y2,y3⟩:=hown.cell;have w2:=zAh (n:=(i:Int)+1) (by omega) (by omega);have hl3:=zAd n2
 by_cases hlt:i < s.keeps.length
 ·have q1:decide ((i:Int) < (s.keeps.length:Int))=true:=zT (by omega);have hx:=hidx i hlt;simp only[Int.toNat_natCast]at hx;rw[zAe Kep.av s.keeps default hlt]at hx;have htk:=zAo default hlt;have hfl:((s.keeps.take i).filter fun k=>!decide (k.id=id)).length<=s.keeps.length:=Nat.le_trans (List.length_filter_le _ _) (by rw[List.length_take]; omega)
  generalize s.keeps.getD i default=k at hx htk
  have hcy:=Kep.cells k;have hbb:(0<=(i:Int)/\(i:Int) < ((s.keeps.map Kep.av).length:Int)):=⟨by omega,by rw[zM]; omega⟩
  by_cases hk:k.id=id
  ·have x1:decide (k.id≠id)=false:=by simp[hk]
   refine goN ?_;simp only[push_cast,seval,↓kw2,hZ,hX,n0,n1,n2,t1,t2,t4,t6,t7,hlen,q1,hx,hcy,x1,w2]
   repeat (first | refine⟨hbb,?_⟩)
   exact ih (n - 1) (by omega) _ _ ⟨i+1,o,by omega,by rw[htk,List.filter_append,show([k].filter fun k=>!decide (k.id=id))=[] by simp[hk],List.append_nil]; exact hown,n0,n1,n2,hoi,t1,t2,t4,t6,rfl⟩
  ·have x1:decide (k.id≠id)=true:=by simp[hk]
   have hap:=fun v=>aAppK (P:=zP) (k:=9) un55 un55 ze68 rfl by68 hown v
   have hown3:=apHk_own (k:=9) (H:=H) (s:=o) (es:=((s.keeps.take i).filter fun k=>!decide (k.id=id)).map Kep.av) (v:=k.av);have hgt:∀ v q,q < 3->(apHk 9 H o (((s.keeps.take i).filter fun k=>!decide (k.id=id)).map Kep.av) v)[q]?=H[q]?:=fun v q hq=>zDn (by omega) (fun e=>by have:=hoi q e; omega)
   have g0:=fun v=>(hgt v 0 (by omega)).trans n0
   have g1:=fun v=>(hgt v 1 (by omega)).trans n1
   have g2:=fun v=>(hgt v 2 (by omega)).trans n2
   have b0:∀ X:List AO,(H++X)[0]?=H[0]?:=fun X=>zL (by omega)
   have b2:∀ X:List AO,(H++X)[2]?=H[2]?:=fun X=>zL (by omega)
   refine goN ?_;simp only[push_cast,seval,↓kw2,hZ,hX,y1,y2,y3,n0,n1,n2,b0,b2,t1,t2,t4,t6,t7,hlen,q1,hx,hcy,x1,hap,g0,g1,g2,w2]
   repeat (first | refine⟨hbb,?_⟩ | refine⟨zEq (by rw[zM]; omega) (by decide),?_⟩)
   have hle:=zDk (k:=9) (H:=H) (s:=o) (es:=((s.keeps.take i).filter fun k=>!decide (k.id=id)).map Kep.av) (v:=k.av);exact ih (n - 1) (by omega) _ _ ⟨i+1,_,by omega,by
    rw[htk,List.filter_append,List.map_append,show([k].filter fun k=>!decide (k.id=id))=[k] by simp[hk]];exact hown3.keep fun j hj=>by cases hj; exact zQ (by omega),(zQ (by decide)).trans (g0 _),(zQ (by decide)).trans (g1 _),zS (by rw[zDk]; omega),(fun j hj=>by cases hj; omega),t1,t2,t4,t6,rfl⟩
 ·have q1:decide ((i:Int) < (s.keeps.length:Int))=false:=zF (by omega);rw[List.take_of_length_le (by omega),<- hlf]at hown;have hol:aLen zP 55 o=some ((s.left id).length:Int):=by
   generalize hes:(s.left id).map Kep.av=es at hown
   have hel:es.length=(s.left id).length:=by rw[<- hes,zM]
   cases hown with
   | nil=>rw[<- hel]; unfold aLen; simp only[un55]; rfl
   | row _ _=>rw[<- hel]; unfold aLen; simp only[un55]
  have uS:∀ x,(H.set 1 x)[1]?=some x:=fun x=>zS (by omega)
  by_cases he:(s.left id).length=s.keeps.length
  ·have x1:decide (((s.left id).length:Int)=(s.keeps.length:Int))=true:=zT (by omega);rw[if_pos he,if_pos he];refine goN ?_;simp only[push_cast,seval,↓kw2,hZ,hX,y1,y2,y3,n0,n1,n2,t1,t2,t4,t6,t7,hlen,q1,hol,x1,uS];exact⟨_,rfl,zAa rfl rfl⟩
  ·have x1:decide (((s.left id).length:Int)=(s.keeps.length:Int))=false:=zF (by omega);rw[if_neg he,if_neg he];refine goN ?_;simp only[push_cast,seval,↓kw2,hZ,hX,y1,y2,y3,n0,n1,n2,t1,t2,t4,t6,t7,hlen,q1,hol,x1,uS];have hmv:∀ x,OwnK 9 (H.set 1 x) o ((s.left id).map Kep.av):=fun x=>hown.keep fun j hj=>zQ (by have:=hoi j hj; omega)
   exact⟨_,rfl,4,tup2_frz (ST_frz7 (zBh u1) (zBh u2) (zBh u3) (zCj (hmv _) (zAc Kep.av _ fun _=>rfl)) (zBh u5) (zBh u6) (zBh u7))⟩
theorem e26:Ent zP 26 Tryz.f26 [] 2:=.mk Tryz.func26 rfl
attribute [push_cast] Tryz.f26
theorem drop21{s:Sta}(h:s.good)(hl:s.lim)(hl2:s.lim2)(id:Int):Pur zP GG 26 [s.av,I id] (.tup [if s.dropE id=0 then (s.delC id).av else ST0,I (s.dropE id)]):=by
 have hZ:=h.cell;obtain⟨⟨⟨a1,a2,a3⟩,b1,b2,b3⟩,⟨⟨c1,c2,c3⟩,d1,d2,d3⟩,⟨e1,e2,e3⟩,⟨f1,f2,f3⟩,g1,g2,g3⟩:=h.cell;obtain⟨p1,p2,p3,p4,p5,p6,p7⟩:=h.purs;have k1:=may21 h hl hl2;have k2:=dropped21 h hl2 id;simp only[Sta.av]at k1 k2;obtain⟨u1,u2,u3,u4,u5,u6,u7⟩:=s.cp_good.purs;unfold Sta.dropE;show Pur zP GG 26 [ST s.c.a s.c.b s.c.c s.c.boot s.c.free s.c.tries s.c.age s.cs s.now s.next s.js s.ps s.ks s.ds s.hs s.us,I id] _;cases hv:s.okV
 ·rw[hv]at k1;simp only[Bool.false_eq_true,if_false];rw[if_neg (show ¬(8:Int)=0 by decide)];refine goQ e26 TOk.nil 0 ?_ (by simp[AV.purL,AV.pur,p1,p2,p3,p4,p5,p6,p7]);simp only[push_cast,seval,↓kw2,hZ];refine AC.pur k1 ?_;refine goN ?_;simp only[push_cast,seval,↓kw2,hZ];exact⟨_,rfl,zAa rfl rfl⟩
 ·rw[hv]at k1;rw[if_pos rfl];have hdl:(s.delC id).av=ST s.c.a s.c.b s.c.c s.c.boot s.c.free s.c.tries s.c.age s.cp.cs s.now s.next s.cp.js s.cp.ps (frS ((s.left id).map Kep.av)) s.cp.ds s.cp.hs s.cp.us:=rfl;have hX:=s.cp_good.cell;obtain⟨⟨⟨z1a,z1b,z1c⟩,z2a,z2b,z2c⟩,⟨⟨z3a,z3b,z3c⟩,z4a,z4b,z4c⟩,⟨z5a,z5b,z5c⟩,⟨z6a,z6b,z6c⟩,z7a,z7b,z7c⟩:=s.cp_good.cell;obtain⟨x1,x2,x3⟩:=(IsSl.frS ((s.left id).map Kep.av)).cell;have xp:=(IsSl.frS ((s.left id).map Kep.av)).pur (zAc Kep.av _ (fun _=>rfl));have hdv:(s.delC id).av=(s.delC id).av:=rfl
  by_cases he:(s.left id).length=s.keeps.length
  ·rw[if_pos he,if_pos he]at k2;rw[if_pos he,if_neg (show ¬(6:Int)=0 by decide)];refine goQ e26 TOk.nil 0 ?_ (by simp[AV.purL,AV.pur,p1,p2,p3,p4,p5,p6,p7]);simp only[push_cast,seval,↓kw2,hZ];refine AC.pur k1 ?_;refine goN ?_;simp only[push_cast,seval,↓kw2,hZ];refine AC.pur k2 ?_;refine goN ?_;simp only[push_cast,seval,↓kw2,hZ];exact⟨_,rfl,zAa rfl rfl⟩
  ·rw[if_neg he,if_neg he]at k2;rw[if_neg he,if_pos rfl];have hdl2:=hdl;simp only[Sta.av]at hdl2;rw[hdl2]at k2;rw[hdl]
   generalize s.cp.cs=qc at *
   generalize s.cp.js=qj at *
   generalize s.cp.ps=qp at *
   generalize s.cp.ds=qd at *
   generalize s.cp.hs=qh at *
   generalize s.cp.us=qu at *
   generalize frS ((s.left id).map Kep.av)=qk2 at *
   refine goQ e26 TOk.nil 0 ?_ (by simp[AV.purL,AV.pur,p1,p2,p3,p4,p5,p6,p7]);simp only[push_cast,seval,↓kw2,hZ];refine AC.pur k1 ?_;refine goN ?_;simp only[push_cast,seval,↓kw2,hZ];refine AC.pur k2 ?_;refine goN ?_;simp only[push_cast,seval,↓kw2,hZ,hX,x1,x2,x3];exact⟨_,rfl,zAa (by simp[AV.pur,AV.purL,u1,u2,u3,u5,u6,u7,xp]) rfl⟩
def Sta.putC(s:Sta)(b:Bx6)(fr till:Int):Sta:={ s.cp with keeps:=s.keeps++[Kep.mk6 s.next (s.own b) fr till],ks:=frS ((s.keeps++[Kep.mk6 s.next (s.own b) fr till]).map Kep.av),next:=s.next+1 }
theorem own_is{s:Sta}{b:Bx6}(h:s.ckb b=0):s.own b=⟨can 0 s.c.a b.p b.x,can 0 s.c.b b.q b.y,can 0 s.c.c b.r b.z,b.p,b.q,b.r⟩:=by
 unfold Sta.own;rw[h,cas_z,cas_z,cas_z]
theorem own_ok{s:Sta}{b:Bx6}(h:s.ckb b=0):(s.own b).pl.ok s.c.a s.c.b s.c.c:=by
 obtain⟨hd,hb⟩:=ckB0 h;rw[own_is h];have hb':okB s.c.a s.c.b s.c.c (can 0 s.c.a b.p b.x) (can 0 s.c.b b.q b.y) (can 0 s.c.c b.r b.z) b.p b.q b.r:=by
  unfold okB ok1 at *;rw[can_0,can_0,can_0];refine⟨?_,?_,?_⟩ <;> split <;> omega
 refine⟨hd,hb',(fun h=>by cases h),(fun h=>by cases h),(fun h=>by cases h),fun e=>?_,fun e=>?_,fun e=>?_⟩
 ·show can 0 s.c.a b.p b.x=0;rw[can_0]; exact if_pos e
 ·show can 0 s.c.b b.q b.y=0;rw[can_0]; exact if_pos e
 ·show can 0 s.c.c b.r b.z=0;rw[can_0]; exact if_pos e
theorem argE_no{s:Sta}{b:Bx6}{fr till:Int}(h:s.argE b fr till=false):s.ckb b=0:=by
 unfold Sta.argE at h;simp only[Bool.or_eq_false_iff,Bool.not_eq_false',decide_eq_true_eq]at h;exact h.1
theorem e74:Ent zP 74 Tryz.f74 [11] 3:=.mk Tryz.func74 rfl
attribute [push_cast] Tryz.f74
theorem added21{s:Sta}(h:s.good)(hl:s.lim)(hl2:s.lim2)(hok:s.okV=true)(b:Bx6)(fr till:Int):Pur zP GG 74 [s.av,.agg [I b.x,I b.y,I b.z,I b.p,I b.q,I b.r],.agg [I fr,I till]]
  (.tup [if s.addE b fr till=0 then (s.putC b fr till).av else ST0,I (if s.addE b fr till=0 then s.next else 0),I (s.addE b fr till)]):=by
 have hZ:=h.cell;obtain⟨⟨⟨a1,a2,a3⟩,b1,b2,b3⟩,⟨⟨c1,c2,c3⟩,d1,d2,d3⟩,⟨e1,e2,e3⟩,⟨f1,f2,f3⟩,g1,g2,g3⟩:=h.cell;obtain⟨p1,p2,p3,p4,p5,p6,p7⟩:=h.purs;have hE:s.addE b fr till=(if s.argE b fr till=true then 2 else if s.full=true then 9 else if s.taken s.keeps (s.own b) fr till=true then 80 else 0):=by unfold Sta.addE; rw[if_pos hok]
 have hd:okD s.c.a s.c.b s.c.c:=by
  have h0:=hok;unfold Sta.okV at h0;simp only[zA]at h0;exact Cfg.may_ok (Cfg.chk_may (config_chk h0.1))
 have hpv:s.partsV=true/\s.keepsV=true:=by
  have h0:=hok;unfold Sta.okV at h0;simp only[zA]at h0;exact⟨h0.2.2.2.1,h0.2.2.2.2.2⟩
 have hM:=maySpan21 h hd b fr till;simp only[Sta.av]at hM;have hT:=told02 s.c.a s.c.b s.c.c b.x b.y b.z b.p b.q b.r;have hlen:=h.ks.len un55;rw[zM]at hlen;have hkl:=hl2.kl;have hnx0:=cfg_next hok;show Pur zP GG 74 [ST s.c.a s.c.b s.c.c s.c.boot s.c.free s.c.tries s.c.age s.cs s.now s.next s.js s.ps s.ks s.ds s.hs s.us,.agg [I b.x,I b.y,I b.z,I b.p,I b.q,I b.r],.agg [I fr,I till]] _;cases hA:s.argE b fr till
 rotate_left
 ·rw[hA]at hM;rw[show s.addE b fr till=2 by rw[hE,hA]; rfl,if_neg (show ¬(2:Int)=0 by decide),if_neg (show ¬(2:Int)=0 by decide)];refine goQ e74 TOk.nil 0 ?_ (by simp[AV.purL,AV.pur,p1,p2,p3,p4,p5,p6,p7]);simp only[push_cast,seval,↓kw2,hZ];refine AC.pur hM ?_;refine goW TOk.nil [11] 0 ?_;simp only[push_cast,seval,↓kw2,hZ];exact⟨_,rfl,zAa rfl rfl⟩
 rw[hA]at hM;have hck:=argE_no hA;have how:=own_is hck;have hoo:=own_ok hck
 by_cases z1:4<=(s.keeps.length:Int)
 ·have x1:=zT z1;rw[show s.addE b fr till=9 by rw[hE,hA,if_neg (by decide),if_pos (by unfold Sta.full; rw[x1]; rfl)],if_neg (show ¬(9:Int)=0 by decide),if_neg (show ¬(9:Int)=0 by decide)];refine goQ e74 TOk.nil 0 ?_ (by simp[AV.purL,AV.pur,p1,p2,p3,p4,p5,p6,p7]);simp only[push_cast,seval,↓kw2,hZ];refine AC.pur hM ?_;refine goW TOk.nil [11] 0 ?_;simp only[push_cast,seval,↓kw2,hZ,hlen,x1,ge_iff_le];exact⟨_,rfl,zAa rfl rfl⟩
 have x1:=zF z1
 by_cases z2:2147483647<=s.next
 ·have x2:=zT z2;rw[show s.addE b fr till=9 by rw[hE,hA,if_neg (by decide),if_pos (by unfold Sta.full; rw[x2,Bool.or_true])],if_neg (show ¬(9:Int)=0 by decide),if_neg (show ¬(9:Int)=0 by decide)];refine goQ e74 TOk.nil 0 ?_ (by simp[AV.purL,AV.pur,p1,p2,p3,p4,p5,p6,p7]);simp only[push_cast,seval,↓kw2,hZ];refine AC.pur hM ?_;refine goW TOk.nil [11] 0 ?_;simp only[push_cast,seval,↓kw2,hZ,hlen,x1,x2,ge_iff_le];exact⟨_,rfl,zAa rfl rfl⟩
 have x2:=zF z2;have hF:s.full=false:=by unfold Sta.full; rw[x1,x2]; rfl
 have hTk:=taken21 h hl (parts_ends2 h hl hpv.1) (parts_ok2 hpv.1) h.ks hl.kl (fun k hk=>by
  obtain⟨i,hi,rfl⟩:=List.getElem_of_mem hk;have:=(keeps_apart hpv.2 hi).1
  rwa [show s.keeps.getD i default=s.keeps[i] by simp[List.getD,hi]]at this) (s.own b) hoo fr till
 rw[how]at hTk;simp only[Sta.av]at hTk;rw[<- how]at hTk;cases htk:s.taken s.keeps (s.own b) fr till
 rotate_left
 ·rw[htk]at hTk;rw[show s.addE b fr till=80 by rw[hE,hA,hF,htk]; rfl,if_neg (show ¬(80:Int)=0 by decide),if_neg (show ¬(80:Int)=0 by decide)];refine goQ e74 TOk.nil 0 ?_ (by simp[AV.purL,AV.pur,p1,p2,p3,p4,p5,p6,p7]);simp only[push_cast,seval,↓kw2,hZ];refine AC.pur hM ?_;refine goW TOk.nil [11] 0 ?_;simp only[push_cast,seval,↓kw2,hZ,hlen,x1,x2,ge_iff_le];refine AC.pur hT ?_;refine goW TOk.nil [11] 0 ?_;simp only[push_cast,seval,↓kw2,hZ];refine AC.pur hTk ?_;refine goW TOk.nil [11] 0 ?_;simp only[push_cast,seval,↓kw2,hZ];exact⟨_,rfl,zAa rfl rfl⟩
 rw[htk]at hTk;have hE0:s.addE b fr till=0:=by rw[hE,hA,hF,htk]; rfl
 rw[hE0,if_pos rfl,if_pos rfl];have hPA:(s.putC b fr till).av=ST s.c.a s.c.b s.c.c s.c.boot s.c.free s.c.tries s.c.age s.cp.cs s.now (s.next+1) s.cp.js s.cp.ps (frS ((s.keeps++[Kep.mk6 s.next (s.own b) fr till]).map Kep.av)) s.cp.ds s.cp.hs s.cp.us:=rfl;rw[hPA];have hnx:=zAh (n:=s.next+1) (by omega) (by omega);refine goQ e74 TOk.nil 0 ?_ (by simp[AV.purL,AV.pur,p1,p2,p3,p4,p5,p6,p7]);simp only[push_cast,seval,↓kw2,hZ];refine AC.pur hM ?_;refine goW TOk.nil [11] 0 ?_;simp only[push_cast,seval,↓kw2,hZ,hlen,x1,x2,ge_iff_le];refine AC.pur hT ?_;refine goW TOk.nil [11] 0 ?_;simp only[push_cast,seval,↓kw2,hZ];refine AC.pur hTk ?_;refine goW TOk.nil [11] 0 ?_;simp only[push_cast,seval,↓kw2,hZ];refine twin21_ac h hl2 ?_
 intro rc rj rp rk rd rh ru X o1 o2 o3 o4 o5 o6 o7 hdis
 obtain⟨c1a,c1b,c1c⟩:=o1.cell;obtain⟨c2a,c2b,c2c⟩:=o2.cell;obtain⟨c3a,c3b,c3c⟩:=o3.cell;obtain⟨c4a,c4b,c4c⟩:=o4.cell;obtain⟨c5a,c5b,c5c⟩:=o5.cell;obtain⟨c6a,c6b,c6c⟩:=o6.cell;obtain⟨c7a,c7b,c7c⟩:=o7.cell;have lk:=fun i hi=>o4.lt (j:=i) hi
 have l2f:=fun i hi=>o2.lt (j:=i) hi
 simp only[List.length_append,List.length_cons,List.length_nil]at lk hdis;have hown:=o4.append [AO.cells [I s.c.a,I s.c.b,I s.c.c,I s.c.boot,I s.c.free,I s.c.tries,I s.c.age,rc,I s.now,I s.next,rj,rp,rk,rd,rh,ru]];have hap:=aAppK (P:=zP) (k:=9) un55 un55 ze68 rfl by68 hown (.agg [I s.next,I (can 0 s.c.a b.p b.x),I (can 0 s.c.b b.q b.y),I (can 0 s.c.c b.r b.z),I b.p,I b.q,I b.r,I fr,I till]);have hrow:=apHk_own (k:=9) (s:=rk) (es:=s.keeps.map Kep.av) (v:=.agg [I s.next,I (can 0 s.c.a b.p b.x),I (can 0 s.c.b b.q b.y),I (can 0 s.c.c b.r b.z),I b.p,I b.q,I b.r,I fr,I till]) (H:=[AO.cells [I s.c.a,I s.c.b,I s.c.c,I s.c.boot,I s.c.free,I s.c.tries,I s.c.age,s.cs,I s.now,I s.next,s.js,s.ps,s.ks,s.ds,s.hs,s.us],AO.cells [I b.x,I b.y,I b.z,I b.p,I b.q,I b.r],AO.cells [I fr,I till],AO.cells [I 0,I 0,I 0,I 0,I 0,I 0,I 0,NS,I 0,I 0,NS,NS,NS,NS,NS,NS],AO.cells [I (can 0 s.c.a b.p b.x),I (can 0 s.c.b b.q b.y),I (can 0 s.c.c b.r b.z),I b.p,I b.q,I b.r]]++X++[AO.cells [I s.c.a,I s.c.b,I s.c.c,I s.c.boot,I s.c.free,I s.c.tries,I s.c.age,rc,I s.now,I s.next,rj,rp,rk,rd,rh,ru]]);have hkeep:=fun j hj hs=>zDn (k:=9) (s:=rk) (es:=s.keeps.map Kep.av) (v:=.agg [I s.next,I (can 0 s.c.a b.p b.x),I (can 0 s.c.b b.q b.y),I (can 0 s.c.c b.r b.z),I b.p,I b.q,I b.r,I fr,I till]) (H:=[AO.cells [I s.c.a,I s.c.b,I s.c.c,I s.c.boot,I s.c.free,I s.c.tries,I s.c.age,s.cs,I s.now,I s.next,s.js,s.ps,s.ks,s.ds,s.hs,s.us],AO.cells [I b.x,I b.y,I b.z,I b.p,I b.q,I b.r],AO.cells [I fr,I till],AO.cells [I 0,I 0,I 0,I 0,I 0,I 0,I 0,NS,I 0,I 0,NS,NS,NS,NS,NS,NS],AO.cells [I (can 0 s.c.a b.p b.x),I (can 0 s.c.b b.q b.y),I (can 0 s.c.c b.r b.z),I b.p,I b.q,I b.r]]++X++[AO.cells [I s.c.a,I s.c.b,I s.c.c,I s.c.boot,I s.c.free,I s.c.tries,I s.c.age,rc,I s.now,I s.next,rj,rp,rk,rd,rh,ru]]) (j:=j) hj hs
 have hlen2:=zDk (k:=9) (s:=rk) (es:=s.keeps.map Kep.av) (v:=.agg [I s.next,I (can 0 s.c.a b.p b.x),I (can 0 s.c.b b.q b.y),I (can 0 s.c.c b.r b.z),I b.p,I b.q,I b.r,I fr,I till]) (H:=[AO.cells [I s.c.a,I s.c.b,I s.c.c,I s.c.boot,I s.c.free,I s.c.tries,I s.c.age,s.cs,I s.now,I s.next,s.js,s.ps,s.ks,s.ds,s.hs,s.us],AO.cells [I b.x,I b.y,I b.z,I b.p,I b.q,I b.r],AO.cells [I fr,I till],AO.cells [I 0,I 0,I 0,I 0,I 0,I 0,I 0,NS,I 0,I 0,NS,NS,NS,NS,NS,NS],AO.cells [I (can 0 s.c.a b.p b.x),I (can 0 s.c.b b.q b.y),I (can 0 s.c.c b.r b.z),I b.p,I b.q,I b.r]]++X++[AO.cells [I s.c.a,I s.c.b,I s.c.c,I s.c.boot,I s.c.free,I s.c.tries,I s.c.age,rc,I s.now,I s.next,rj,rp,rk,rd,rh,ru]])
 generalize hH2:apHk 9 _ rk (s.keeps.map Kep.av) _=H2 at hap hrow hkeep hlen2
 clear hH2;simp only[List.append_assoc,List.cons_append,List.nil_append,List.length_append,List.length_cons,List.length_nil,Nat.zero_add,zM]at hap hrow hkeep hlen2;have hne:∀ j,(j < 5\/X.length+5<=j)->zAl rk≠some j:=fun j hj e=>by
  have h1:=lk j e;have h2:=(hdis j e).1;omega
 have k0:H2[0]?=some (AO.cells [I s.c.a,I s.c.b,I s.c.c,I s.c.boot,I s.c.free,I s.c.tries,I s.c.age,s.cs,I s.now,I s.next,s.js,s.ps,s.ks,s.ds,s.hs,s.us]):=hkeep 0 (by omega) (hne _ (by omega));have k1:H2[1]?=some (AO.cells [I b.x,I b.y,I b.z,I b.p,I b.q,I b.r]):=hkeep 1 (by omega) (hne _ (by omega));have k2:H2[2]?=some (AO.cells [I fr,I till]):=hkeep 2 (by omega) (hne _ (by omega));have k3:H2[3]?=some (AO.cells [I 0,I 0,I 0,I 0,I 0,I 0,I 0,NS,I 0,I 0,NS,NS,NS,NS,NS,NS]):=hkeep 3 (by omega) (hne _ (by omega));have kE:H2[(X.length+1+1+1+1+1)]?=some (AO.cells [I s.c.a,I s.c.b,I s.c.c,I s.c.boot,I s.c.free,I s.c.tries,I s.c.age,rc,I s.now,I s.next,rj,rp,rk,rd,rh,ru]):=(hkeep (X.length+1+1+1+1+1) (by omega) (hne _ (by omega))).trans (by
  simp only[List.getElem?_cons_succ];rw[show X.length=X.length+0 from rfl,getA];rfl)
 have u0:∀ c,(H2.set (X.length+1+1+1+1+1) c)[0]?=some (AO.cells [I s.c.a,I s.c.b,I s.c.c,I s.c.boot,I s.c.free,I s.c.tries,I s.c.age,s.cs,I s.now,I s.next,s.js,s.ps,s.ks,s.ds,s.hs,s.us]):=fun c=>by rw[zQ (by omega)]; exact k0
 have u3:∀ c,(H2.set (X.length+1+1+1+1+1) c)[3]?=some (AO.cells [I 0,I 0,I 0,I 0,I 0,I 0,I 0,NS,I 0,I 0,NS,NS,NS,NS,NS,NS]):=fun c=>by rw[zQ (by omega)]; exact k3
 have uE:∀ c,(H2.set (X.length+1+1+1+1+1) c)[(X.length+1+1+1+1+1)]?=some c:=fun c=>zS (zAd kE)
 have v0:∀ c d,((H2.set (X.length+1+1+1+1+1) c).set 3 d)[0]?=some (AO.cells [I s.c.a,I s.c.b,I s.c.c,I s.c.boot,I s.c.free,I s.c.tries,I s.c.age,s.cs,I s.now,I s.next,s.js,s.ps,s.ks,s.ds,s.hs,s.us]):=fun c d=>by rw[zQ (by omega)]; exact u0 c
 have uF:∀ c d,((H2.set (X.length+1+1+1+1+1) c).set 3 d)[3]?=some d:=fun c d=>zS (zAd (u3 c))
 refine goW TOk.nil [11] 0 ?_;simp only[push_cast,seval,↓kw2,hZ,c1a,c1b,c1c,c2a,c2b,c2c,c3a,c3b,c3c,c4a,c4b,c4c,c5a,c5b,c5c,c6a,c6b,c6c,c7a,c7b,c7c,zAf,getA,zAg,setA,hap,k0,k1,k2,k3,kE,u0,u3,uE,v0,List.set_set,hnx];refine⟨zEq (by omega) (by decide),?_⟩;refine FW.drawAll2 hmix (ls:=[[0,1,2,3,4,5],[0,1,3,2,4,5]]) (by kernel_rfl) (by kernel_rfl) (Inv:=fun ts' H'=>ts' 6=.ptr 3 0/\ts' 7=I s.next/\ts' 8=I 0/\H'=(H2.set (X.length+1+1+1+1+1) (AO.cells [I s.c.a,I s.c.b,I s.c.c,I s.c.boot,I s.c.free,I s.c.tries,I s.c.age,rc,I s.now,I (s.next+1),rj,rp,.sl ((X.length+1+1+1+1+1)+1+1) 0 (s.keeps.length+1) (s.keeps.length+1),rd,rh,ru])).set 3 (AO.cells [I s.c.a,I s.c.b,I s.c.c,I s.c.boot,I s.c.free,I s.c.tries,I s.c.age,rc,I s.now,I (s.next+1),rj,rp,.sl ((X.length+1+1+1+1+1)+1+1) 0 (s.keeps.length+1) (s.keeps.length+1),rd,rh,ru])) ?_ ?_
 ·intro l hl'
  simp only[List.mem_cons,List.not_mem_nil,or_false]at hl'
  rcases hl' with rfl | rfl
  all_goals
   simp only[push_cast,seval,↓kw2,hZ,c1a,c1b,c1c,c2a,c2b,c2c,c3a,c3b,c3c,c4a,c4b,c4c,c5a,c5b,c5c,c6a,c6b,c6c,c7a,c7b,c7c,zAf,getA,zAg,setA,u0,u3,uE,v0]
 ·rintro ts' H' ⟨t6,t7,t8,rfl⟩
  refine goW TOk.nil [11] 0 ?_;simp only[push_cast,seval,↓kw2,t6,t7,t8,uF];have mv:∀(k:Nat) (r:AV) (l:List AV),OwnK k ([AO.cells [I s.c.a,I s.c.b,I s.c.c,I s.c.boot,I s.c.free,I s.c.tries,I s.c.age,s.cs,I s.now,I s.next,s.js,s.ps,s.ks,s.ds,s.hs,s.us],AO.cells [I b.x,I b.y,I b.z,I b.p,I b.q,I b.r],AO.cells [I fr,I till],AO.cells [I 0,I 0,I 0,I 0,I 0,I 0,I 0,NS,I 0,I 0,NS,NS,NS,NS,NS,NS],AO.cells [I (can 0 s.c.a b.p b.x),I (can 0 s.c.b b.q b.y),I (can 0 s.c.c b.r b.z),I b.p,I b.q,I b.r]]++X) r l->(∀ i,zAl rk=some i->zAl r≠some i)->OwnK k ((H2.set (X.length+1+1+1+1+1) (AO.cells [I s.c.a,I s.c.b,I s.c.c,I s.c.boot,I s.c.free,I s.c.tries,I s.c.age,rc,I s.now,I (s.next+1),rj,rp,.sl ((X.length+1+1+1+1+1)+1+1) 0 (s.keeps.length+1) (s.keeps.length+1),rd,rh,ru])).set 3 (AO.cells [I s.c.a,I s.c.b,I s.c.c,I s.c.boot,I s.c.free,I s.c.tries,I s.c.age,rc,I s.now,I (s.next+1),rj,rp,.sl ((X.length+1+1+1+1+1)+1+1) 0 (s.keeps.length+1) (s.keeps.length+1),rd,rh,ru])) r l:=fun k r l ow hd=>by
   have h3:zAl r≠some 3:=fun e=>by
    cases ow with
    | nil=>cases e
    | row hid _=>cases e; cases hid
   refine ow.keep fun i hi=>?_
   have h1:=ow.lt hi;simp only[List.length_append,List.length_cons,List.length_nil]at h1;have h4:i≠3:=fun e=>h3 (by rw[<- e]; exact hi)
   rw[zQ (fun e=>h4 e.symm),zQ (by omega),hkeep i (by omega) (fun e=>hd i e hi)];exact zL (l₁:=[AO.cells [I s.c.a,I s.c.b,I s.c.c,I s.c.boot,I s.c.free,I s.c.tries,I s.c.age,s.cs,I s.now,I s.next,s.js,s.ps,s.ks,s.ds,s.hs,s.us],AO.cells [I b.x,I b.y,I b.z,I b.p,I b.q,I b.r],AO.cells [I fr,I till],AO.cells [I 0,I 0,I 0,I 0,I 0,I 0,I 0,NS,I 0,I 0,NS,NS,NS,NS,NS,NS],AO.cells [I (can 0 s.c.a b.p b.x),I (can 0 s.c.b b.q b.y),I (can 0 s.c.c b.r b.z),I b.p,I b.q,I b.r]]++X) (l₂:=[AO.cells [I s.c.a,I s.c.b,I s.c.c,I s.c.boot,I s.c.free,I s.c.tries,I s.c.age,rc,I s.now,I s.next,rj,rp,rk,rd,rh,ru]]) (by simp only[List.length_append,List.length_cons,List.length_nil]; omega)
  have hnew:OwnK 9 ((H2.set (X.length+1+1+1+1+1) (AO.cells [I s.c.a,I s.c.b,I s.c.c,I s.c.boot,I s.c.free,I s.c.tries,I s.c.age,rc,I s.now,I (s.next+1),rj,rp,.sl ((X.length+1+1+1+1+1)+1+1) 0 (s.keeps.length+1) (s.keeps.length+1),rd,rh,ru])).set 3 (AO.cells [I s.c.a,I s.c.b,I s.c.c,I s.c.boot,I s.c.free,I s.c.tries,I s.c.age,rc,I s.now,I (s.next+1),rj,rp,.sl ((X.length+1+1+1+1+1)+1+1) 0 (s.keeps.length+1) (s.keeps.length+1),rd,rh,ru])) (.sl ((X.length+1+1+1+1+1)+1+1) 0 (s.keeps.length+1) (s.keeps.length+1)) ((s.keeps++[Kep.mk6 s.next (s.own b) fr till]).map Kep.av):=by
   rw[List.map_append,how];exact hrow.keep fun i hi=>by
    cases hi;rw[zQ (by omega),zQ (by omega)]
  exact⟨_,rfl,4,tup3_frz (ST_frz7 (zCj (mv _ _ _ o1 fun i e=>(hdis i e).2.1) (zAc Cls.av _ fun _=>rfl)) (zCj (mv _ _ _ o2 fun i e=>(hdis i e).2.2.1) (cps_pur _)) (zCj (mv _ _ _ o3 fun i e=>(hdis i e).2.2.2.1) (zAc Prt.av _ fun _=>rfl)) (zCj hnew (zAc Kep.av _ fun _=>rfl)) (zCj (mv _ _ _ o5 fun i e=>(hdis i e).2.2.2.2.1) (zAc IA _ fun _=>rfl)) (zCj (mv _ _ _ o6 fun i e=>(hdis i e).2.2.2.2.2.1) (zAc IA _ fun _=>rfl)) (zCj (mv _ _ _ o7 fun i e=>(hdis i e).2.2.2.2.2.2) (zAc IA _ fun _=>rfl)))⟩
theorem e24:Ent zP 24 Tryz.f24 [] 3:=.mk Tryz.func24 rfl
attribute [push_cast] Tryz.f24
theorem add21{s:Sta}(h:s.good)(hl:s.lim)(hl2:s.lim2)(b:Bx6)(fr till:Int):Pur zP GG 24 [s.av,.agg [I b.x,I b.y,I b.z,I b.p,I b.q,I b.r],.agg [I fr,I till]]
  (.tup [if s.addE b fr till=0 then (s.putC b fr till).av else ST0,I (if s.addE b fr till=0 then s.next else 0),I (s.addE b fr till)]):=by
 have hZ:=h.cell;obtain⟨⟨⟨a1,a2,a3⟩,b1,b2,b3⟩,⟨⟨c1,c2,c3⟩,d1,d2,d3⟩,⟨e1,e2,e3⟩,⟨f1,f2,f3⟩,g1,g2,g3⟩:=h.cell;obtain⟨p1,p2,p3,p4,p5,p6,p7⟩:=h.purs;have k1:=may21 h hl hl2;simp only[Sta.av]at k1;obtain⟨u1,u2,u3,u4,u5,u6,u7⟩:=s.cp_good.purs;show Pur zP GG 24 [ST s.c.a s.c.b s.c.c s.c.boot s.c.free s.c.tries s.c.age s.cs s.now s.next s.js s.ps s.ks s.ds s.hs s.us,.agg [I b.x,I b.y,I b.z,I b.p,I b.q,I b.r],.agg [I fr,I till]] _;cases hv:s.okV
 ·rw[hv]at k1;have hE:s.addE b fr till=8:=by unfold Sta.addE; rw[hv]; rfl
  rw[hE,if_neg (show ¬(8:Int)=0 by decide),if_neg (show ¬(8:Int)=0 by decide)];refine goQ e24 TOk.nil 0 ?_ (by simp[AV.purL,AV.pur,p1,p2,p3,p4,p5,p6,p7]);simp only[push_cast,seval,↓kw2,hZ];refine AC.pur k1 ?_;refine goN ?_;simp only[push_cast,seval,↓kw2,hZ];exact⟨_,rfl,zAa rfl rfl⟩
 ·rw[hv]at k1;have k2:=added21 h hl hl2 hv b fr till;have hPA:(s.putC b fr till).av=ST s.c.a s.c.b s.c.c s.c.boot s.c.free s.c.tries s.c.age s.cp.cs s.now (s.next+1) s.cp.js s.cp.ps (frS ((s.keeps++[Kep.mk6 s.next (s.own b) fr till]).map Kep.av)) s.cp.ds s.cp.hs s.cp.us:=rfl;have hX:=s.cp_good.cell;obtain⟨⟨⟨z1a,z1b,z1c⟩,z2a,z2b,z2c⟩,⟨⟨z3a,z3b,z3c⟩,z4a,z4b,z4c⟩,⟨z5a,z5b,z5c⟩,⟨z6a,z6b,z6c⟩,z7a,z7b,z7c⟩:=s.cp_good.cell;obtain⟨x1,x2,x3⟩:=(IsSl.frS ((s.keeps++[Kep.mk6 s.next (s.own b) fr till]).map Kep.av)).cell;have xp:=(IsSl.frS ((s.keeps++[Kep.mk6 s.next (s.own b) fr till]).map Kep.av)).pur (zAc Kep.av _ (fun _=>rfl));rw[hPA]at k2 ⊢;simp only[Sta.av]at k2
  generalize s.cp.cs=qc at *
  generalize s.cp.js=qj at *
  generalize s.cp.ps=qp at *
  generalize s.cp.ds=qd at *
  generalize s.cp.hs=qh at *
  generalize s.cp.us=qu at *
  generalize frS ((s.keeps++[Kep.mk6 s.next (s.own b) fr till]).map Kep.av)=qk2 at *
  generalize s.addE b fr till=E at *
  by_cases he:E=0
  ·rw[if_pos he,if_pos he]at k2 ⊢;refine goQ e24 TOk.nil 0 ?_ (by simp[AV.purL,AV.pur,p1,p2,p3,p4,p5,p6,p7]);simp only[push_cast,seval,↓kw2,hZ];refine AC.pur k1 ?_;refine goN ?_;simp only[push_cast,seval,↓kw2,hZ];refine AC.pur k2 ?_;refine goN ?_;simp only[push_cast,seval,↓kw2,hZ,hX,x1,x2,x3];exact⟨_,rfl,zAa (by simp[AV.pur,AV.purL,u1,u2,u3,u5,u6,u7,xp]) rfl⟩
  ·rw[if_neg he,if_neg he]at k2 ⊢;refine goQ e24 TOk.nil 0 ?_ (by simp[AV.purL,AV.pur,p1,p2,p3,p4,p5,p6,p7]);simp only[push_cast,seval,↓kw2,hZ];refine AC.pur k1 ?_;refine goN ?_;simp only[push_cast,seval,↓kw2,hZ];refine AC.pur k2 ?_;refine goN ?_;simp only[push_cast,seval,↓kw2,hZ];exact⟨_,rfl,zAa rfl rfl⟩
theorem sameL{s o:Sta}(h1:s.c=o.c)(h2:s.now=o.now)(h3:s.next=o.next)(h4:s.jobs=o.jobs)(h5:s.parts=o.parts)(h6:s.keeps=o.keeps)(h7:s.down=o.down)(h8:s.shut=o.shut)(h9:s.cut=o.cut):s.same o=true:=by
 unfold Sta.same Sta.one Sta.two;rw[h1,h2,h3,h4,h5,h6,h7,h8,h9,sameJ_refl];simp
theorem addE_cp(s:Sta)(b:Bx6)(fr till:Int):s.cp.addE b fr till=s.addE b fr till:=by
 unfold Sta.addE;rw[okV_cp,show s.cp.taken s.cp.keeps (s.cp.own b) fr till=s.taken s.keeps (s.own b) fr till from taken_cp s _ _ _ _];rfl
theorem dropE_cp(s:Sta)(id:Int):s.cp.dropE id=s.dropE id:=by
 unfold Sta.dropE;rw[okV_cp];rfl
def Sta.addC(s:Sta)(b:Bx6)(fr till:Int):Sta:=if s.addE b fr till=0 then s.putC b fr till else Sta.nil0
def Sta.dropC(s:Sta)(id:Int):Sta:=if s.dropE id=0 then s.delC id else Sta.nil0
theorem nil0_good:Sta.nil0.good:=⟨.inr ⟨rfl,rfl⟩,⟨.inr ⟨rfl,rfl⟩,fun j hj=>by cases hj⟩,.inr ⟨rfl,rfl⟩,.inr ⟨rfl,rfl⟩,.inr ⟨rfl,rfl⟩,.inr ⟨rfl,rfl⟩,.inr ⟨rfl,rfl⟩⟩
theorem nil0_lim:Sta.nil0.lim:=⟨by decide,by decide,by decide,by decide,by decide,by decide⟩
theorem nil0_lim2:Sta.nil0.lim2:=⟨by decide,by decide,by decide,by decide,by decide,by decide,by decide,fun j hj=>by cases hj⟩
theorem putC_good(s:Sta)(b:Bx6)(fr till:Int):(s.putC b fr till).good:=⟨s.cp_good.cs,s.cp_good.js,s.cp_good.ps,IsSl.frS _,s.cp_good.ds,s.cp_good.hs,s.cp_good.us⟩
theorem delC_good(s:Sta)(id:Int):(s.delC id).good:=⟨s.cp_good.cs,s.cp_good.js,s.cp_good.ps,IsSl.frS _,s.cp_good.ds,s.cp_good.hs,s.cp_good.us⟩
theorem addC_good(s:Sta)(b:Bx6)(fr till:Int):(s.addC b fr till).good:=by
 unfold Sta.addC
 split
 ·exact putC_good s b fr till
 ·exact nil0_good
theorem dropC_good(s:Sta)(id:Int):(s.dropC id).good:=by
 unfold Sta.dropC
 split
 ·exact delC_good s id
 ·exact nil0_good
theorem addC_av(s:Sta)(b:Bx6)(fr till:Int):(if s.addE b fr till=0 then (s.putC b fr till).av else ST0)=(s.addC b fr till).av:=by
 unfold Sta.addC
 split <;> rfl
theorem dropC_av(s:Sta)(id:Int):(if s.dropE id=0 then (s.delC id).av else ST0)=(s.dropC id).av:=by
 unfold Sta.dropC
 split <;> rfl
structure SameS(x y:Sta):Prop where
 g:x.good
 l:x.lim
 l2:x.lim2
 s:x.same y=true
theorem add_same{s:Sta}(hl:s.lim)(hl2:s.lim2)(b:Bx6)(fr till:Int):SameS (s.cp.addS b fr till) (s.addC b fr till):=by
 unfold Sta.addS Sta.addC;rw[addE_cp]
 split
 ·rename_i h;have h4:=(add_facts h).2.2.2.2.2.1;exact⟨put_good s.cp_good b fr till,put_lim (lim_cp hl) h4 b fr till,put_lim2 (lim2_cp hl2) h4 b fr till,sameL rfl rfl rfl rfl rfl rfl rfl rfl rfl⟩
 ·exact⟨nil0_good,nil0_lim,nil0_lim2,by decide⟩
theorem left_len(s:Sta)(id:Int):(s.left id).length<=s.keeps.length:=List.length_filter_le _ _
theorem drop_same{s:Sta}(hl:s.lim)(hl2:s.lim2)(id:Int):SameS (s.cp.dropS id) (s.dropC id):=by
 unfold Sta.dropS Sta.dropC;rw[dropE_cp];have h0:=left_len s id;have h1:=lim_cp hl;have h2:=lim2_cp hl2
 split
 ·exact⟨del_good s.cp_good id,⟨h1.jl,h1.pl,Nat.le_trans h0 h1.kl,h1.dl,h1.hl,h1.ul⟩,⟨h2.cl,h2.jl,h2.pl,Nat.le_trans h0 h2.kl,h2.dl,h2.hl,h2.ul,h2.al⟩,sameL rfl rfl rfl rfl rfl rfl rfl rfl rfl⟩
 ·exact⟨nil0_good,nil0_lim,nil0_lim2,by decide⟩
theorem e5:Ent zP 5 Tryz.f5 [] 4:=.mk Tryz.func5 rfl
attribute [push_cast] Tryz.f5
theorem holdTurns_law{s:Sta}(h:s.good)(b:Bx6)(fr till id:Int):Pur zP GG 5 [s.av,.agg [I b.x,I b.y,I b.z,I b.p,I b.q,I b.r],.agg [I fr,I till],I id] (B true):=by
 have c0:=h.cell;obtain⟨p1,p2,p3,p4,p5,p6,p7⟩:=h.purs;have z0:=s.cp_good.cell;have hG:=great_pur h;simp only[Sta.av]at hG;show Pur zP GG 5 [ST s.c.a s.c.b s.c.c s.c.boot s.c.free s.c.tries s.c.age s.cs s.now s.next s.js s.ps s.ks s.ds s.hs s.us,.agg [I b.x,I b.y,I b.z,I b.p,I b.q,I b.r],.agg [I fr,I till],I id] _
 by_cases hg:s.great=true
 ·rw[hg]at hG;refine goQ e5 TOk.nil 0 ?_ (by simp[AV.purL,AV.pur,p1,p2,p3,p4,p5,p6,p7]);simp only[push_cast,seval,↓kw2,c0];refine AC.pur hG ?_;refine goN ?_;simp only[push_cast,seval,↓kw2,c0,z0,zAf,getA,zAg,setA,zAb];exact⟨_,rfl,zAa rfl rfl⟩
 rw[Bool.not_eq_true]at hg;rw[hg]at hG;have hl:=Sta.lim_of hg;have hl2:=Sta.lim2_of hg;have hlc:=lim_cp hl;have hlc2:=lim2_cp hl2;have hE:s.cp.av=ST s.c.a s.c.b s.c.c s.c.boot s.c.free s.c.tries s.c.age s.cp.cs s.now s.next s.cp.js s.cp.ps s.cp.ks s.cp.ds s.cp.hs s.cp.us:=rfl;have hT:=twin21 h hl2;rw[hE]at hT;have hY:=add21 h hl hl2 b fr till;rw[addC_av]at hY;have hV:=drop21 h hl hl2 id;rw[dropC_av]at hV;have hS3:=same21 s.cp_good h hlc hlc2;rw[same_cpS,hE]at hS3;obtain⟨xg,xl,xl2,xs⟩:=add_same hl hl2 b fr till;obtain⟨ug,ul,ul2,us⟩:=drop_same hl hl2 id;have hX:=same21 xg (addC_good s b fr till) xl xl2;rw[xs]at hX;have hU:=same21 ug (dropC_good s id) ul ul2;rw[us]at hU;have hAdd:=fun(H:List AO) (K:AV->List AO->Prop)=>addA_ac s.cp_good hlc hlc2 b fr till (H:=H) (K:=K)
 have hDrop:=fun(H:List AO) (K:AV->List AO->Prop)=>dropA_ac s.cp_good hlc hlc2 id (H:=H) (K:=K)
 simp only[addE_cp,dropE_cp,hE,show s.cp.next=s.next from rfl]at hAdd hDrop;have yg:=addC_good s b fr till;have vg:=dropC_good s id;have xkl:=xl.kl;have ujl:=ul.jl
 generalize s.cp.addS b fr till=x at *
 generalize s.addC b fr till=y at *
 generalize s.cp.dropS id=u at *
 generalize s.dropC id=v at *
 generalize s.addE b fr till=e1 at *
 generalize s.dropE id=e2 at *
 generalize (if e1=0 then s.next else 0)=i1 at *
 simp only[Sta.av]at hT hY hV hS3;have y0:=yg.cell;have v0:=vg.cell;refine goQ e5 TOk.nil 0 ?_ (by simp[AV.purL,AV.pur,p1,p2,p3,p4,p5,p6,p7]);simp only[push_cast,seval,↓kw2,c0];refine AC.pur hG ?_;refine goN ?_;simp only[push_cast,seval,↓kw2,c0,z0,zAf,getA,zAg,setA,zAb];refine AC.pur hT ?_;refine goN ?_;simp only[push_cast,seval,↓kw2,c0,z0,zAf,getA,zAg,setA,zAb];refine hAdd _ _ ?_
 intro rc rj rp rk rd rh ru H1 Lx Rx Ax kx hx1
 have x0:=And.intro Lx.c.cell (And.intro Lx.j.cell (And.intro Lx.p.cell (And.intro Lx.k.cell (And.intro Lx.d.cell (And.intro Lx.h.cell Lx.u.cell)))));have q0:H1[0]?=some (AO.cells [I s.c.a,I s.c.b,I s.c.c,I s.c.boot,I s.c.free,I s.c.tries,I s.c.age,s.cs,I s.now,I s.next,s.js,s.ps,s.ks,s.ds,s.hs,s.us]):=kx 0 (by simp);have q1:H1[1]?=some (AO.cells [I b.x,I b.y,I b.z,I b.p,I b.q,I b.r]):=kx 1 (by simp);have q2:H1[2]?=some (AO.cells [I fr,I till]):=kx 2 (by simp);have q3:H1[3]?=some (AO.cells [I s.c.a,I s.c.b,I s.c.c,I s.c.boot,I s.c.free,I s.c.tries,I s.c.age,s.cp.cs,I s.now,I s.next,s.cp.js,s.cp.ps,s.cp.ks,s.cp.ds,s.cp.hs,s.cp.us]):=kx 3 (by simp);simp only[List.length_cons,List.length_nil]at hx1 Ax;have q0':∀ L,(H1++L)[0]?=some (AO.cells [I s.c.a,I s.c.b,I s.c.c,I s.c.boot,I s.c.free,I s.c.tries,I s.c.age,s.cs,I s.now,I s.next,s.js,s.ps,s.ks,s.ds,s.hs,s.us]):=fun L=>(zL (by omega)).trans q0
 have q1':∀ L,(H1++L)[1]?=some (AO.cells [I b.x,I b.y,I b.z,I b.p,I b.q,I b.r]):=fun L=>(zL (by omega)).trans q1
 have q2':∀ L,(H1++L)[2]?=some (AO.cells [I fr,I till]):=fun L=>(zL (by omega)).trans q2
 have q3':∀ L,(H1++L)[3]?=some (AO.cells [I s.c.a,I s.c.b,I s.c.c,I s.c.boot,I s.c.free,I s.c.tries,I s.c.age,s.cp.cs,I s.now,I s.next,s.cp.js,s.cp.ps,s.cp.ks,s.cp.ds,s.cp.hs,s.cp.us]):=fun L=>(zL (by omega)).trans q3
 refine goN ?_;simp only[push_cast,seval,↓kw2,c0,z0,zAf,getA,zAg,setA,zAb,q0,q1,q2,q3,q0',q1',q2',q3',x0];refine AC.pur hY ?_;refine goN ?_;simp only[push_cast,seval,↓kw2,c0,z0,zAf,getA,zAg,setA,zAb,q0,q1,q2,q3,q0',q1',q2',q3',x0,y0];refine hDrop _ _ ?_
 intro tc tj tp tk td th tu H2 Lu Ru Au ku hu1
 have u0:=And.intro Lu.c.cell (And.intro Lu.j.cell (And.intro Lu.p.cell (And.intro Lu.k.cell (And.intro Lu.d.cell (And.intro Lu.h.cell Lu.u.cell)))));simp only[List.length_append,List.length_cons,List.length_nil]at hu1 Au ku;have hl1:∀ q L,q < H1.length->(H1++L)[q]?=H1[q]?:=fun q L hq=>zL hq
 have r0:H2[0]?=some (AO.cells [I s.c.a,I s.c.b,I s.c.c,I s.c.boot,I s.c.free,I s.c.tries,I s.c.age,s.cs,I s.now,I s.next,s.js,s.ps,s.ks,s.ds,s.hs,s.us]):=(ku 0 (by omega)).trans (q0' _);have r3:H2[3]?=some (AO.cells [I s.c.a,I s.c.b,I s.c.c,I s.c.boot,I s.c.free,I s.c.tries,I s.c.age,s.cp.cs,I s.now,I s.next,s.cp.js,s.cp.ps,s.cp.ks,s.cp.ds,s.cp.hs,s.cp.us]):=(ku 3 (by omega)).trans (q3' _);have rX:H2[H1.length]?=some (AO.cells [I x.c.a,I x.c.b,I x.c.c,I x.c.boot,I x.c.free,I x.c.tries,I x.c.age,rc,I x.now,I x.next,rj,rp,rk,rd,rh,ru]):=(ku _ (by omega)).trans (by simp);have rY:H2[H1.length+1]?=some (AO.cells [I y.c.a,I y.c.b,I y.c.c,I y.c.boot,I y.c.free,I y.c.tries,I y.c.age,y.cs,I y.now,I y.next,y.js,y.ps,y.ks,y.ds,y.hs,y.us]):=(ku _ (by omega)).trans (by simp);have hlow:∀ q,q < H1.length->H2[q]?=H1[q]?:=fun q hq=>(ku q (by omega)).trans (hl1 q _ hq)
 have Lx:=Lx.keep Ax (H':=H2) (fun i _ hi=>hlow i hi);have Rx2:=Rx.keep (H':=H2) (fun i hi=>hlow i (Rx.lt i hi));have Rxl:=Rx.lt;have Axk:=Ax.k;have Auj:=Au.j;clear Rx kx q0 q1 q2 q3 q0' q1' q2' q3' ku;have r0':∀ L,(H2++L)[0]?=some (AO.cells [I s.c.a,I s.c.b,I s.c.c,I s.c.boot,I s.c.free,I s.c.tries,I s.c.age,s.cs,I s.now,I s.next,s.js,s.ps,s.ks,s.ds,s.hs,s.us]):=fun L=>(zL (by omega)).trans r0
 have r3':∀ L,(H2++L)[3]?=some (AO.cells [I s.c.a,I s.c.b,I s.c.c,I s.c.boot,I s.c.free,I s.c.tries,I s.c.age,s.cp.cs,I s.now,I s.next,s.cp.js,s.cp.ps,s.cp.ks,s.cp.ds,s.cp.hs,s.cp.us]):=fun L=>(zL (by omega)).trans r3
 have rX':∀ L,(H2++L)[H1.length]?=some (AO.cells [I x.c.a,I x.c.b,I x.c.c,I x.c.boot,I x.c.free,I x.c.tries,I x.c.age,rc,I x.now,I x.next,rj,rp,rk,rd,rh,ru]):=fun L=>(zL (by omega)).trans rX
 have rY':∀ L,(H2++L)[H1.length+1]?=some (AO.cells [I y.c.a,I y.c.b,I y.c.c,I y.c.boot,I y.c.free,I y.c.tries,I y.c.age,y.cs,I y.now,I y.next,y.js,y.ps,y.ks,y.ds,y.hs,y.us]):=fun L=>(zL (by omega)).trans rY
 refine goN ?_;simp only[push_cast,seval,↓kw2,c0,z0,zAf,getA,zAg,setA,zAb,r0,r3,rX,rY,r0',r3',rX',rY',x0,y0,u0];refine AC.pur hV ?_;refine goN ?_;simp only[push_cast,seval,↓kw2,c0,z0,zAf,getA,zAg,setA,zAb,r0,r3,rX,rY,r0',r3',rX',rY',x0,y0,u0,v0];obtain⟨yp1,yp2,yp3,yp4,yp5,yp6,yp7⟩:=yg.purs;obtain⟨vp1,vp2,vp3,vp4,vp5,vp6,vp7⟩:=vg.purs;have hyp:AV.purL [y.av]=true:=by simp[AV.purL,AV.pur,Sta.av,yp1,yp2,yp3,yp4,yp5,yp6,yp7]
 have hvp:AV.purL [v.av]=true:=by simp[AV.purL,AV.pur,Sta.av,vp1,vp2,vp3,vp4,vp5,vp6,vp7]
 have hLx:=fun L=>Lx.keep Ax (H':=H2++L) fun i _ hi=>zL hi
 have hLu:=fun L=>Lu.keep Au (H':=H2++L) fun i _ hi=>zL hi
 refine liveV (hLx _) hyp rfl hX ?_;have n1:decide (i1≠i1)=false:=by simp
 have n2:decide (e1≠e1)=false:=by simp
 have n3:decide (e2≠e2)=false:=by simp
 refine goN ?_;simp only[push_cast,seval,↓kw2,c0,z0,zAf,getA,zAg,setA,zAb,r0,r3,rX,rY,r0',r3',rX',rY',n1,n2,n3];refine liveV (hLu _) hvp rfl hU ?_;refine goN ?_;simp only[push_cast,seval,↓kw2,c0,z0,zAf,getA,zAg,setA,zAb,r0,r3,rX,rY,r0',r3',rX',rY',n1,n2,n3];have rU:∀ L,(H2++AO.cells [I u.c.a,I u.c.b,I u.c.c,I u.c.boot,I u.c.free,I u.c.tries,I u.c.age,tc,I u.now,I u.next,tj,tp,tk,td,th,tu]::L)[H2.length]?=some (AO.cells [I u.c.a,I u.c.b,I u.c.c,I u.c.boot,I u.c.free,I u.c.tries,I u.c.age,tc,I u.now,I u.next,tj,tp,tk,td,th,tu]):=fun L=>by simp
 have Rx3:=Rx2.keep (H':=H2++[AO.cells [I u.c.a,I u.c.b,I u.c.c,I u.c.boot,I u.c.free,I u.c.tries,I u.c.age,tc,I u.now,I u.next,tj,tp,tk,td,th,tu],AO.cells [I v.c.a,I v.c.b,I v.c.c,I v.c.boot,I v.c.free,I v.c.tries,I v.c.age,v.cs,I v.now,I v.next,v.js,v.ps,v.ks,v.ds,v.hs,v.us]]) fun i hi=>zL (Rx2.lt i hi)
 have Ru3:=Ru.keep (H':=H2++[AO.cells [I u.c.a,I u.c.b,I u.c.c,I u.c.boot,I u.c.free,I u.c.tries,I u.c.age,tc,I u.now,I u.next,tj,tp,tk,td,th,tu],AO.cells [I v.c.a,I v.c.b,I v.c.c,I v.c.boot,I v.c.free,I v.c.tries,I v.c.age,v.cs,I v.now,I v.next,v.js,v.ps,v.ks,v.ds,v.hs,v.us]]) fun i hi=>zL (Ru.lt i hi)
 have Rul:=Ru.lt;have rXL:=zAd rX;have hgJ:=ug.js.2;refine FW.loopInv (fun n ts H=>∃(i:Nat) (l:List Kep),i+n=x.keeps.length/\LiveR 9 H rk (l.map Kep.av)/\l.length=x.keeps.length/\LiveR 16 H tj (u.jobs.map Jb.av)/\H[0]?=some (AO.cells [I s.c.a,I s.c.b,I s.c.c,I s.c.boot,I s.c.free,I s.c.tries,I s.c.age,s.cs,I s.now,I s.next,s.js,s.ps,s.ks,s.ds,s.hs,s.us])/\H[3]?=some (AO.cells [I s.c.a,I s.c.b,I s.c.c,I s.c.boot,I s.c.free,I s.c.tries,I s.c.age,s.cp.cs,I s.now,I s.next,s.cp.js,s.cp.ps,s.cp.ks,s.cp.ds,s.cp.hs,s.cp.us])/\H[H1.length]?=some (AO.cells [I x.c.a,I x.c.b,I x.c.c,I x.c.boot,I x.c.free,I x.c.tries,I x.c.age,rc,I x.now,I x.next,rj,rp,rk,rd,rh,ru])/\H[H2.length]?=some (AO.cells [I u.c.a,I u.c.b,I u.c.c,I u.c.boot,I u.c.free,I u.c.tries,I u.c.age,tc,I u.now,I u.next,tj,tp,tk,td,th,tu])/\ts 4=.ptr 0 0/\ts 9=.ptr 3 0/\ts 10=.ptr H1.length 0/\ts 16=.ptr H2.length 0/\ts 20=I (i:Int)) x.keeps.length
  ⟨0,x.keeps,by omega,Rx3,rfl,Ru3,r0' _,r3' _,rX' _,rU _,rfl,rfl,rfl,rfl,rfl⟩ ?_
 clear Rx3 Ru3 r0 r3 rX rY r0' r3' rX' rY' rU Lx Lu Rx2 Ru hLx hLu
 rintro n ih ts H ⟨i,l,hi,Lk,hvl,Lj,a0,a3',aX,aU,t4,t9,t10,t16,t20⟩
 refine FW.inLoop ?_;have w2:=zAh (n:=(i:Int)+1) (by omega) (by omega);have hal:=Lk.len un55;rw[zM,hvl]at hal
 by_cases hlt:i < x.keeps.length
 ·have d1':decide ((i:Int) < (x.keeps.length:Int))=true:=zT (by omega)
  generalize hes:l.map Kep.av=es at Lk
  cases Lk with
  | nil=>have:=congrArg List.length hes; simp at this; rw[this]at hvl; simp at hvl; omega
  | zs=>have:=congrArg List.length hes; simp at this; rw[this]at hvl; simp at hvl; omega
  | row hid h0 =>
   rename_i kid;have hel:es.length=x.keeps.length:=by rw[<- hes,zM,hvl]
   have d2':decide ((i:Int) < (es.length:Int))=true:=zT (by omega);have hgy:es.getD i .un=Kep.av (l.getD i default):=by rw[<- hes]; exact zAe Kep.av l default (by omega)
   generalize l.getD i default=p at hgy
   have hgy:es.getD i .un=KP p.id p.x p.y p.z p.p p.q p.r p.fr p.till:=hgy;have hidl:=zAd hid;have hget:∀ c,(H.set kid c)[kid]?=some c:=fun c=>zS hidl
   have hrl:i < es.length:=by omega
   have hids:=Axk kid rfl;have hidl1:=Rxl kid rfl;have hg:∀ q c,q≠kid->(H.set kid c)[q]?=H[q]?:=fun q c hq=>zQ (fun e=>hq e.symm)
   refine goN ?_;simp only[push_cast,seval,↓kw2,c0,z0,zAf,getA,zAg,setA,zAb,t4,t9,t10,t16,t20,a0,a3',aX,aU,hal,d1',d2',hid,hgy,hrl,Int.toNat_natCast,w2,x0,u0];refine⟨⟨by omega,by omega⟩,?_⟩;exact ih (n - 1) (by omega) _ _ ⟨i+1,l.set i { p with id:=99 },by omega,(by have:=LiveR.row (hget (.arr 9 (es.set i (KP 99 p.x p.y p.z p.p p.q p.r p.fr p.till)))) (by rw[List.length_set]; exact h0); rw[List.length_set]at this; rw[List.map_set,hes]; exact this),by rw[List.length_set]; exact hvl,Lj.keep fun j hj=>by have:=Auj j hj; exact hg j _ (by omega),(hg 0 _ (by omega)).trans a0,(hg 3 _ (by omega)).trans a3',(hg _ _ (by omega)).trans aX,(hg _ _ (by omega)).trans aU,t4,t9,t10,t16,rfl⟩
 ·have d1':decide ((i:Int) < (x.keeps.length:Int))=false:=zF (by omega);refine goN ?_;simp only[push_cast,seval,↓kw2,c0,z0,zAf,getA,zAg,setA,zAb,t4,t9,t10,t16,t20,a0,a3',aX,aU,hal,d1',x0,u0];clear ih hi hal hlt d1' hvl Lk;refine FW.loopInv (fun n ts H=>∃(i:Nat) (l:List Jb),i+n=u.jobs.length/\LiveR 16 H tj (l.map Jb.av)/\l.length=u.jobs.length/\(∀ j∈l,j.good)/\H[0]?=some (AO.cells [I s.c.a,I s.c.b,I s.c.c,I s.c.boot,I s.c.free,I s.c.tries,I s.c.age,s.cs,I s.now,I s.next,s.js,s.ps,s.ks,s.ds,s.hs,s.us])/\H[3]?=some (AO.cells [I s.c.a,I s.c.b,I s.c.c,I s.c.boot,I s.c.free,I s.c.tries,I s.c.age,s.cp.cs,I s.now,I s.next,s.cp.js,s.cp.ps,s.cp.ks,s.cp.ds,s.cp.hs,s.cp.us])/\H[H2.length]?=some (AO.cells [I u.c.a,I u.c.b,I u.c.c,I u.c.boot,I u.c.free,I u.c.tries,I u.c.age,tc,I u.now,I u.next,tj,tp,tk,td,th,tu])/\ts 4=.ptr 0 0/\ts 9=.ptr 3 0/\ts 16=.ptr H2.length 0/\ts 21=I (i:Int)) u.jobs.length
   ⟨0,u.jobs,by omega,Lj,rfl,hgJ,a0,a3',aU,t4,t9,t16,rfl⟩ ?_
  clear a0 a3' aX aU t4 t9 t10 t16 t20 Lj w2
  rintro n ih ts H ⟨i,l,hi,Lj,hvl,hgd,a0,a3',aU,t4,t9,t16,t21⟩
  refine FW.inLoop ?_;have w2:=zAh (n:=(i:Int)+1) (by omega) (by omega);have hal:=Lj.len un53;rw[zM,hvl]at hal
  by_cases hlt:i < u.jobs.length
  ·have d1':decide ((i:Int) < (u.jobs.length:Int))=true:=zT (by omega)
   generalize hes:l.map Jb.av=es at Lj
   cases Lj with
   | nil=>have:=congrArg List.length hes; simp at this; rw[this]at hvl; simp at hvl; omega
   | zs=>have:=congrArg List.length hes; simp at this; rw[this]at hvl; simp at hvl; omega
   | row hid h0 =>
    rename_i kid;have hel:es.length=u.jobs.length:=by rw[<- hes,zM,hvl]
    have d2':decide ((i:Int) < (es.length:Int))=true:=zT (by omega);have hgy:es.getD i .un=Jb.av (l.getD i default):=by rw[<- hes]; exact zAe Jb.av l default (by omega)
    have hpg:(l.getD i default).good:=hgd _ (by
     rw[show l.getD i default=l[i]'(by omega) by simp[List.getD,show i < l.length by omega]];exact List.getElem_mem _)
    generalize l.getD i default=p at hgy hpg
    obtain⟨m1,m2,m3⟩:=IsSl.cell hpg;have hgy:es.getD i .un=JB p.id p.user p.cls p.w p.wall p.prio p.held p.aft p.st p.came:=hgy;have hidl:=zAd hid;have hget:∀ c,(H.set kid c)[kid]?=some c:=fun c=>zS hidl
    have hrl:i < es.length:=by omega
    have hids:=Auj kid rfl;have hidl1:=Rul kid rfl;have hg:∀ q c,q≠kid->(H.set kid c)[q]?=H[q]?:=fun q c hq=>zQ (fun e=>hq e.symm)
    refine goN ?_;simp only[push_cast,seval,↓kw2,c0,z0,zAf,getA,zAg,setA,zAb,t4,t9,t16,t21,a0,a3',aU,hal,d1',d2',hid,hgy,hrl,Int.toNat_natCast,w2,m1,m2,m3,u0];refine⟨⟨by omega,by omega⟩,?_⟩;exact ih (n - 1) (by omega) _ _ ⟨i+1,l.set i { p with user:=99 },by omega,(by have:=LiveR.row (hget (.arr 16 (es.set i (JB p.id 99 p.cls p.w p.wall p.prio p.held p.aft p.st p.came)))) (by rw[List.length_set]; exact h0); rw[List.length_set]at this; rw[List.map_set,hes]; exact this),by rw[List.length_set]; exact hvl,(fun j hj=>by rcases List.mem_or_eq_of_mem_set hj with hm | rfl; exact hgd _ hm; exact hpg),(hg 0 _ (by omega)).trans a0,(hg 3 _ (by omega)).trans a3',(hg _ _ (by omega)).trans aU,t4,t9,t16,rfl⟩
  ·have d1':decide ((i:Int) < (u.jobs.length:Int))=false:=zF (by omega);refine goN ?_;simp only[push_cast,seval,↓kw2,c0,z0,zAf,getA,zAg,setA,zAb,t4,t9,t16,t21,a0,a3',aU,hal,d1',u0];refine AC.pur hS3 ?_;refine goN ?_;simp only[push_cast,seval,↓kw2,c0,z0,zAf,getA,zAg,setA,zAb,t4,t9,t16,t21,a0,a3',aU,hal,d1'];exact⟨_,rfl,zAa rfl rfl⟩
end Go.Ab.Pd
