/- A text of this claim. -/
import Derived.Test.YtplmblgihfogjaaGreatDoorEv36
set_option maxHeartbeats 40000000
set_option maxRecDepth 400000
set_option linter.all false
namespace Go.Ab.Pd
open Go.Proofs
open Go.Proofs.Tryz renaming prog->zP
theorem sl_keeps{l:List Kep}{i:Nat}(hi:i<=l.length):∃ C,(∀ H,zCm zP 29 (.isl (l.map Kep.av)) H none (some (I (i:Int))) none=some (C,.isl ((l.take i).map Kep.av)))/\C:=by
 unfold zCm;simp only[un29,sz98,zBi];refine⟨True/\0<=(i:Int)/\0<=(i:Int).toNat/\(i:Int).toNat<=(l.map Kep.av).length/\(0 < (i:Int).toNat->((l.map Kep.av).getD 0 .un).cells.length=9),?_,?_⟩
 ·intro H
  show some (_,AV.isl (List.take ((i:Int).toNat - 0) (List.drop 0 (List.map Kep.av l))))=_;rw[Int.toNat_natCast,Nat.sub_zero,List.drop_zero,List.map_take]
 ·refine⟨trivial,by omega,by omega,by rw[zM]; omega,fun h=>?_⟩;rw[zAj Kep.av l default (by omega)];rfl
def Sta.told(s:Sta)(k:Kep):Bool:=decide (can (ckB s.c.a s.c.b s.c.c k.x k.y k.z k.p k.q k.r) s.c.a k.p k.x=k.x/\can (ckB s.c.a s.c.b s.c.c k.x k.y k.z k.p k.q k.r) s.c.b k.q k.y=k.y/\can (ckB s.c.a s.c.b s.c.c k.x k.y k.z k.p k.q k.r) s.c.c k.r k.z=k.z/\cas (ckB s.c.a s.c.b s.c.c k.x k.y k.z k.p k.q k.r) k.p=k.p/\cas (ckB s.c.a s.c.b s.c.c k.x k.y k.z k.p k.q k.r) k.q=k.q/\cas (ckB s.c.a s.c.b s.c.c k.x k.y k.z k.p k.q k.r) k.r=k.r)
def Sta.last(s:Sta)(i:Nat):Int:=if i=0 then 0 else (s.keeps.getD (i - 1) default).id
def Sta.okK(s:Sta)(k:Kep)(last:Int)(i:Nat):Bool:=decide (ckB s.c.a s.c.b s.c.c k.x k.y k.z k.p k.q k.r=0)&&s.told k&&!decide (k.id<=last)&&!decide (s.next<=k.id)&&!decide (k.fr < 0)&&!decide (k.till<=k.fr)&&!decide (1099511627776 < k.till)&&!decide (k.till<=s.now)&&!s.taken (s.keeps.take i) k.bx k.fr k.till
def Sta.keepsV(s:Sta):Bool:=decide ((s.keeps.length:Int)<=4)&&!anyN (fun i=>!s.okK (s.keeps.getD i default) (s.last i) i) s.keeps.length 0
theorem e39:Ent zP 39 Tryz.f39 [] 1:=.mk Tryz.func39 rfl
theorem keepsS_pur{s:Sta}(h:s.good)(hl:s.lim)(hE:∀ p∈s.parts,Pur zP GG 132 [s.av,p.av] (I (s.ends p))):Pur zP GG 39 [s.av] (B s.keepsV):=by
 have hZ:=h.cell;obtain⟨⟨⟨a1,a2,a3⟩,b1,b2,b3⟩,⟨⟨c1,c2,c3⟩,d1,d2,d3⟩,⟨e1,e2,e3⟩,⟨f1,f2,f3⟩,g1,g2,g3⟩:=h.cell;obtain⟨p1,p2,p3,p4,p5,p6,p7⟩:=h.purs;have hlen:=h.ks.len un29;rw[zM]at hlen;unfold Sta.keepsV;show Pur zP GG 39 [ST s.c.a s.c.b s.c.c s.c.boot s.c.free s.c.tries s.c.age s.cs s.now s.next s.js s.ps s.ks s.ds s.hs s.us] _
 by_cases h24:4 < (s.keeps.length:Int)
 ·rw[zF (by omega),Bool.false_and];refine goQ e39 TOk.nil 0 ?_ (by simp[AV.purL,AV.pur,p1,p2,p3,p4,p5,p6,p7]);simp only[push_cast,seval,↓kw2,hZ,hlen,h24];exact⟨_,rfl,zAa rfl rfl⟩
 rw[zT (by omega),Bool.true_and];have hidx:=fun(i:Nat) (hi:i < s.keeps.length) (H:List AO)=>h.ks.idx (P:=zP) un29 sz98 (i:=(i:Int)) (by rw[zM]; omega) (by omega) H
 refine goQ e39 TOk.nil 0 ?_ (by simp[AV.purL,AV.pur,p1,p2,p3,p4,p5,p6,p7]);simp only[push_cast,seval,↓kw2,hZ,hlen,h24];refine FW.loopInv (fun m ts H=>∃ i:Nat,i+m=s.keeps.length/\anyN (fun i=>!s.okK (s.keeps.getD i default) (s.last i) i) m i=anyN (fun i=>!s.okK (s.keeps.getD i default) (s.last i) i) s.keeps.length 0/\H[0]?=some (.cells s.cel)/\ts 1=.ptr 0 0/\ts 3=I (s.last i)/\ts 15=s.ks/\ts 16=I (s.keeps.length:Int)/\ts 17=I (i:Int)) s.keeps.length
  ⟨0,by omega,rfl,rfl,rfl,rfl,rfl,rfl,rfl⟩ ?_
 rintro m ih ts H ⟨i,hi,hf,m0,t1,t3,t15,t16,t17⟩
 refine FW.inLoop ?_
 by_cases hlt:i < s.keeps.length
 ·have hd1:decide ((i:Int) < (s.keeps.length:Int))=true:=by simp[hlt]
  have hx:=hidx i hlt;have hgy:=zAj Kep.av s.keeps default hlt;simp only[Int.toNat_natCast]at hx;rw[hgy]at hx;obtain⟨m,rfl⟩:∃ m',m=m'+1:=⟨m - 1,by omega⟩;have hfs:anyN (fun i=>!s.okK (s.keeps.getD i default) (s.last i) i) (m+1) i=(!s.okK (s.keeps.getD i default) (s.last i) i||anyN (fun i=>!s.okK (s.keeps.getD i default) (s.last i) i) m (i+1)):=rfl;rw[hfs]at hf;have hla:s.last (i+1)=(s.keeps.getD i default).id:=rfl;have hT:=takenS_pur h hl hE (l:=s.keeps.take i) (r:=.isl ((s.keeps.take i).map Kep.av)) (.inl rfl) (by rw[List.length_take]; omega) (s.keeps.getD i default).bx (s.keeps.getD i default).fr (s.keeps.getD i default).till
  generalize hk0:s.keeps.getD i default=k at hx hf hla hT
  have hcx:=Kep.cells k;have hC:=canon_pur s.c.a s.c.b s.c.c k.x k.y k.z k.p k.q k.r;have heq:=eqBox' (can (ckB s.c.a s.c.b s.c.c k.x k.y k.z k.p k.q k.r) s.c.a k.p k.x) (can (ckB s.c.a s.c.b s.c.c k.x k.y k.z k.p k.q k.r) s.c.b k.q k.y) (can (ckB s.c.a s.c.b s.c.c k.x k.y k.z k.p k.q k.r) s.c.c k.r k.z) (cas (ckB s.c.a s.c.b s.c.c k.x k.y k.z k.p k.q k.r) k.p) (cas (ckB s.c.a s.c.b s.c.c k.x k.y k.z k.p k.q k.r) k.q) (cas (ckB s.c.a s.c.b s.c.c k.x k.y k.z k.p k.q k.r) k.r) k.x k.y k.z k.p k.q k.r;rw[show decide (can (ckB s.c.a s.c.b s.c.c k.x k.y k.z k.p k.q k.r) s.c.a k.p k.x=k.x/\can (ckB s.c.a s.c.b s.c.c k.x k.y k.z k.p k.q k.r) s.c.b k.q k.y=k.y/\can (ckB s.c.a s.c.b s.c.c k.x k.y k.z k.p k.q k.r) s.c.c k.r k.z=k.z/\cas (ckB s.c.a s.c.b s.c.c k.x k.y k.z k.p k.q k.r) k.p=k.p/\cas (ckB s.c.a s.c.b s.c.c k.x k.y k.z k.p k.q k.r) k.q=k.q/\cas (ckB s.c.a s.c.b s.c.c k.x k.y k.z k.p k.q k.r) k.r=k.r)=s.told k from rfl]at heq;have hbb:(0<=(i:Int)/\(i:Int) < ((s.keeps.map Kep.av).length:Int)):=⟨by omega,by rw[zM]; omega⟩;have mm0:∀ X,(H++X)[0]?=some (.cells s.cel):=fun X=>(zL (zAc m0)).trans m0
  have mm0':=mm0;unfold Sta.cel at mm0';have hi1:=zAl (n:=(i:Int)+1) (by omega) (by omega);have hpe:=Go.Ab.Pd.IsSl.ne h.ks (by rw[zM]; omega);obtain⟨C,hsl,hCC⟩:=sl_keeps (l:=s.keeps) (i:=i) (by omega);rw[<- hpe]at hsl;simp only[Sta.av,Kep.bx]at hT;have hok:s.okK k (s.last i) i=(decide (ckB s.c.a s.c.b s.c.c k.x k.y k.z k.p k.q k.r=0)&&s.told k&&!decide (k.id<=s.last i)&&!decide (s.next<=k.id)&&!decide (k.fr < 0)&&!decide (k.till<=k.fr)&&!decide (1099511627776 < k.till)&&!decide (k.till<=s.now)&&!s.taken (s.keeps.take i) ⟨k.x,k.y,k.z,k.p,k.q,k.r⟩ k.fr k.till):=rfl
  generalize ckB s.c.a s.c.b s.c.c k.x k.y k.z k.p k.q k.r=ck at hC heq hok
  generalize s.told k=tl at heq hok
  generalize s.taken (s.keeps.take i) ⟨k.x,k.y,k.z,k.p,k.q,k.r⟩ k.fr k.till=tk at hT hok
  generalize s.last i=la at t3 hf hok
  have hch:(decide (ck=0)=false)\/(decide (ck=0)=true/\tl=false)\/(decide (ck=0)=true/\tl=true/\decide (k.id<=la)=true)\/(decide (ck=0)=true/\tl=true/\decide (k.id<=la)=false/\decide (s.next<=k.id)=true)\/(decide (ck=0)=true/\tl=true/\decide (k.id<=la)=false/\decide (s.next<=k.id)=false/\decide (k.fr < 0)=true)\/(decide (ck=0)=true/\tl=true/\decide (k.id<=la)=false/\decide (s.next<=k.id)=false/\decide (k.fr < 0)=false/\decide (k.till<=k.fr)=true)\/(decide (ck=0)=true/\tl=true/\decide (k.id<=la)=false/\decide (s.next<=k.id)=false/\decide (k.fr < 0)=false/\decide (k.till<=k.fr)=false/\decide (1099511627776 < k.till)=true)\/(decide (ck=0)=true/\tl=true/\decide (k.id<=la)=false/\decide (s.next<=k.id)=false/\decide (k.fr < 0)=false/\decide (k.till<=k.fr)=false/\decide (1099511627776 < k.till)=false/\decide (k.till<=s.now)=true)\/(decide (ck=0)=true/\tl=true/\decide (k.id<=la)=false/\decide (s.next<=k.id)=false/\decide (k.fr < 0)=false/\decide (k.till<=k.fr)=false/\decide (1099511627776 < k.till)=false/\decide (k.till<=s.now)=false/\tk=true)\/(decide (ck=0)=true/\tl=true/\decide (k.id<=la)=false/\decide (s.next<=k.id)=false/\decide (k.fr < 0)=false/\decide (k.till<=k.fr)=false/\decide (1099511627776 < k.till)=false/\decide (k.till<=s.now)=false/\tk=false):=by
   generalize decide (ck=0)=qq1
   generalize tl=qq2
   generalize decide (k.id<=la)=qq3
   generalize decide (s.next<=k.id)=qq4
   generalize decide (k.fr < 0)=qq5
   generalize decide (k.till<=k.fr)=qq6
   generalize decide (1099511627776 < k.till)=qq7
   generalize decide (k.till<=s.now)=qq8
   generalize tk=qq9
   cases qq1 <;> cases qq2 <;> cases qq3 <;> cases qq4 <;> cases qq5 <;> cases qq6 <;> cases qq7 <;> cases qq8 <;> cases qq9 <;> simp
  rcases hch with q1 | ⟨q1,q2⟩ | ⟨q1,q2,q3⟩ | ⟨q1,q2,q3,q4⟩ | ⟨q1,q2,q3,q4,q5⟩ | ⟨q1,q2,q3,q4,q5,q6⟩ | ⟨q1,q2,q3,q4,q5,q6,q7⟩ | ⟨q1,q2,q3,q4,q5,q6,q7,q8⟩ | ⟨q1,q2,q3,q4,q5,q6,q7,q8,q9⟩ | ⟨q1,q2,q3,q4,q5,q6,q7,q8,q9⟩
  ·skip
   simp only[q1,Bool.true_and,Bool.false_and,Bool.and_false,Bool.and_true,Bool.not_true,Bool.not_false]at hok;rw[hok]at hf;simp only[Bool.not_true,Bool.not_false,Bool.true_or,Bool.false_or]at hf;refine goN ?_;simp only[push_cast,seval,↓kw2,hZ,t1,t3,t15,t16,t17,hd1,hx,hcx,mm0',zAd,getA,zAe,setA,zAb,List.length_cons,List.length_nil,List.take];refine⟨hbb,?_⟩;refine AC.pur hC ?_;refine goN ?_;simp only[push_cast,seval,↓kw2,hZ,t1,t3,t15,t16,t17,mm0',zAd,getA,zAe,setA,zAb,List.length_cons,List.length_nil,List.take,heq,zAn,q1];exact⟨_,rfl,zAa rfl (by first | (rw[<- hf]; rfl) | (rw[hf]; rfl) | simp[hf] | simp[<- hf])⟩
  ·skip
   subst q2;simp only[q1,Bool.true_and,Bool.false_and,Bool.and_false,Bool.and_true,Bool.not_true,Bool.not_false]at hok;rw[hok]at hf;simp only[Bool.not_true,Bool.not_false,Bool.true_or,Bool.false_or]at hf;refine goN ?_;simp only[push_cast,seval,↓kw2,hZ,t1,t3,t15,t16,t17,hd1,hx,hcx,mm0',zAd,getA,zAe,setA,zAb,List.length_cons,List.length_nil,List.take];refine⟨hbb,?_⟩;refine AC.pur hC ?_;refine goN ?_;simp only[push_cast,seval,↓kw2,hZ,t1,t3,t15,t16,t17,mm0',zAd,getA,zAe,setA,zAb,List.length_cons,List.length_nil,List.take,heq,zAn,q1];exact⟨_,rfl,zAa rfl (by first | (rw[<- hf]; rfl) | (rw[hf]; rfl) | simp[hf] | simp[<- hf])⟩
  ·skip
   subst q2;simp only[q1,q3,Bool.true_and,Bool.false_and,Bool.and_false,Bool.and_true,Bool.not_true,Bool.not_false]at hok;rw[hok]at hf;simp only[Bool.not_true,Bool.not_false,Bool.true_or,Bool.false_or]at hf;refine goN ?_;simp only[push_cast,seval,↓kw2,hZ,t1,t3,t15,t16,t17,hd1,hx,hcx,mm0',zAd,getA,zAe,setA,zAb,List.length_cons,List.length_nil,List.take];refine⟨hbb,?_⟩;refine AC.pur hC ?_;refine goN ?_;simp only[push_cast,seval,↓kw2,hZ,t1,t3,t15,t16,t17,mm0',zAd,getA,zAe,setA,zAb,List.length_cons,List.length_nil,List.take,heq,zAn,q1,q3];exact⟨_,rfl,zAa rfl (by first | (rw[<- hf]; rfl) | (rw[hf]; rfl) | simp[hf] | simp[<- hf])⟩
  ·skip
   subst q2;simp only[q1,q3,q4,Bool.true_and,Bool.false_and,Bool.and_false,Bool.and_true,Bool.not_true,Bool.not_false]at hok;rw[hok]at hf;simp only[Bool.not_true,Bool.not_false,Bool.true_or,Bool.false_or]at hf;refine goN ?_;simp only[push_cast,seval,↓kw2,hZ,t1,t3,t15,t16,t17,hd1,hx,hcx,mm0',zAd,getA,zAe,setA,zAb,List.length_cons,List.length_nil,List.take];refine⟨hbb,?_⟩;refine AC.pur hC ?_;refine goN ?_;simp only[push_cast,seval,↓kw2,hZ,t1,t3,t15,t16,t17,mm0',zAd,getA,zAe,setA,zAb,List.length_cons,List.length_nil,List.take,heq,zAn,q1,q3,q4];exact⟨_,rfl,zAa rfl (by first | (rw[<- hf]; rfl) | (rw[hf]; rfl) | simp[hf] | simp[<- hf])⟩
  ·skip
   subst q2;simp only[q1,q3,q4,q5,Bool.true_and,Bool.false_and,Bool.and_false,Bool.and_true,Bool.not_true,Bool.not_false]at hok;rw[hok]at hf;simp only[Bool.not_true,Bool.not_false,Bool.true_or,Bool.false_or]at hf;refine goN ?_;simp only[push_cast,seval,↓kw2,hZ,t1,t3,t15,t16,t17,hd1,hx,hcx,mm0',zAd,getA,zAe,setA,zAb,List.length_cons,List.length_nil,List.take];refine⟨hbb,?_⟩;refine AC.pur hC ?_;refine goN ?_;simp only[push_cast,seval,↓kw2,hZ,t1,t3,t15,t16,t17,mm0',zAd,getA,zAe,setA,zAb,List.length_cons,List.length_nil,List.take,heq,zAn,q1,q3,q4,q5];exact⟨_,rfl,zAa rfl (by first | (rw[<- hf]; rfl) | (rw[hf]; rfl) | simp[hf] | simp[<- hf])⟩
  ·skip
   subst q2;simp only[q1,q3,q4,q5,q6,Bool.true_and,Bool.false_and,Bool.and_false,Bool.and_true,Bool.not_true,Bool.not_false]at hok;rw[hok]at hf;simp only[Bool.not_true,Bool.not_false,Bool.true_or,Bool.false_or]at hf;refine goN ?_;simp only[push_cast,seval,↓kw2,hZ,t1,t3,t15,t16,t17,hd1,hx,hcx,mm0',zAd,getA,zAe,setA,zAb,List.length_cons,List.length_nil,List.take];refine⟨hbb,?_⟩;refine AC.pur hC ?_;refine goN ?_;simp only[push_cast,seval,↓kw2,hZ,t1,t3,t15,t16,t17,mm0',zAd,getA,zAe,setA,zAb,List.length_cons,List.length_nil,List.take,heq,zAn,q1,q3,q4,q5,q6];exact⟨_,rfl,zAa rfl (by first | (rw[<- hf]; rfl) | (rw[hf]; rfl) | simp[hf] | simp[<- hf])⟩
  ·skip
   subst q2;simp only[q1,q3,q4,q5,q6,q7,Bool.true_and,Bool.false_and,Bool.and_false,Bool.and_true,Bool.not_true,Bool.not_false]at hok;rw[hok]at hf;simp only[Bool.not_true,Bool.not_false,Bool.true_or,Bool.false_or]at hf;refine goN ?_;simp only[push_cast,seval,↓kw2,hZ,t1,t3,t15,t16,t17,hd1,hx,hcx,mm0',zAd,getA,zAe,setA,zAb,List.length_cons,List.length_nil,List.take];refine⟨hbb,?_⟩;refine AC.pur hC ?_;refine goN ?_;simp only[push_cast,seval,↓kw2,hZ,t1,t3,t15,t16,t17,mm0',zAd,getA,zAe,setA,zAb,List.length_cons,List.length_nil,List.take,heq,zAn,q1,q3,q4,q5,q6,q7];exact⟨_,rfl,zAa rfl (by first | (rw[<- hf]; rfl) | (rw[hf]; rfl) | simp[hf] | simp[<- hf])⟩
  ·skip
   subst q2;simp only[q1,q3,q4,q5,q6,q7,q8,Bool.true_and,Bool.false_and,Bool.and_false,Bool.and_true,Bool.not_true,Bool.not_false]at hok;rw[hok]at hf;simp only[Bool.not_true,Bool.not_false,Bool.true_or,Bool.false_or]at hf;refine goN ?_;simp only[push_cast,seval,↓kw2,hZ,t1,t3,t15,t16,t17,hd1,hx,hcx,mm0',zAd,getA,zAe,setA,zAb,List.length_cons,List.length_nil,List.take];refine⟨hbb,?_⟩;refine AC.pur hC ?_;refine goN ?_;simp only[push_cast,seval,↓kw2,hZ,t1,t3,t15,t16,t17,mm0',zAd,getA,zAe,setA,zAb,List.length_cons,List.length_nil,List.take,heq,zAn,q1,q3,q4,q5,q6,q7,q8];exact⟨_,rfl,zAa rfl (by first | (rw[<- hf]; rfl) | (rw[hf]; rfl) | simp[hf] | simp[<- hf])⟩
  ·skip
   subst q2;subst q9;simp only[q1,q3,q4,q5,q6,q7,q8,Bool.true_and,Bool.false_and,Bool.and_false,Bool.and_true,Bool.not_true,Bool.not_false]at hok;rw[hok]at hf;simp only[Bool.not_true,Bool.not_false,Bool.true_or,Bool.false_or]at hf;refine goN ?_;simp only[push_cast,seval,↓kw2,hZ,t1,t3,t15,t16,t17,hd1,hx,hcx,mm0',zAd,getA,zAe,setA,zAb,List.length_cons,List.length_nil,List.take];refine⟨hbb,?_⟩;refine AC.pur hC ?_;refine goN ?_;simp only[push_cast,seval,↓kw2,hZ,t1,t3,t15,t16,t17,mm0',zAd,getA,zAe,setA,zAb,List.length_cons,List.length_nil,List.take,heq,zAn,q1,q3,q4,q5,q6,q7,q8,hsl];refine⟨hCC,_,toVQ hT,?_⟩;simp only[push_cast,seval,↓kw2,hZ,t1,t3,t15,t16,t17,mm0',zAd,getA,zAe,setA,zAb,List.length_cons,List.length_nil,List.take,q1,q3,q4,q5,q6,q7,q8,hi1];exact⟨_,rfl,zAa rfl (by first | (rw[<- hf]; rfl) | (rw[hf]; rfl) | simp[hf] | simp[<- hf])⟩
  ·skip
   subst q2;subst q9;simp only[q1,q3,q4,q5,q6,q7,q8,Bool.true_and,Bool.false_and,Bool.and_false,Bool.and_true,Bool.not_true,Bool.not_false]at hok;rw[hok]at hf;simp only[Bool.not_true,Bool.not_false,Bool.true_or,Bool.false_or]at hf;refine goN ?_;simp only[push_cast,seval,↓kw2,hZ,t1,t3,t15,t16,t17,hd1,hx,hcx,mm0',zAd,getA,zAe,setA,zAb,List.length_cons,List.length_nil,List.take];refine⟨hbb,?_⟩;refine AC.pur hC ?_;refine goN ?_;simp only[push_cast,seval,↓kw2,hZ,t1,t3,t15,t16,t17,mm0',zAd,getA,zAe,setA,zAb,List.length_cons,List.length_nil,List.take,heq,zAn,q1,q3,q4,q5,q6,q7,q8,hsl];refine⟨hCC,_,toVQ hT,?_⟩;simp only[push_cast,seval,↓kw2,hZ,t1,t3,t15,t16,t17,mm0',zAd,getA,zAe,setA,zAb,List.length_cons,List.length_nil,List.take,q1,q3,q4,q5,q6,q7,q8,hi1];exact ih m (by omega) _ _ ⟨i+1,by omega,hf,mm0 _,t1,by rw[hla]; rfl,t15,t16,rfl⟩
 ·have hd1:decide ((i:Int) < (s.keeps.length:Int))=false:=by simp; omega
  have hm:m=0:=by omega
  subst hm;refine goN ?_;simp only[push_cast,seval,↓kw2,t16,t17,hd1];exact⟨_,rfl,zAa rfl (by first | (rw[<- hf]; rfl) | (rw[hf]; rfl) | simp[hf] | simp[<- hf])⟩
def Sta.okV(s:Sta):Bool:=s.config&&(jobsV s.c s.jobs s.now s.next&&(s.marks&&(s.partsV&&(startG s.c.cls (hasPart s.parts) ([],0) s.jobs&&s.keepsV))))
theorem config_chk{s:Sta}(h:s.config=true):s.c.chk=0:=by
 unfold Sta.config at h;simp only[zA,decide_eq_true_eq]at h;exact h.1.1.1.1
theorem jobs_tbl{x:Cfg}{l:List Jb}{now next:Int}(h:jobsV x l now next=true):tblE x l=0:=by
 unfold jobsV at h;simp only[zA,decide_eq_true_eq]at h;exact h.1
theorem Cfg.may_ok{x:Cfg}(h:x.may=true):okD x.a x.b x.c:=by
 unfold Cfg.may at h;simp only[zA,decide_eq_true_eq]at h;exact h.1.1.1.1
theorem jobs_cls{x:Cfg}{l:List Jb}(h:tblE x l=0):∀ j∈l,0<=j.cls/\j.cls < x.cls.length:=fun j hj=>by
 have:=(Jb.chk_facts (tbl_chk h j hj)).1;unfold Jb.plain witV at this;simp only[zA,decide_eq_true_eq]at this;omega
theorem part_ends{s:Sta}(h:s.good)(hl:s.lim){p:Prt}(hp:s.part p=true):Pur zP GG 132 [s.av,p.av] (I (s.ends p)):=by
 unfold Sta.part at hp;simp only[zA,decide_eq_true_eq]at hp;obtain⟨⟨_,hpp⟩,k1,k2,k3,k4⟩:=Cfg.sp_facts hp.1.1.1.1.1.1.2;exact endsS_pur h hl p (Cfg.part_ph hpp) (by omega) (by omega) (by omega) k1
theorem zFd{s:Sta}(h:s.partsV=true):∀ p∈s.parts,s.part p=true:=fun p hp=>by
 unfold Sta.partsV at h;simp only[zA,Bool.not_eq_true',Bool.eq_false_iff,Ne,anyN_iff]at h;obtain⟨i,hi,rfl⟩:=List.getElem_of_mem hp;cases hq:s.part s.parts[i]
 ·exact absurd ⟨i,by omega,by omega,by
   rw[Bool.or_eq_true];left;unfold Sta.odd1;rw[show s.parts.getD i default=s.parts[i] by simp[List.getD,hi],hq];simp⟩ h.2
 ·rfl
theorem parts_ends{s:Sta}(h:s.good)(hl:s.lim)(hp:s.partsV=true):∀ p∈s.parts,Pur zP GG 132 [s.av,p.av] (I (s.ends p)):=fun p hm=>part_ends h hl (zFd hp p hm)
theorem e14:Ent zP 14 Tryz.f14 [] 1:=.mk Tryz.func14 rfl
theorem holdc_pur{s:Sta}(h:s.good)(hl:s.lim):Pur zP GG 14 [s.av] (I (if s.okV=true then 0 else 8)):=by
 have hZ:=h.cell;obtain⟨⟨⟨a1,a2,a3⟩,b1,b2,b3⟩,⟨⟨c1,c2,c3⟩,d1,d2,d3⟩,⟨e1,e2,e3⟩,⟨f1,f2,f3⟩,g1,g2,g3⟩:=h.cell;obtain⟨p1,p2,p3,p4,p5,p6,p7⟩:=h.purs;have k1:=config_pur h;have k2:=jobsT_pur h;have k4:=parts_pur h hl;simp only[Sta.av]at k1 k2 k4;show Pur zP GG 14 [ST s.c.a s.c.b s.c.c s.c.boot s.c.free s.c.tries s.c.age s.cs s.now s.next s.js s.ps s.ks s.ds s.hs s.us] _;unfold Sta.okV;refine goQ e14 TOk.nil 1 ?_ (by simp[AV.purL,AV.pur,p1,p2,p3,p4,p5,p6,p7]);simp only[push_cast,seval,↓kw2,hZ];refine AC.pur k1 ?_;cases h0:s.config
 ·simp only[Bool.false_and,Bool.false_eq_true,if_false];refine goW TOk.nil [] 1 ?_;simp only[push_cast,seval,↓kw2];exact⟨_,rfl,zAa rfl rfl⟩
 simp only[Bool.true_and];refine goW TOk.nil [] 1 ?_;simp only[push_cast,seval,↓kw2];refine AC.pur k2 ?_;cases h1:jobsV s.c s.jobs s.now s.next
 ·simp only[Bool.false_and,Bool.false_eq_true,if_false];refine goW TOk.nil [] 1 ?_;simp only[push_cast,seval,↓kw2];exact⟨_,rfl,zAa rfl rfl⟩
 simp only[Bool.true_and];have k3:=marksS_pur h hl (Cfg.may_ok (Cfg.chk_may (config_chk h0)));simp only[Sta.av]at k3;refine goW TOk.nil [] 1 ?_;simp only[push_cast,seval,↓kw2];refine AC.pur k3 ?_;cases h2:s.marks
 ·simp only[Bool.false_and,Bool.false_eq_true,if_false];refine goW TOk.nil [] 1 ?_;simp only[push_cast,seval,↓kw2];exact⟨_,rfl,zAa rfl rfl⟩
 simp only[Bool.true_and];refine goW TOk.nil [] 1 ?_;simp only[push_cast,seval,↓kw2];refine AC.pur k4 ?_;cases h3:s.partsV
 ·simp only[Bool.false_and,Bool.false_eq_true,if_false];refine goW TOk.nil [] 1 ?_;simp only[push_cast,seval,↓kw2];exact⟨_,rfl,zAa rfl rfl⟩
 simp only[Bool.true_and];have k5:=started_pur h hl (jobs_cls (jobs_tbl h1));simp only[Sta.av]at k5;refine goW TOk.nil [] 1 ?_;simp only[push_cast,seval,↓kw2];refine AC.pur k5 ?_;cases h4:startG s.c.cls (hasPart s.parts) ([],0) s.jobs
 ·simp only[Bool.false_and,Bool.false_eq_true,if_false];refine goW TOk.nil [] 1 ?_;simp only[push_cast,seval,↓kw2];exact⟨_,rfl,zAa rfl rfl⟩
 simp only[Bool.true_and];have k6:=keepsS_pur h hl (parts_ends h hl h3);simp only[Sta.av]at k6;refine goW TOk.nil [] 1 ?_;simp only[push_cast,seval,↓kw2];refine AC.pur k6 ?_;cases h5:s.keepsV
 ·simp only[Bool.false_and,Bool.false_eq_true,if_false];refine goW TOk.nil [] 1 ?_;simp only[push_cast,seval,↓kw2];exact⟨_,rfl,zAa rfl rfl⟩
 simp only[if_true];refine goW TOk.nil [] 1 ?_;simp only[push_cast,seval,↓kw2];exact⟨_,rfl,zAa rfl rfl⟩
structure Sta.lim2(s:Sta):Prop where
 cl:s.c.cls.length<=2^15
 jl:s.jobs.length<=2^15
 pl:s.parts.length<=2^15
 kl:s.keeps.length<=2^15
 dl:s.down.length<=2^15
 hl:s.shut.length<=2^15
 ul:s.cut.length<=2^15
 al:∀ j∈s.jobs,j.after.length<=2^15
theorem e16:Ent zP 16 Tryz.f16 [] 1:=.mk Tryz.func16 rfl
theorem LiveS.cell{k:Nat}{H:List AO}{s r:AV}{l:List AV}(h:LiveS k H s r l):r.isCell=true/\r.isEl=true/\r.cells=[r]:=by
 cases h <;> exact⟨rfl,rfl,rfl⟩
theorem LiveS.keep{k:Nat}{H H':List AO}{s r:AV}{l:List AV}(h:LiveS k H s r l)(hk:∀ i,zAw r=some i->H'[i]?=H[i]?):LiveS k H' s r l:=by
 cases h with
 | nil=>exact .nil
 | zs=>exact .zs
 | row h h0=>exact .row ((hk _ rfl).trans h) h0
theorem LiveS.lt{k:Nat}{H:List AO}{s r:AV}{l:List AV}(h:LiveS k H s r l):∀ i,zAw r=some i->i < H.length:=by
 intro i hi
 cases h with
 | nil=>cases hi
 | zs=>cases hi
 | row h h0=>cases hi; exact zAc h
def Le(a b:AV):Prop:=∀(w:World) (E:En) (r:Value),RepV w E a r->RepV w E b r
theorem Le.refl(a:AV):Le a a:=fun _ _ _ h=>h
theorem Le.agg{cs ds:List AV}(hl:cs.length=ds.length)(hc:∀ i,i < ds.length->(ds.getD i .un).isCell=true)(h:∀ i,i < ds.length->Le (cs.getD i .un) (ds.getD i .un)):Le (.agg cs) (.agg ds):=fun w E r hr=>by
 cases hr with
 | agg h1 h2 h3=>exact .agg (by omega) hc fun i hi=>h i hi w E _ (h3 i (by omega))
theorem Pur.args{f:FuncId}{args args':List AV}{v:AV}(hl:args.length=args'.length)(hle:∀ i,i < args'.length->Le (args.getD i .un) (args'.getD i .un))(h:Pur zP GG f args' v):Pur zP GG f args v:=fun H K hK=>by
 obtain⟨h1,h2⟩:=h H K hK;exact⟨h1,fun E w vargs hH hA cs=>h2 E w vargs hH ⟨by rw[hA.1,hl],fun i hi=>hle i hi w E _ (hA.2 i (by omega))⟩ cs⟩
theorem LiveS.froz{k:Nat}{H:List AO}{s r:AV}{l:List AV}(h:LiveS k H s r l)(hp:AV.purL l=true):∃ r',frz 2 H r=some r'/\r'.pur=true/\Le r' s/\(r.pur=true->r'=r):=by
 cases h with
 | nil=>exact⟨_,rfl,rfl,Le.refl _,fun _=>rfl⟩
 | zs=>exact⟨_,rfl,rfl,fun _ _ _=>zs_isl,fun _=>rfl⟩
 | row h h0=>exact⟨_,frz_row h h0 hp,by simp[AV.pur,hp],Le.refl _,fun e=>by cases e⟩
theorem zDr{n:Nat}{H:List AO}{a:AV}(h:a.pur=true):frz (n+1) H a=some a:=by
 unfold Go.Ab.frz;rw[if_pos h]
abbrev NS:AV:=.c (.slice none 0 0)
structure Sta.fine(s:Sta):Prop where
 cf:s.config=true
 jb:jobsV s.c s.jobs s.now s.next=true
 mr:s.marks=true
 pa:s.partsV=true
 st:startG s.c.cls (hasPart s.parts) ([],0) s.jobs=true
 kp:s.keepsV=true
theorem okV_iff{s:Sta}:s.okV=true ↔ s.fine:=by
 unfold Sta.okV;simp only[zA];exact⟨fun⟨a,b,c,d,e,f⟩=>⟨a,b,c,d,e,f⟩,fun⟨a,b,c,d,e,f⟩=>⟨a,b,c,d,e,f⟩⟩
theorem part_facts{s:Sta}{p:Prt}(h:s.part p=true):¬findN s.jobs p.job < 0/\s.c.spE p (s.jobOf p).wall=0/\s.c.end p (s.jobOf p).wall=s.ends p/\s.now < s.ends p/\p.pl.ok s.c.a s.c.b s.c.c/\((s.jobOf p).st=2 ↔ ¬p.ph=3):=by
 unfold Sta.part Sta.isJob at h;simp only[zA,decide_eq_true_eq,Bool.not_eq_true',decide_eq_false_iff_not]at h;obtain⟨⟨⟨⟨⟨⟨⟨h1,h2⟩,h3⟩,h4⟩,h5⟩,h6⟩,h7⟩,h8⟩:=h;obtain⟨⟨_,hpp⟩,k1,k2,k3,k4⟩:=Cfg.sp_facts h2;have he:s.c.end p (s.jobOf p).wall=s.ends p:=by
  unfold Cfg.end Sta.ends at *;omega
 have hn:s.now < s.ends p:=by
  unfold Cfg.turn Sta.ends at *
  split at h5
  ·rename_i hp1; simp only[hp1,if_true]at h4 ⊢; omega
  ·rename_i hp1
   split at h5
   ·rename_i hp2; simp only[hp1,hp2,if_true,if_false]at h4 ⊢; omega
   ·rename_i hp2; simp only[hp1,hp2,if_false]at h4 ⊢; omega
 refine⟨by omega,h2,he,hn,isE_ok h6,?_⟩
 split at h8
 ·rename_i h3;simp only[decide_eq_true_eq]at h8;exact⟨fun e=>by omega,fun e=>absurd h3 e⟩
 ·rename_i h3;simp only[zA,decide_eq_true_eq]at h8;exact⟨fun _=>h3,fun _=>h8.1⟩
theorem zFl{pr:Nat->Bool}{n:Nat}(h:anyN pr n 0=false):∀ i,i < n->pr i=false:=fun i hi=>by
 cases hp:pr i
 ·rfl
 ·rw[Bool.eq_false_iff,Ne,anyN_iff]at h;exact absurd ⟨i,by omega,by omega,hp⟩ h
theorem parts_no{s:Sta}(h:s.partsV=true):∀ i,i < s.parts.length->s.odd1 i=false/\s.odd2 i=false:=fun i hi=>by
 unfold Sta.partsV at h;simp only[zA,Bool.not_eq_true']at h;have:=zFl h.2 i hi;simpa using this
theorem meet_no{s:Sta}{X Y:Plc}(hX:X.ok s.c.a s.c.b s.c.c)(hY:Y.ok s.c.a s.c.b s.c.c)(h:s.meet X Y=false):zEu s.c.a s.c.b s.c.c X Y=true:=by
 unfold Sta.meet at h;rw[zT ⟨hX,hY⟩,Bool.true_and,Bool.not_eq_false']at h;exact h
theorem parts_mem{s:Sta}{i:Nat}(hi:i < s.parts.length):s.parts.getD i default∈s.parts:=by
 rw[show s.parts.getD i default=s.parts[i] by simp[List.getD,hi]];exact List.getElem_mem hi
theorem parts_apart{s:Sta}(h:s.partsV=true){i k:Nat}(hk:k < i)(hi:i < s.parts.length):zEu s.c.a s.c.b s.c.c (s.parts.getD i default).pl (s.parts.getD k default).pl=true:=by
 have h2:=(parts_no h i hi).2;unfold Sta.odd2 at h2;have h3:=zFl h2 k (by rw[List.length_take]; omega);have ht:(s.parts.take i).getD k default=s.parts.getD k default:=by simp[List.getD,List.getElem?_take,hk]
 rw[ht]at h3;exact meet_no (part_facts (zFd h _ (parts_mem hi))).2.2.2.2.1 (part_facts (zFd h _ (parts_mem (by omega)))).2.2.2.2.1 h3
theorem kept_ok{s:Sta}{k:Kep}(h:ckB s.c.a s.c.b s.c.c k.x k.y k.z k.p k.q k.r=0)(ht:s.told k=true):k.bx.pl.ok s.c.a s.c.b s.c.c:=by
 unfold Sta.told at ht;rw[h]at ht;unfold ckB at h
 split at h
 ·rename_i hd
  split at h
  ·rename_i hb;simp only[can,cas,if_true]at ht;refine⟨hd,hb,fun e=>(by cases e),fun e=>(by cases e),fun e=>(by cases e),?_⟩;rw[decide_eq_true_eq]at ht;obtain⟨t1,t2,t3,_⟩:=ht;show(k.p=s.c.a->k.x=0)/\(k.q=s.c.b->k.y=0)/\(k.r=s.c.c->k.z=0);exact⟨fun e=>by rw[if_pos e]at t1; exact t1.symm,fun e=>by rw[if_pos e]at t2; exact t2.symm,fun e=>by rw[if_pos e]at t3; exact t3.symm⟩
  ·cases h
 ·cases h
theorem keeps_ok{s:Sta}(h:s.keepsV=true){k:Nat}(hk:k < s.keeps.length):s.okK (s.keeps.getD k default) (s.last k) k=true:=by
 unfold Sta.keepsV at h;simp only[zA,Bool.not_eq_true']at h;have:=zFl h.2 k hk;simpa using this
theorem keeps_apart{s:Sta}(h:s.keepsV=true){k:Nat}(hk:k < s.keeps.length):(s.keeps.getD k default).bx.pl.ok s.c.a s.c.b s.c.c/\∀ p∈s.parts,p.pl.ok s.c.a s.c.b s.c.c->zEu s.c.a s.c.b s.c.c p.pl (s.keeps.getD k default).bx.pl=true\/s.ends p<=(s.keeps.getD k default).fr:=by
 have ho:=keeps_ok h hk
 generalize s.keeps.getD k default=q at ho
 unfold Sta.okK at ho;simp only[zA,decide_eq_true_eq,Bool.not_eq_true']at ho;obtain⟨⟨⟨⟨⟨⟨⟨⟨h1,h0⟩,_⟩,_⟩,_⟩,_⟩,_⟩,_⟩,h9⟩:=ho;have hq:q.bx.pl.ok s.c.a s.c.b s.c.c:=kept_ok h1 h0;refine⟨hq,fun p hp hpo=>?_⟩;unfold Sta.taken at h9;rw[Bool.or_eq_false_iff]at h9;obtain⟨i,hi,rfl⟩:=List.getElem_of_mem hp;have:=zFl h9.2 i hi;rw[show s.parts.getD i default=s.parts[i] by simp[List.getD,hi]]at this;unfold tk2 at this;rw[Bool.and_eq_false_iff]at this
 rcases this with h2 | h2
 ·right;simpa using h2
 ·left;exact meet_no hpo hq h2
theorem great18_after{l:List Jb}(h:great18 l=false):l.length<=100/\∀ j∈l,j.after.length<=100:=by
 unfold great18 at h;rw[Bool.or_eq_false_iff]at h;have hl:l.length<=100:=by have:=h.2; rw[decide_eq_false_iff_not]at this; omega
 refine⟨hl,fun j hj=>?_⟩;obtain⟨i,hi,rfl⟩:=List.getElem_of_mem hj;have:=zFl h.1 i (by omega);rw[show l.getD i default=l[i] by simp[List.getD,hi],decide_eq_false_iff_not]at this;omega
theorem Sta.lim2_of{s:Sta}(h:s.great=false):s.lim2:=by
 unfold Sta.great at h;simp only[Bool.or_eq_false_iff,decide_eq_false_iff_not]at h;obtain⟨⟨⟨⟨⟨⟨h1,h2⟩,h3⟩,h4⟩,h5⟩,h6⟩,h7⟩:=h;obtain⟨g1,g2⟩:=great18_after h2;exact⟨by omega,by omega,by omega,by omega,by omega,by omega,by omega,fun j hj=>by have:=g2 j hj; omega⟩
end Go.Ab.Pd
