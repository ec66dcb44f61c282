/- One of the texts that this claim stands on. -/
import Derived.Test.YtbnnfihjhamopaaGreatDoorEv50
import Derived.Test.YtbnnfihjhamopaaGreatDoorEv51
set_option maxHeartbeats 40000000
set_option maxRecDepth 400000
set_option linter.all false
namespace Go.Ab.Pd
open Go.Proofs
open Go.Proofs.Tryz renaming prog->zP
theorem who_slot{s:Sta}{inn:Sl4->Nat->Bool}{i:Nat}(hc:calO 0 (calF inn s.slots i)){o at_:Int}(ho:1<=o):whoC at_ (calF inn s.slots i)=o ↔ ∃ y∈s.slots,inn y i=true/\y.fr<=at_/\at_ < y.till/\y.own=o:=by
 rw[who_iff ho hc]
 constructor
 ·rintro⟨z,hz,h1,h2,h3⟩
  obtain⟨y,hy,hi,rfl⟩:=calF_mem.1 hz;exact⟨y,hy,hi,h1,h2,h3⟩
 ·rintro⟨y,hy,hi,h1,h2,h3⟩
  exact⟨y.slt,calF_mem.2 ⟨y,hy,hi,rfl⟩,h1,h2,h3⟩
theorem slot_one{s:Sta}(f:s.fine){i:Nat}(hi:i < s.parts.length){p:Prt}(hp:s.parts.getD i default=p)(hk:∀ k∈s.keeps,¬k.id=p.job){y:Sl4}(hy:y∈s.slots)(ho:y.own=p.job):y=⟨p.job,p.pl,s.now,s.ends p⟩:=by
 unfold Sta.slots at hy
 rcases List.mem_append.1 hy with h | h
 ·obtain⟨q,hq,rfl⟩:=List.mem_map.1 h;obtain⟨k,hkl,rfl⟩:=List.getElem_of_mem hq;have e:s.parts[k]=s.parts.getD k default:=by simp[List.getD,hkl]
  rw[e]at ho ⊢;have hki:k=i:=by
   rcases Nat.lt_trichotomy k i with h | h | h
   ·have:=parts_rise f.pa h hi;rw[hp]at this;exact absurd ho (by show ¬(s.parts.getD k default).job=p.job; omega)
   ·exact h
   ·have:=parts_rise f.pa h hkl;rw[hp]at this;exact absurd ho (by show ¬(s.parts.getD k default).job=p.job; omega)
  rw[hki,hp]
 ·obtain⟨k,hk',rfl⟩:=List.mem_map.1 h;exact absurd ho (hk k hk')
theorem slot_has{s:Sta}{p:Prt}(hp:p∈s.parts):(⟨p.job,p.pl,s.now,s.ends p⟩:Sl4)∈s.slots:=by
 unfold Sta.slots;exact List.mem_append_left _ (List.mem_map.2 ⟨p,hp,rfl⟩)
theorem ownN_bit{s:Sta}(f:s.fine){i:Nat}(hi:i < s.parts.length){p:Prt}(hp:s.parts.getD i default=p)(hk:∀ k∈s.keeps,¬k.id=p.job)(ho:1<=p.job)(at_:Int)(m:Nat) :
  zAy (ownN s.nM s.calN p.job at_) m=(decide ((m:Int)∈zAp s.c.a s.c.b s.c.c p.pl.x p.pl.y p.pl.z p.pl.p p.pl.q p.pl.r)&&decide (s.now<=at_/\at_ < s.ends p)):=by
 obtain⟨n1,n2⟩:=nM_rng f;have hpm:p∈s.parts:=by rw[<- hp,show s.parts.getD i default=s.parts[i] by simp[List.getD,hi]]; exact List.getElem_mem hi
 have hpf:=part_facts (zEo f.pa p hpm);have hok:=(zFh f s.slots.length (m+1)).1 m (by omega);rw[List.take_length]at hok;unfold ownN;rw[zDy (by omega) (fun k hk=>thL_rng k hk),Bool.eq_iff_iff,zA,decide_eq_true_iff,decide_eq_true_iff,decide_eq_true_iff,thL_mem,decide_eq_true_iff];show m < s.nM/\whoC at_ (calF (inN s.c.a s.c.b s.c.c) s.slots m)=p.job ↔ _;rw[who_slot hok.1 ho]
 constructor
 ·rintro⟨_,y,hy,hb,h1,h2,h3⟩
  obtain rfl:=slot_one f hi hp hk hy h3;exact⟨of_decide_eq_true hb,h1,h2⟩
 ·rintro⟨h1,h2,h3⟩
  have hr:=(zDg (zFf f) hpf.2.2.2.2.1.2.1 h1).2;rw[<- nM_eq f]at hr;exact⟨by omega,_,slot_has hpm,zT h1,h2,h3,rfl⟩
theorem ownL_bit{s:Sta}(f:s.fine){i:Nat}(hi:i < s.parts.length){p:Prt}(hp:s.parts.getD i default=p)(hk:∀ k∈s.keeps,¬k.id=p.job)(ho:1<=p.job)(at_:Int)(m:Nat) :
  zAy (ownN (3*s.nM) s.calL p.job at_) m=(decide ((m:Int)∈zBl s.c.a s.c.b s.c.c p.pl.x p.pl.y p.pl.z p.pl.p p.pl.q p.pl.r p.pl.s p.pl.t p.pl.u)&&decide (s.now<=at_/\at_ < s.ends p)):=by
 obtain⟨n1,n2⟩:=nM_rng f;have hpm:p∈s.parts:=by rw[<- hp,show s.parts.getD i default=s.parts[i] by simp[List.getD,hi]]; exact List.getElem_mem hi
 have hpf:=part_facts (zEo f.pa p hpm);have hok:=(zFh f s.slots.length (m+1)).2 m (by omega);rw[List.take_length]at hok;unfold ownN;rw[zDy (by omega) (fun k hk=>thL_rng k hk),Bool.eq_iff_iff,zA,decide_eq_true_iff,decide_eq_true_iff,decide_eq_true_iff,thL_mem,decide_eq_true_iff];show m < 3*s.nM/\whoC at_ (calF (inL s.c.a s.c.b s.c.c) s.slots m)=p.job ↔ _;rw[who_slot hok.1 ho]
 constructor
 ·rintro⟨_,y,hy,hb,h1,h2,h3⟩
  obtain rfl:=slot_one f hi hp hk hy h3;exact⟨of_decide_eq_true hb,h1,h2⟩
 ·rintro⟨h1,h2,h3⟩
  have hr:=zEg (zFf f) hpf.2.2.2.2.1.2.1 m h1;rw[<- nM_eq f]at hr;exact⟨by omega,_,slot_has hpm,zT h1,h2,h3,rfl⟩
theorem many_0{ws:List Int}(hw:∀ w∈ws,inU w)(hl:ws.length<=2^16)(h:∀ m,zAy ws m=false):manyW ws=0:=by
 have hz:ws=List.replicate ws.length 0:=by
  refine List.ext_getElem (by simp) fun i h1 h2=>?_
  have:=bits_0 hw h i h1;rw[show ws.getD i 0=ws[i] by simp[List.getD,h1]]at this;rw[this,List.getElem_replicate]
 rw[manyW_sum hw hl,hz];have h0:On.ones (0:Int).toNat=0:=by kernel_rfl
 unfold sumC;rw[List.map_replicate,h0];have hs:∀ k:Nat,(List.replicate k 0).sum=0:=fun k=>by
  induction k with
  | zero=>rfl
  | succ k ih=>rw[List.replicate_succ,List.sum_cons,ih]
 rw[hs]; rfl
theorem own_in{s:Sta}(f:s.fine){i:Nat}(hi:i < s.parts.length){p:Prt}(hp:s.parts.getD i default=p)(hk:∀ k∈s.keeps,¬k.id=p.job)(ho:1<=p.job){at_:Int}(h1:s.now<=at_)(h2:at_ < s.ends p) :
  (Pur zP GG 18 [I (s.nM:Int),.isl ((ownW s.c.a s.c.b s.c.c p.pl.x p.pl.y p.pl.z p.pl.p p.pl.q p.pl.r).map U),.isl ((ownN s.nM s.calN p.job at_).map U)] (.tup [B true,I 0]) /\
   Pur zP GG 18 [I (s.nM:Int),.isl ((ownN s.nM s.calN p.job at_).map U),.isl ((ownW s.c.a s.c.b s.c.c p.pl.x p.pl.y p.pl.z p.pl.p p.pl.q p.pl.r).map U)] (.tup [B true,I 0])) /\
  (Pur zP GG 18 [I (3*(s.nM:Int)),.isl ((linksW s.c.a s.c.b s.c.c p.pl.x p.pl.y p.pl.z p.pl.p p.pl.q p.pl.r p.pl.s p.pl.t p.pl.u).map U),.isl ((ownN (3*s.nM) s.calL p.job at_).map U)] (.tup [B true,I 0]) /\
   Pur zP GG 18 [I (3*(s.nM:Int)),.isl ((ownN (3*s.nM) s.calL p.job at_).map U),.isl ((linksW s.c.a s.c.b s.c.c p.pl.x p.pl.y p.pl.z p.pl.p p.pl.q p.pl.r p.pl.s p.pl.t p.pl.u).map U)] (.tup [B true,I 0])):=by
 obtain⟨n1,n2⟩:=nM_rng f;have hd:=zFf f;have hpm:p∈s.parts:=by rw[<- hp,show s.parts.getD i default=s.parts[i] by simp[List.getD,hi]]; exact List.getElem_mem hi
 have hpf:=part_facts (zEo f.pa p hpm);have hok:=hpf.2.2.2.2.1;have hmv:zAd s.c.a s.c.b s.c.c=(s.nM:Int):=by rw[zAd,if_pos hd,nM_eq f]
 have e3:((3*s.nM:Nat):Int)=3*(s.nM:Int):=by omega
 obtain⟨k1,k2⟩:=own_chk hok;rw[hmv]at k1 k2;have k3:schk (s.nM:Int) (ownN s.nM s.calN p.job at_)=0:=zCe (by omega) fun k hk=>thL_rng k hk
 have k4:schk (3*(s.nM:Int)) (ownN (3*s.nM) s.calL p.job at_)=0:=by
  rw[<- e3]; exact zCe (by omega) fun k hk=>thL_rng k hk
 have u1:∀ w∈ownW s.c.a s.c.b s.c.c p.pl.x p.pl.y p.pl.z p.pl.p p.pl.q p.pl.r,inU w:=zAx _ _;have u2:∀ w∈linksW s.c.a s.c.b s.c.c p.pl.x p.pl.y p.pl.z p.pl.p p.pl.q p.pl.r p.pl.s p.pl.t p.pl.u,inU w:=zAx _ _;have u3:∀ w∈ownN s.nM s.calN p.job at_,inU w:=zAx _ _;have u4:∀ w∈ownN (3*s.nM) s.calL p.job at_,inU w:=zAx _ _;have w1:zAw (s.nM:Int)=((s.nM:Int)+63) / 64:=by rw[zAw,if_pos (by omega)]
 have w2:zAw (3*(s.nM:Int))=(3*(s.nM:Int)+63) / 64:=by rw[zAw,if_pos (by omega)]
 have l1:(ownW s.c.a s.c.b s.c.c p.pl.x p.pl.y p.pl.z p.pl.p p.pl.q p.pl.r).length=(zAw (s.nM:Int)).toNat:=by unfold ownW; rw[zBr,hmv]
 have l2:(linksW s.c.a s.c.b s.c.c p.pl.x p.pl.y p.pl.z p.pl.p p.pl.q p.pl.r p.pl.s p.pl.t p.pl.u).length=(zAw (3*(s.nM:Int))).toNat:=by unfold linksW; rw[zBr,hmv]
 have l3:(ownN s.nM s.calN p.job at_).length=(zAw (s.nM:Int)).toNat:=zBr _ _;have l4:(ownN (3*s.nM) s.calL p.job at_).length=(zAw (3*(s.nM:Int))).toNat:=by unfold ownN; rw[zBr,e3]
 have hb:=ownN_bit f hi hp hk ho at_;have hc:=ownL_bit f hi hp hk ho at_;have hn:decide (s.now<=at_/\at_ < s.ends p)=true:=zT ⟨h1,h2⟩;rw[hn]at hb hc;refine⟨⟨in_is _ u1 u3 (by omega) (by omega) (by omega) k1 k3 fun m hm=>?_,in_is _ u3 u1 (by omega) (by omega) (by omega) k3 k1 fun m hm=>?_⟩,in_is _ u2 u4 (by omega) (by omega) (by omega) k2 k4 fun m hm=>?_,in_is _ u4 u2 (by omega) (by omega) (by omega) k4 k2 fun m hm=>?_⟩
 ·rw[hb,Bool.and_true,<- own_bit hok]; exact hm
 ·rw[hb,Bool.and_true,<- own_bit hok]at hm; exact hm
 ·rw[hc,Bool.and_true,<- link_bit hok]; exact hm
 ·rw[hc,Bool.and_true,<- link_bit hok]at hm; exact hm
theorem own_none{s:Sta}(f:s.fine){i:Nat}(hi:i < s.parts.length){p:Prt}(hp:s.parts.getD i default=p)(hk:∀ k∈s.keeps,¬k.id=p.job)(ho:1<=p.job) :
  Pur zP GG 23 [I (s.nM:Int),.isl ((ownN s.nM s.calN p.job (s.ends p)).map U)] (.tup [I 0,I 0]) /\
   Pur zP GG 23 [I (3*(s.nM:Int)),.isl ((ownN (3*s.nM) s.calL p.job (s.ends p)).map U)] (.tup [I 0,I 0]):=by
 obtain⟨n1,n2⟩:=nM_rng f;have e3:((3*s.nM:Nat):Int)=3*(s.nM:Int):=by omega
 have k3:schk (s.nM:Int) (ownN s.nM s.calN p.job (s.ends p))=0:=zCe (by omega) fun k hk=>thL_rng k hk
 have k4:schk (3*(s.nM:Int)) (ownN (3*s.nM) s.calL p.job (s.ends p))=0:=by
  rw[<- e3]; exact zCe (by omega) fun k hk=>thL_rng k hk
 have u3:∀ w∈ownN s.nM s.calN p.job (s.ends p),inU w:=zAx _ _;have u4:∀ w∈ownN (3*s.nM) s.calL p.job (s.ends p),inU w:=zAx _ _;have w1:zAw (s.nM:Int)=((s.nM:Int)+63) / 64:=by rw[zAw,if_pos (by omega)]
 have w2:zAw (3*(s.nM:Int))=(3*(s.nM:Int)+63) / 64:=by rw[zAw,if_pos (by omega)]
 have l3:(ownN s.nM s.calN p.job (s.ends p)).length=(zAw (s.nM:Int)).toNat:=zBr _ _;have l4:(ownN (3*s.nM) s.calL p.job (s.ends p)).length=(zAw (3*(s.nM:Int))).toNat:=by unfold ownN; rw[zBr,e3]
 have hb:=ownN_bit f hi hp hk ho (s.ends p);have hc:=ownL_bit f hi hp hk ho (s.ends p);have hn:decide (s.now<=s.ends p/\s.ends p < s.ends p)=false:=zF (by omega);rw[hn]at hb hc;have m1:=smany_ok (s.nM:Int) (ws:=ownN s.nM s.calN p.job (s.ends p)) (by omega) (check_of k3);have m2:=smany_ok (3*(s.nM:Int)) (ws:=ownN (3*s.nM) s.calL p.job (s.ends p)) (by omega) (check_of k4);rw[many_0 u3 (by omega) fun m=>by rw[hb,Bool.and_false]]at m1;rw[many_0 u4 (by omega) fun m=>by rw[hc,Bool.and_false]]at m2;exact⟨m1,m2⟩
theorem e6:Ent zP 6 Tryz.f6 [] 2:=.mk Tryz.func6 rfl
attribute [push_cast] Tryz.f6
theorem owns_no{s:Sta}(h:s.good)(at_:Int)(hb:s.great=true\/(s.great=false/\(at_ < 0\/(s.parts.length:Int)<=at_\/s.okV=false))):Pur zP GG 6 [s.av,I at_] (B true):=by
 have hG:=great_pur h;have hln:=h.ps.len (P:=zP) un28;rw[zM]at hln;have hZ:=h.cell;obtain⟨⟨⟨a1,a2,a3⟩,b1,b2,b3⟩,⟨⟨cc1,cc2,cc3⟩,dd1,dd2,dd3⟩,⟨ee1,ee2,ee3⟩,⟨f1,f2,f3⟩,g1,g2,g3⟩:=h.cell;obtain⟨p1,p2,p3,p4,p5,p6,p7⟩:=h.purs
 rcases hb with hg | ⟨hg,hq⟩
 ·rw[hg]at hG;simp only[Sta.av]at hG;show Pur zP GG 6 [ST s.c.a s.c.b s.c.c s.c.boot s.c.free s.c.tries s.c.age s.cs s.now s.next s.js s.ps s.ks s.ds s.hs s.us,I at_] _;refine goQ e6 TOk.nil 0 ?_ (by simp[AV.purL,AV.pur,p1,p2,p3,p4,p5,p6,p7]);simp(maxSteps:=2000000)only[push_cast,seval,↓kw2,hZ];refine AC.pur alive22 ?_;refine goN ?_;simp(maxSteps:=2000000)only[push_cast,seval,↓kw2,hZ];refine AC.pur hG ?_;refine goN ?_;simp(maxSteps:=2000000)only[push_cast,seval,↓kw2];exact⟨_,rfl,zAa rfl rfl⟩
 ·rw[hg]at hG;have hC:=holdc_pur h (Sta.lim_of hg);simp only[Sta.av]at hG hC;show Pur zP GG 6 [ST s.c.a s.c.b s.c.c s.c.boot s.c.free s.c.tries s.c.age s.cs s.now s.next s.js s.ps s.ks s.ds s.hs s.us,I at_] _;refine goQ e6 TOk.nil 0 ?_ (by simp[AV.purL,AV.pur,p1,p2,p3,p4,p5,p6,p7]);simp(maxSteps:=2000000)only[push_cast,seval,↓kw2,hZ];refine AC.pur alive22 ?_;refine goN ?_;simp(maxSteps:=2000000)only[push_cast,seval,↓kw2,hZ];refine AC.pur hG ?_
  by_cases h0:at_ < 0
  ·have d0:=zT h0;refine goN ?_;simp(maxSteps:=2000000)only[push_cast,seval,↓kw2,d0];exact⟨_,rfl,zAa rfl rfl⟩
  ·have d0:=zF h0
   by_cases h1:(s.parts.length:Int)<=at_
   ·have d1:=zT h1;refine goN ?_;simp(maxSteps:=2000000)only[push_cast,seval,↓kw2,d0,d1,hln,hZ];exact⟨_,rfl,zAa rfl rfl⟩
   ·have d1:=zF h1;have hok:s.okV=false:=by
     rcases hq with q | q | q
     ·exact absurd q h0
     ·exact absurd q h1
     ·exact q
    rw[hok,if_neg (by decide)]at hC;refine goN ?_;simp(maxSteps:=2000000)only[push_cast,seval,↓kw2,d0,d1,hln,hZ];refine AC.pur hC ?_;refine goN ?_;simp(maxSteps:=2000000)only[push_cast,seval,↓kw2];exact⟨_,rfl,zAa rfl rfl⟩
theorem owns_ok{s:Sta}(h:s.good)(hg:s.great=false)(f:s.fine){i:Nat}(hi:i < s.parts.length){p:Prt}(hp:s.parts.getD i default=p):Pur zP GG 6 [s.av,I (i:Int)] (B true):=by
 have hl:=Sta.lim_of hg;have hG:=great_pur h;rw[hg]at hG;have hC:=holdc_pur h hl;rw[okV_iff.2 f,if_pos rfl]at hC;have hln:=h.ps.len (P:=zP) un28;rw[zM]at hln;have hkn:=h.ks.len (P:=zP) un29;rw[zM]at hkn;have hpl:=hl.pl;have hkl:=hl.kl;have hpx:=h.ps.idx (P:=zP) un28 sz70 (i:=(i:Int)) (by rw[zM]; omega) (by omega);rw[Int.toNat_natCast,zAi Prt.av s.parts default hi,hp]at hpx;have hpc:=Prt.cells p;have hbi:(0<=(i:Int)/\(i:Int) < ((s.parts.map Prt.av).length:Int)):=⟨by omega,by rw[zM]; omega⟩;have d0:decide ((i:Int) < 0)=false:=zF (by omega);have d1:decide ((s.parts.length:Int)<=(i:Int))=false:=zF (by omega);have hZ:=h.cell;obtain⟨⟨⟨a1,a2,a3⟩,b1,b2,b3⟩,⟨⟨cc1,cc2,cc3⟩,dd1,dd2,dd3⟩,⟨ee1,ee2,ee3⟩,⟨f1,f2,f3⟩,g1,g2,g3⟩:=h.cell;obtain⟨p1,p2,p3,p4,p5,p6,p7⟩:=h.purs;simp only[Sta.av]at hG hC;show Pur zP GG 6 [ST s.c.a s.c.b s.c.c s.c.boot s.c.free s.c.tries s.c.age s.cs s.now s.next s.js s.ps s.ks s.ds s.hs s.us,I (i:Int)] _;refine goQ e6 TOk.nil 0 ?_ (by simp[AV.purL,AV.pur,p1,p2,p3,p4,p5,p6,p7]);simp(maxSteps:=2000000)only[push_cast,seval,↓kw2,hZ];refine AC.pur alive22 ?_;refine goN ?_;simp(maxSteps:=2000000)only[push_cast,seval,↓kw2,hZ];refine AC.pur hG ?_;refine goN ?_;simp(maxSteps:=2000000)only[push_cast,seval,↓kw2,d0,d1,hln,hZ];refine AC.pur hC ?_;refine goN ?_;simp(maxSteps:=2000000)only[push_cast,seval,↓kw2,d0,d1,hln,hpx,hpc,hZ,zAf,getA,zAl,setA,zAc];refine⟨hbi,?_⟩;refine FW.loopInv (fun m ts H'=>∃ k:Nat,k+m=s.keeps.length/\(∀ q,q < k->¬(s.keeps.getD q default).id=p.job)/\H'[0]?=some (.cells [I s.c.a,I s.c.b,I s.c.c,I s.c.boot,I s.c.free,I s.c.tries,I s.c.age,s.cs,I s.now,I s.next,s.js,s.ps,s.ks,s.ds,s.hs,s.us])/\H'[1]?=some (.cells [I p.job,I p.pl.x,I p.pl.y,I p.pl.z,I p.pl.p,I p.pl.q,I p.pl.r,B p.pl.s,B p.pl.t,B p.pl.u,.c (.int .u8 p.ph),I p.tries,I p.since])/\H'.length=2 /\
   ts 2=.ptr 0 0/\ts 5=B true/\ts 6=.ptr 1 0/\ts 7=I (k:Int)) s.keeps.length ⟨0,by omega,fun q hq=>absurd hq (by omega),rfl,rfl,rfl,rfl,rfl,rfl,rfl⟩ ?_
 rintro m ih ts H' ⟨k,hk,hno,w0,w1,hlen,t2,t5,t6,t7⟩
 refine FW.inLoop ?_
 by_cases hlt:k < s.keeps.length
 ·have e1:decide ((k:Int) < (s.keeps.length:Int))=true:=by simp[hlt]
  have hkx:=h.ks.idx (P:=zP) un29 sz72 (i:=(k:Int)) (by rw[zM]; omega) (by omega);rw[Int.toNat_natCast,zAi Kep.av s.keeps default hlt]at hkx;have hkc:=Kep.cells (s.keeps.getD k default);have hbk:(0<=(k:Int)/\(k:Int) < ((s.keeps.map Kep.av).length:Int)):=⟨by omega,by rw[zM]; omega⟩;have hk1:=zAk (n:=(k:Int)+1) (by omega) (by omega)
  by_cases hq:(s.keeps.getD k default).id=p.job
  ·have e2:decide ((s.keeps.getD k default).id=p.job)=true:=zT hq;refine goN ?_;simp(maxSteps:=2000000)only[push_cast,seval,↓kw2,hZ,t2,t5,t6,t7,w0,w1,hkn,e1,hkx,hkc,e2];exact⟨hbk,_,rfl,zAa rfl rfl⟩
  ·have e2:decide ((s.keeps.getD k default).id=p.job)=false:=zF hq;refine goN ?_;simp(maxSteps:=2000000)only[push_cast,seval,↓kw2,hZ,t2,t5,t6,t7,w0,w1,hkn,e1,hkx,hkc,e2,hk1];refine⟨hbk,ih (m - 1) (by omega) _ _ ⟨k+1,by omega,fun q hq'=>?_,w0,w1,hlen,t2,t5,t6,rfl⟩⟩
   by_cases hqk:q=k
   ·rw[hqk]; exact hq
   ·exact hno q (by omega)
 ·have e1:decide ((k:Int) < (s.keeps.length:Int))=false:=by simp; omega
  refine goN ?_;simp(maxSteps:=2000000)only[push_cast,seval,↓kw2,hZ,t2,t5,t6,t7,w0,w1,hkn,e1];have hkall:∀ q∈s.keeps,¬q.id=p.job:=fun q hq=>by
   obtain⟨n,hn,rfl⟩:=List.getElem_of_mem hq;have:=hno n (by omega)
   rwa [show s.keeps.getD n default=s.keeps[n] by simp[List.getD,hn]]at this
  have hpm:p∈s.parts:=by rw[<- hp,show s.parts.getD i default=s.parts[i] by simp[List.getD,hi]]; exact List.getElem_mem hi
  have hsp:=zEo f.pa p hpm;obtain⟨q1,q2,q3,q4,q5,_⟩:=part_facts hsp;have ho:1<=p.job:=by
   have:=(Cfg.sp_facts q2).1.2;unfold Cfg.part at this;simp only[zA,witV_t]at this;exact this.1.1.1.1.1
  have hle:s.ends p<=1099511627776:=by
   unfold Sta.part at hsp;simp only[zA,Bool.not_eq_true',decide_eq_false_iff_not]at hsp;have:=hsp.1.1.1.1.2;omega
  have hj:s.jobs.getD (findN s.jobs p.job).toNat default=s.jobOf p:=by unfold Sta.jobOf; rw[if_neg q1]
  have hL:=long_pur h hl q1 hj;obtain⟨v1,v2,v3,_⟩:=wide_fine f q1 hj;rw[v1]at hL;have hE:=ends_pur s.c p (s.jobOf p).wall h.cs;rw[if_pos q2,q2,q3]at hE;have hS:=sets_pur s.c.a s.c.b s.c.c p.pl.x p.pl.y p.pl.z p.pl.p p.pl.q p.pl.r p.pl.s p.pl.t p.pl.u q5;have hd:=zFf f;have hM:=many_pur s.c.a s.c.b s.c.c;have hmv:zAd s.c.a s.c.b s.c.c=s.c.a*s.c.b*s.c.c:=by rw[zAd,if_pos hd]
  rw[show chk s.c.a s.c.b s.c.c=0 by rw[chk,if_pos hd],hmv,<- nM_eq f]at hM;have hY:=yard_pur h hl f;have hnow:=fine_now f;have hN:=zFh f s.slots.length s.nM;have hN3:=zFh f s.slots.length (3*s.nM);rw[List.take_length]at hN hN3;have hO:=fun {t:Int} (h0:0<=t) (h1:t < 1099511627776)=>yOwned_pur hd (nM_eq f) (g:=s.calN) (h:=s.calL) hN.1 hN3.2 (o:=p.job) (at_:=t) ho h0 h1
  obtain⟨⟨r1,r2⟩,r3,r4⟩:=own_in f hi hp hkall ho (at_:=s.now) (Int.le_refl _) q4;obtain⟨⟨r5,r6⟩,r7,r8⟩:=own_in f hi hp hkall ho (at_:=s.ends p - 1) (by omega) (by omega);obtain⟨r9,r10⟩:=own_none f hi hp hkall ho;have hO1:=hO (t:=s.now) (by omega) (by omega);have hO2:=hO (t:=s.ends p - 1) (by omega) (by omega);have hO3:=fun hx=>hO (t:=s.ends p) (by omega) hx
  clear hO;obtain⟨nm1,nm2⟩:=nM_rng f;have hm3:=zAk (n:=3*(s.nM:Int)) (by omega) (by omega);have hme:=zAk (n:=s.ends p - 1) (by omega) (by omega);have hjg:(s.jobOf p).good:=Sta.jobOf_good h p;obtain⟨m1,m2,m3⟩:=IsSl.cell hjg;have hjc:=Jb.cells (s.jobOf p);obtain⟨k1,k2,k3⟩:=zBh (rowA s.nM s.calN);obtain⟨j1,j2,j3⟩:=zBh (rowA (3*s.nM) s.calL);have gS:∀(n:Int) (l:List Int),IsSet (.isl ((ofL n l).map U)):=fun n l=>.isl (zAx n l)
  obtain⟨x1,x2,x3⟩:=(gS _ _:IsSet (.isl ((ownW s.c.a s.c.b s.c.c p.pl.x p.pl.y p.pl.z p.pl.p p.pl.q p.pl.r).map U))).cell;obtain⟨y1,y2,y3⟩:=(gS _ _:IsSet (.isl ((linksW s.c.a s.c.b s.c.c p.pl.x p.pl.y p.pl.z p.pl.p p.pl.q p.pl.r p.pl.s p.pl.t p.pl.u).map U))).cell;have zN:=fun t=>(gS _ _:IsSet (.isl ((ownN s.nM s.calN p.job t).map U))).cell
  have zL:=fun t=>(gS _ _:IsSet (.isl ((ownN (3*s.nM) s.calL p.job t).map U))).cell
  obtain⟨xa1,xa2,xa3⟩:=zN s.now;obtain⟨xb1,xb2,xb3⟩:=zN (s.ends p - 1);obtain⟨xc1,xc2,xc3⟩:=zN (s.ends p);obtain⟨ya1,ya2,ya3⟩:=zL s.now;obtain⟨yb1,yb2,yb3⟩:=zL (s.ends p - 1);obtain⟨yc1,yc2,yc3⟩:=zL (s.ends p);clear zN zL gS hN hN3;have hwd0:decide (s.wide (s.jobOf p)=0)=false:=zF (by omega);unfold Sta.yard ydA at hY;unfold ydA at hO1 hO2 hO3;simp only[Sta.av,Cfg.av,Prt.av,Jb.av]at hL hE hY
  generalize AV.isl (rowA s.nM s.calN)=GN at *
  generalize AV.isl (rowA (3*s.nM) s.calL)=GL at *
  generalize AV.isl ((ownW s.c.a s.c.b s.c.c p.pl.x p.pl.y p.pl.z p.pl.p p.pl.q p.pl.r).map U)=S1 at *
  generalize AV.isl ((linksW s.c.a s.c.b s.c.c p.pl.x p.pl.y p.pl.z p.pl.p p.pl.q p.pl.r p.pl.s p.pl.t p.pl.u).map U)=S2 at *
  generalize AV.isl ((ownN s.nM s.calN p.job s.now).map U)=XA at *
  generalize AV.isl ((ownN s.nM s.calN p.job (s.ends p - 1)).map U)=XB at *
  generalize AV.isl ((ownN s.nM s.calN p.job (s.ends p)).map U)=XC at *
  generalize AV.isl ((ownN (3*s.nM) s.calL p.job s.now).map U)=ZA at *
  generalize AV.isl ((ownN (3*s.nM) s.calL p.job (s.ends p - 1)).map U)=ZB at *
  generalize AV.isl ((ownN (3*s.nM) s.calL p.job (s.ends p)).map U)=ZC at *
  generalize s.wide (s.jobOf p)=wd at *
  generalize s.jobOf p=j at *
  have z0:∀ Y,(H'++Y)[0]?=_:=fun Y=>(zL (zAb w0)).trans w0
  have z1:∀ Y,(H'++Y)[1]?=_:=fun Y=>(zL (zAb w1)).trans w1
  refine AC.pur hY ?_;refine goN ?_;simp(maxSteps:=2000000)only[push_cast,seval,↓kw2,hZ,t2,t5,t6,w0,w1,z0,z1,k1,k2,k3,j1,j2,j3,zAf,getA,zAl,setA,List.append_assoc,List.cons_append,List.nil_append,zAc];refine AC.pur hL ?_;refine goN ?_;simp(maxSteps:=2000000)only[push_cast,seval,↓kw2,hZ,t2,t5,t6,w0,w1,z0,z1,k1,k2,k3,j1,j2,j3,m1,m2,m3,hjc,zAf,getA,zAl,setA,List.append_assoc,List.cons_append,List.nil_append,zAc];refine AC.pur hE ?_;refine goN ?_;simp(maxSteps:=2000000)only[push_cast,seval,↓kw2,hZ,t2,t5,t6,w0,w1,z0,z1,k1,k2,k3,j1,j2,j3,m1,m2,m3,hjc,zAf,getA,zAl,setA,List.append_assoc,List.cons_append,List.nil_append,zAc];refine AC.pur hS ?_;refine goN ?_;simp(maxSteps:=2000000)only[push_cast,seval,↓kw2,hZ,t2,t5,t6,w0,w1,z0,z1,x1,x2,x3,y1,y2,y3,zAf,getA,zAl,setA,List.append_assoc,List.cons_append,List.nil_append,zAc];refine AC.pur hM ?_;refine goW TOk.nil [] 2 ?_;simp(maxSteps:=2000000)only[push_cast,seval,↓kw2,hZ,t2,t5,t6,w0,w1,z0,z1,k1,k2,k3,j1,j2,j3,x1,x2,x3,y1,y2,y3,hwd0,hme,zAf,getA,zAl,setA,List.append_assoc,List.cons_append,List.nil_append,zAc];refine AC.pur hO1 ?_;refine goW TOk.nil [] 2 ?_;simp(maxSteps:=2000000)only[push_cast,seval,↓kw2,hZ,t2,t5,t6,w0,w1,z0,z1,k1,k2,k3,j1,j2,j3,x1,x2,x3,y1,y2,y3,xa1,xa2,xa3,xb1,xb2,xb3,xc1,xc2,xc3,ya1,ya2,ya3,yb1,yb2,yb3,yc1,yc2,yc3,hme,hm3,zAf,getA,zAl,setA,List.append_assoc,List.cons_append,List.nil_append,zAc];refine AC.pur r1 ?_;refine goW TOk.nil [] 2 ?_;simp(maxSteps:=2000000)only[push_cast,seval,↓kw2,hZ,t2,t5,t6,w0,w1,z0,z1,k1,k2,k3,j1,j2,j3,x1,x2,x3,y1,y2,y3,xa1,xa2,xa3,xb1,xb2,xb3,xc1,xc2,xc3,ya1,ya2,ya3,yb1,yb2,yb3,yc1,yc2,yc3,hme,hm3,zAf,getA,zAl,setA,List.append_assoc,List.cons_append,List.nil_append,zAc];refine AC.pur r2 ?_;refine goW TOk.nil [] 2 ?_;simp(maxSteps:=2000000)only[push_cast,seval,↓kw2,hZ,t2,t5,t6,w0,w1,z0,z1,k1,k2,k3,j1,j2,j3,x1,x2,x3,y1,y2,y3,xa1,xa2,xa3,xb1,xb2,xb3,xc1,xc2,xc3,ya1,ya2,ya3,yb1,yb2,yb3,yc1,yc2,yc3,hme,hm3,zAf,getA,zAl,setA,List.append_assoc,List.cons_append,List.nil_append,zAc];refine AC.pur r3 ?_;refine goW TOk.nil [] 2 ?_;simp(maxSteps:=2000000)only[push_cast,seval,↓kw2,hZ,t2,t5,t6,w0,w1,z0,z1,k1,k2,k3,j1,j2,j3,x1,x2,x3,y1,y2,y3,xa1,xa2,xa3,xb1,xb2,xb3,xc1,xc2,xc3,ya1,ya2,ya3,yb1,yb2,yb3,yc1,yc2,yc3,hme,hm3,zAf,getA,zAl,setA,List.append_assoc,List.cons_append,List.nil_append,zAc];refine AC.pur r4 ?_;refine goW TOk.nil [] 2 ?_;simp(maxSteps:=2000000)only[push_cast,seval,↓kw2,hZ,t2,t5,t6,w0,w1,z0,z1,k1,k2,k3,j1,j2,j3,x1,x2,x3,y1,y2,y3,xa1,xa2,xa3,xb1,xb2,xb3,xc1,xc2,xc3,ya1,ya2,ya3,yb1,yb2,yb3,yc1,yc2,yc3,hme,hm3,zAf,getA,zAl,setA,List.append_assoc,List.cons_append,List.nil_append,zAc];refine AC.pur hO2 ?_;refine goW TOk.nil [] 2 ?_;simp(maxSteps:=2000000)only[push_cast,seval,↓kw2,hZ,t2,t5,t6,w0,w1,z0,z1,k1,k2,k3,j1,j2,j3,x1,x2,x3,y1,y2,y3,xa1,xa2,xa3,xb1,xb2,xb3,xc1,xc2,xc3,ya1,ya2,ya3,yb1,yb2,yb3,yc1,yc2,yc3,hme,hm3,zAf,getA,zAl,setA,List.append_assoc,List.cons_append,List.nil_append,zAc];refine AC.pur r5 ?_;refine goW TOk.nil [] 2 ?_;simp(maxSteps:=2000000)only[push_cast,seval,↓kw2,hZ,t2,t5,t6,w0,w1,z0,z1,k1,k2,k3,j1,j2,j3,x1,x2,x3,y1,y2,y3,xa1,xa2,xa3,xb1,xb2,xb3,xc1,xc2,xc3,ya1,ya2,ya3,yb1,yb2,yb3,yc1,yc2,yc3,hme,hm3,zAf,getA,zAl,setA,List.append_assoc,List.cons_append,List.nil_append,zAc];refine AC.pur r6 ?_;refine goW TOk.nil [] 2 ?_;simp(maxSteps:=2000000)only[push_cast,seval,↓kw2,hZ,t2,t5,t6,w0,w1,z0,z1,k1,k2,k3,j1,j2,j3,x1,x2,x3,y1,y2,y3,xa1,xa2,xa3,xb1,xb2,xb3,xc1,xc2,xc3,ya1,ya2,ya3,yb1,yb2,yb3,yc1,yc2,yc3,hme,hm3,zAf,getA,zAl,setA,List.append_assoc,List.cons_append,List.nil_append,zAc];refine AC.pur r7 ?_;refine goW TOk.nil [] 2 ?_;simp(maxSteps:=2000000)only[push_cast,seval,↓kw2,hZ,t2,t5,t6,w0,w1,z0,z1,k1,k2,k3,j1,j2,j3,x1,x2,x3,y1,y2,y3,xa1,xa2,xa3,xb1,xb2,xb3,xc1,xc2,xc3,ya1,ya2,ya3,yb1,yb2,yb3,yc1,yc2,yc3,hme,hm3,zAf,getA,zAl,setA,List.append_assoc,List.cons_append,List.nil_append,zAc];refine AC.pur r8 ?_
  by_cases hx:1099511627776<=s.ends p
  ·have dx:=zT hx;refine goW TOk.nil [] 2 ?_;simp(maxSteps:=2000000)only[push_cast,seval,↓kw2,hZ,t2,t5,t6,w0,w1,z0,z1,k1,k2,k3,j1,j2,j3,x1,x2,x3,y1,y2,y3,xa1,xa2,xa3,xb1,xb2,xb3,xc1,xc2,xc3,ya1,ya2,ya3,yb1,yb2,yb3,yc1,yc2,yc3,hme,hm3,zAf,getA,zAl,setA,List.append_assoc,List.cons_append,List.nil_append,zAc,dx];exact⟨_,rfl,zAa rfl rfl⟩
  ·have dx:=zF hx;have hO3':=hO3 (by omega);refine goW TOk.nil [] 2 ?_;simp(maxSteps:=2000000)only[push_cast,seval,↓kw2,hZ,t2,t5,t6,w0,w1,z0,z1,k1,k2,k3,j1,j2,j3,x1,x2,x3,y1,y2,y3,xa1,xa2,xa3,xb1,xb2,xb3,xc1,xc2,xc3,ya1,ya2,ya3,yb1,yb2,yb3,yc1,yc2,yc3,hme,hm3,zAf,getA,zAl,setA,List.append_assoc,List.cons_append,List.nil_append,zAc,dx];refine AC.pur hO3' ?_;refine goW TOk.nil [] 2 ?_;simp(maxSteps:=2000000)only[push_cast,seval,↓kw2,hZ,t2,t5,t6,w0,w1,z0,z1,k1,k2,k3,j1,j2,j3,x1,x2,x3,y1,y2,y3,xa1,xa2,xa3,xb1,xb2,xb3,xc1,xc2,xc3,ya1,ya2,ya3,yb1,yb2,yb3,yc1,yc2,yc3,hme,hm3,zAf,getA,zAl,setA,List.append_assoc,List.cons_append,List.nil_append,zAc];refine AC.pur r9 ?_;refine goW TOk.nil [] 2 ?_;simp(maxSteps:=2000000)only[push_cast,seval,↓kw2,hZ,t2,t5,t6,w0,w1,z0,z1,k1,k2,k3,j1,j2,j3,x1,x2,x3,y1,y2,y3,xa1,xa2,xa3,xb1,xb2,xb3,xc1,xc2,xc3,ya1,ya2,ya3,yb1,yb2,yb3,yc1,yc2,yc3,hme,hm3,zAf,getA,zAl,setA,List.append_assoc,List.cons_append,List.nil_append,zAc];refine AC.pur r10 ?_;refine goW TOk.nil [] 2 ?_;simp(maxSteps:=2000000)only[push_cast,seval,↓kw2,hZ,t2,t5,t6,w0,w1,z0,z1,k1,k2,k3,j1,j2,j3,x1,x2,x3,y1,y2,y3,xa1,xa2,xa3,xb1,xb2,xb3,xc1,xc2,xc3,ya1,ya2,ya3,yb1,yb2,yb3,yc1,yc2,yc3,hme,hm3,zAf,getA,zAl,setA,List.append_assoc,List.cons_append,List.nil_append,zAc];exact⟨_,rfl,zAa rfl rfl⟩
theorem shadowOwns_law{s:Sta}(h:s.good)(at_:Int):Pur zP GG 6 [s.av,I at_] (B true):=by
 cases hg:s.great
 ·by_cases hb:at_ < 0\/(s.parts.length:Int)<=at_\/s.okV=false
  ·exact owns_no h at_ (.inr ⟨hg,hb⟩)
  ·have hok:s.okV=true:=by
    cases hq:s.okV
    ·exact absurd (.inr (.inr hq)) hb
    ·rfl
   have:=owns_ok h hg (okV_iff.1 hok) (i:=at_.toNat) (by omega) (p:=s.parts.getD at_.toNat default) rfl
   rwa [show((at_.toNat:Nat):Int)=at_ by omega]at this
 ·exact owns_no h at_ (.inl hg)
end Go.Ab.Pd
