/- One of the texts that this claim stands on. -/
import Derived.Test.YtnfnhccebebflaaGreatEv50
import Derived.Test.YtnfnhccebebflaaGreatEv45
set_option maxHeartbeats 40000000
set_option maxRecDepth 400000
set_option linter.all false
namespace Go.Ab.Pd
open Go.Proofs
theorem getD_cp(l:List Jb)(i:Nat):(l.map Jb.cp).getD i default=(l.getD i default).cp:=by
 rw[getD_mapcp]
 split
 ·rfl
 ·rename_i h;rw[show l.getD i default=default by simp[List.getD,h]];rfl
theorem isJ_cp(l:List Jb)(id:Int):isJ (l.map Jb.cp) id=isJ l id:=by
 unfold isJ;rw[findN_cp]
theorem chkL_cp(x:Cfg):∀ l:List Jb,chkL x (l.map Jb.cp)=chkL x l
 | []=>rfl
 | j::l=>by
  show(if j.cp.chk x=0 then chkL x (l.map Jb.cp) else j.cp.chk x)=(if j.chk x=0 then chkL x l else j.chk x);rw[chkL_cp x l,show j.cp.chk x=j.chk x from rfl]
theorem risN_cp(l:List Jb):∀ n,risN (l.map Jb.cp) n=risN l n
 | 0=>rfl
 | n+1=>by
  unfold risN;rw[risN_cp l n,getD_cp,getD_cp];rfl
theorem oddT_cp(l:List Jb)(j:Jb):oddT (l.map Jb.cp) j.cp=oddT l j:=by
 unfold oddT;simp only[isJ_cp];rfl
theorem tblE_cp(x:Cfg)(l:List Jb):tblE x (l.map Jb.cp)=tblE x l:=by
 unfold tblE;rw[List.length_map,chkL_cp,risN_cp,List.any_map,show oddT (l.map Jb.cp) ∘ Jb.cp=oddT l from funext fun j=>oddT_cp l j]
theorem stM_cp(l:List Jb):stM (l.map Jb.cp)=stM l:=by
 unfold stM;rw[List.foldl_map];rfl
theorem settle_cp:∀(l:List Jb) (M:MS Int),zAy M (l.map Jb.cp)=(zAy M l).map Jb.cp
 | [],_=>rfl
 | j::l,M=>by
  show(if zFl M j.cp=true then j.cp.off::zAy (putM M j.cp.id 5) (l.map Jb.cp) else j.cp::zAy M (l.map Jb.cp))=(if zFl M j=true then j.off::zAy (putM M j.id 5) l else j::zAy M l).map Jb.cp;rw[show zFl M j.cp=zFl M j from rfl]
  split
  ·rw[settle_cp l]; rfl
  ·rw[settle_cp l]; rfl
theorem sameJ_cp2:∀(l k:List Jb),sameJ (l.map Jb.cp) (k.map Jb.cp)=sameJ l k
 | [],[]=>rfl
 | [],_::_=>rfl
 | _::_,[]=>rfl
 | x::l,y::k=>by
  show(x.cp.same y.cp&&sameJ (l.map Jb.cp) (k.map Jb.cp))=(x.same y&&sameJ l k);rw[sameJ_cp2 l k];rfl
theorem jobsV_cp(x:Cfg)(l:List Jb)(now next:Int):zFs x (l.map Jb.cp) now next=zFs x l now next:=by
 unfold zFs;rw[tblE_cp,stM_cp,settle_cp,sameJ_cp2,List.length_map];simp only[getD_cp];rfl
theorem jobOf_cp(s:Sta)(p:Prt):s.cp.jobOf p=(s.jobOf p).cp:=by
 show(if zBl (s.jobs.map Jb.cp) p.job < 0 then default else (s.jobs.map Jb.cp).getD (zBl (s.jobs.map Jb.cp) p.job).toNat default)=(if zBl s.jobs p.job < 0 then default else s.jobs.getD (zBl s.jobs p.job).toNat default).cp;rw[findN_cp]
 split
 ·rfl
 ·rw[getD_cp]
theorem isJob_cp(s:Sta)(p:Prt):s.cp.isJob p=s.isJob p:=by
 show decide (0≤zBl (s.jobs.map Jb.cp) p.job)=decide (0≤zBl s.jobs p.job);rw[findN_cp]
theorem ends_cp(s:Sta)(p:Prt):s.cp.ends p=s.ends p:=by
 unfold Sta.ends;rw[jobOf_cp];rfl
theorem part_cp(s:Sta)(p:Prt):s.cp.part p=s.part p:=by
 unfold Sta.part;rw[jobOf_cp,isJob_cp,ends_cp];rfl
theorem partsV_cp(s:Sta):s.cp.partsV=s.partsV:=by
 unfold Sta.partsV;have h1:∀ i,s.cp.odd1 i=s.odd1 i:=fun i=>by
  unfold Sta.odd1;rw[part_cp];rfl
 have h2:∀ i,s.cp.odd2 i=s.odd2 i:=fun i=>rfl
 simp only[h1,h2];rfl
theorem startG_cp(cls:List Cls)(P:Int→Bool):∀(l:List Jb) (M:MS (Int × Int)),zDe cls P M (l.map Jb.cp)=zDe cls P M l
 | [],_=>rfl
 | j::l,M=>by
  show(if j.cp.st=2 then !(decide ((cls.getD j.cp.cls.toNat default).d < IntKind.i64.wrap (getM M (j.cp.user,j.cp.cls)+1))||!P j.cp.id)&&zDe cls P (putM M (j.cp.user,j.cp.cls) (IntKind.i64.wrap (getM M (j.cp.user,j.cp.cls)+1))) (l.map Jb.cp) else zDe cls P M (l.map Jb.cp))=_;rw[startG_cp cls P l,startG_cp cls P l];rfl
theorem taken_cp(s:Sta)(l:List Kep)(b:Bx6)(fr till:Int):s.cp.taken l b fr till=s.taken l b fr till:=by
 unfold Sta.taken;have h2:∀ p,tk2 s.cp b fr till p=tk2 s b fr till p:=fun p=>by
  unfold tk2;rw[ends_cp];rfl
 simp only[h2];rfl
theorem keepsV_cp(s:Sta):s.cp.keepsV=s.keepsV:=by
 unfold Sta.keepsV;have h1:∀ k la i,s.cp.okK k la i=s.okK k la i:=fun k la i=>by
  unfold Sta.okK;rw[taken_cp];rfl
 simp only[h1];rfl
theorem okV_cp(s:Sta):s.cp.okV=s.okV:=by
 unfold Sta.okV;rw[show zFs s.cp.c s.cp.jobs s.cp.now s.cp.next=zFs s.c s.jobs s.now s.next from jobsV_cp s.c s.jobs s.now s.next,partsV_cp,keepsV_cp,show zDe s.cp.c.cls (zCf s.cp.parts) ([],0) s.cp.jobs=zDe s.c.cls (zCf s.parts) ([],0) s.jobs from startG_cp _ _ _ _];rfl
theorem same_cpL(s o:Sta):s.cp.same o=s.same o:=by
 unfold Sta.same;rw[show s.cp.two o=s.two o by
  unfold Sta.two;rw[show sameJ s.cp.jobs o.jobs=sameJ s.jobs o.jobs from sameJ_cp _ _];rfl]
 rfl
theorem same_cpS(s:Sta):s.cp.same s=true:=by
 rw[same_cpL];unfold Sta.same Sta.one Sta.two;simp[sameJ_refl]
theorem lim_cp{s:Sta}(h:s.lim):s.cp.lim:=⟨by show(s.jobs.map Jb.cp).length≤_; rw[List.length_map]; exact h.jl,h.pl,h.kl,h.dl,h.hl,h.ul⟩
theorem lim2_cp{s:Sta}(h:s.lim2):s.cp.lim2:=⟨h.cl,by show(s.jobs.map Jb.cp).length≤_; rw[List.length_map]; exact h.jl,h.pl,h.kl,h.dl,h.hl,h.ul,fun j hj=>by
 obtain⟨x,hx,rfl⟩:=List.mem_map.1 hj;exact h.al x hx⟩
theorem e17:Ent Tryz.prog 17 Tryz.f17 [] 2:=.mk Tryz.func17 rfl
attribute [push_cast] Tryz.f17
theorem over21{s:AV}{l:List Kep}(hs:IsSl s (l.map Kep.av))(hl:l.length≤2^16)(now:Int):Pur Tryz.prog GG 17 [s,I now] (frS ((l.filter fun k=>!decide (k.till≤now)).map Kep.av)):=by
 have hpu:=hs.pur (zAd Kep.av _ (fun _=>rfl));have hlen:=hs.len (P:=Tryz.prog) un55;rw[List.length_map]at hlen;have hidx:=fun(i:Nat) (hi:i < l.length) (H:List AO)=>hs.idx (P:=Tryz.prog) un55 sz68 (i:=(i:Int)) (by rw[List.length_map]; omega) (by omega) H
 refine goQ e17 TOk.nil 0 ?_ (by simp[AV.purL,AV.pur,hpu]);simp only[push_cast,seval,↓kw2];refine FW.loopInv (fun n ts H=>∃(i:Nat) (o:AV),i+n=l.length∧OwnK 9 H o (((l.take i).filter fun k=>!decide (k.till≤now)).map Kep.av)∧ts 0=s∧ts 1=I now∧ts 5=o∧ts 6=I (i:Int)) l.length
  ⟨0,_,by omega,.nil,rfl,rfl,rfl,rfl⟩ ?_
 rintro n ih ts H ⟨i,o,hi,hown,t0,t1,t5,t6⟩
 refine FW.inLoop ?_;have w2:=zAg (n:=(i:Int)+1) (by omega) (by omega)
 by_cases hlt:i < l.length
 ·have d1:decide ((i:Int) < (l.length:Int))=true:=decide_eq_true (by omega);have hx:=hidx i hlt;simp only[Int.toNat_natCast]at hx;rw[zAc Kep.av l default hlt]at hx;have htk:=zAo default hlt;have hfl:((l.take i).filter fun k=>!decide (k.till≤now)).length≤l.length:=Nat.le_trans (List.length_filter_le _ _) (by rw[List.length_take]; omega)
  generalize l.getD i default=k at hx htk
  have hcy:=Kep.cells k;have hbb:(0≤(i:Int)∧(i:Int) < ((l.map Kep.av).length:Int)):=⟨by omega,by rw[List.length_map]; omega⟩
  by_cases hk:now < k.till
  ·have d2:=decide_eq_true hk;have hap:=fun v=>aAppK (P:=Tryz.prog) (k:=9) un55 un55 ze68 rfl by68 hown v
   have hown3:=apHk_own (k:=9) (H:=H) (s:=o) (es:=((l.take i).filter fun k=>!decide (k.till≤now)).map Kep.av) (v:=k.av);refine goN ?_;simp only[push_cast,seval,↓kw2,t0,t1,t5,t6,hlen,d1,hx,hcy,d2,gt_iff_lt,hap,w2]
   repeat (first | refine⟨hbb,?_⟩ | refine⟨zEw (by rw[List.length_map]; omega) (by decide),?_⟩)
   exact ih (n - 1) (by omega) _ _ ⟨i+1,_,by omega,by rw[htk,List.filter_append,List.map_append,show([k].filter fun k=>!decide (k.till≤now))=[k] by simp[hk]]; exact hown3,t0,t1,rfl,rfl⟩
  ·have d2:=decide_eq_false hk;refine goN ?_;simp only[push_cast,seval,↓kw2,t0,t1,t5,t6,hlen,d1,hx,hcy,d2,gt_iff_lt,w2]
   repeat (first | refine⟨hbb,?_⟩)
   exact ih (n - 1) (by omega) _ _ ⟨i+1,o,by omega,by rw[htk,List.filter_append,show([k].filter fun k=>!decide (k.till≤now))=[] by simp; omega,List.append_nil]; exact hown,t0,t1,t5,rfl⟩
 ·have d1:decide ((i:Int) < (l.length:Int))=false:=decide_eq_false (by omega);rw[List.take_of_length_le (by omega)]at hown;refine goN ?_;simp only[push_cast,seval,↓kw2,t0,t1,t5,t6,hlen,d1];exact⟨_,rfl,⟨2,zEo hown (zAd Kep.av _ fun _=>rfl)⟩⟩
theorem twinJ2_ac{l:List Jb}{s:AV}(hs:JobsS s l)(hl:l.length≤2^16)(ha:∀ j∈l,j.after.length≤2^16){H:List AO}{K:AV→List AO→Prop}(hK:∀ r X,LiveS 16 (H++X) s r (l.map Jb.av)→(∀ i,zAp r=some i→H.length≤i)→K r (H++X)) :
  AC Tryz.prog GG 69 [s] H K:=by
 obtain⟨n1,n2,n3⟩:=hs.1.cell;refine goE e69 TOk.nil 0 ?_;simp only[push_cast,seval,↓kw2,n1,n2,n3];refine cloneJ_ac hs.1 hl ?_
 intro r X hr hq0
 generalize hes:l.map Jb.av=es at hr hK
 cases hr with
 | nil =>
  refine goW TOk.nil [] 1 ?_;simp only[push_cast,seval,↓kw2];exact⟨_,rfl,by simpa using hK _ X .nil (fun i h=>by cases h)⟩
 | zs =>
  refine goW TOk.nil [] 1 ?_;simp only[push_cast,seval,↓kw2];exact⟨_,rfl,by simpa using hK _ X .zs (fun i h=>by cases h)⟩
 | row hid h0 =>
  rename_i id;have hel:es.length=l.length:=by rw[← hes,List.length_map]
  refine goN ?_;simp only[push_cast,seval,↓kw2];refine FW.loopInv (fun m ts H'=>∃ i:Nat,i+m=es.length∧H'=H++X∧ts 0=.sl id 0 es.length es.length∧ts 7=I (es.length:Int)∧ts 8=I (i:Int)) es.length ⟨0,by omega,rfl,rfl,rfl,rfl⟩ ?_
  rintro m ih ts H' ⟨i,hi,rfl,t0,t7,t8⟩
  refine FW.inLoop ?_
  by_cases hlt:i < es.length
  ·have hd1:decide ((i:Int) < (es.length:Int))=true:=by simp[hlt]
   have hgy:es.getD i .un=(l.getD i default).av:=by rw[← hes]; exact zAc Jb.av l default (by omega)
   have hg:=hs.get i;have hal:(l.getD i default).after.length≤2^16:=ha _ (by
    rw[show l.getD i default=l[i]'(by omega) by simp[List.getD,show i < l.length by omega]];exact List.getElem_mem _)
   generalize l.getD i default=j at hgy hg hal
   have hcx:=Jb.cells j;obtain⟨m1,m2,m3⟩:=IsSl.cell hg;have hi1:=zAg (n:=(i:Int)+1) (by omega) (by omega);have hset:=set_getD (d:=.un) hlt hgy;have hset2:=set_id hid;simp only[Jb.av]at hgy hcx hset;refine goN ?_;simp only[push_cast,seval,↓kw2,t0,t7,t8,hd1,hid,hgy,hcx,m1,m2,m3,Int.toNat_natCast,hlt];refine⟨⟨by omega,by omega⟩,AC.pur (cloneI_pur hg hal (zAd IA _ (fun _=>rfl))) ?_⟩;refine goN ?_;simp only[push_cast,seval,↓kw2,t0,t7,t8,hd1,hid,hgy,hcx,m1,m2,m3,Int.toNat_natCast,hlt,hset,hset2,hi1];exact⟨⟨by omega,by omega⟩,ih (m - 1) (by omega) _ _ ⟨i+1,by omega,rfl,t0,t7,rfl⟩⟩
  ·have hd1:decide ((i:Int) < (es.length:Int))=false:=by simp; omega
   refine goN ?_;simp only[push_cast,seval,↓kw2,t0,t7,t8,hd1];exact⟨_,rfl,hK _ _ (.row hid h0) hq0⟩
theorem entTA:Ent Tryz.prog 22 Tryz.f22 [1,2,3] 1:=.mk e22.hf rfl
def impT1:Nat→Bool:=fun i=>i==3||i==6
def ordT1:List (Nat × Bool):=[(0,true),(1,true),(2,true),(4,true),(5,true),(3,false),(7,true),(8,true),(6,false),(9,false),(10,true),(11,false)]
def impT2:Nat→Bool:=fun i=>i==2||i==5
def ordT2:List (Nat × Bool):=[(0,true),(1,true),(3,true),(4,true),(2,false),(6,true),(5,false),(7,false),(8,true),(9,false)]
def impT3:Nat→Bool:=fun i=>i==2||(i==5||i==8)
def ordT3:List (Nat × Bool):=[(0,true),(1,true),(3,true),(4,true),(6,true),(7,true),(2,false),(9,true),(5,false),(8,false),(10,false),(11,true),(12,false),(13,true),(14,false)]
theorem LiveS.mv{k:Nat}{H X R:List AO}{a b a' b':AO}{s r:AV}{l:List AV}(h:LiveS k (H++a::b::X) s r l)(lo:∀ i,zAp r=some i→H.length+2≤i):LiveS k (H++a'::b'::(X++R)) s r l:=h.keep fun i hi=>by
 have q1:=lo i hi;have q2:=h.lt i hi;simp only[List.length_append,List.length_cons]at q2;obtain⟨j,rfl⟩:∃ j,i=H.length+(j+2):=⟨i - H.length - 2,by omega⟩;rw[getA,getA,List.getElem?_cons_succ,List.getElem?_cons_succ,List.getElem?_cons_succ,List.getElem?_cons_succ,List.getElem?_append_left (by omega)]
def Rng(r:AV)(a b:Nat):Prop:=∀ i,zAp r=some i→a≤i∧i < b
theorem twinA_ac{s:Sta}(h:s.good)(hl:s.lim2){H:List AO}{K:AV→List AO→Prop}
  (hK:∀ rc rj rp rk rd rh ru X n1 n2 n3 n4 n5 n6 n7,LiveS 4 (H++X) s.cs rc (s.c.cls.map Cls.av)→LiveS 16 (H++X) s.js rj (s.jobs.map Jb.av)→LiveS 13 (H++X) s.ps rp (s.parts.map Prt.av)→LiveS 9 (H++X) s.ks rk (s.keeps.map Kep.av)→LiveS 1 (H++X) s.ds rd (s.down.map IA)→LiveS 1 (H++X) s.hs rh (s.shut.map IA)→LiveS 1 (H++X) s.us ru (s.cut.map IA) →
   H.length≤n1→Rng rc n1 n2→Rng rj n2 n3→Rng rp n3 n4→Rng rk n4 n5→Rng rd n5 n6→Rng rh n6 n7→Rng ru n7 (H++X).length→n1≤n2∧n2≤n3∧n3≤n4∧n4≤n5∧n5≤n6∧n6≤n7∧n7≤(H++X).length→K (ST s.c.a s.c.b s.c.c s.c.boot s.c.free s.c.tries s.c.age rc s.now s.next rj rp rk rd rh ru) (H++X)) :
  AC Tryz.prog GG 22 [s.av] H K:=by
 have hZ:=h.cell;obtain⟨⟨⟨a1,a2,a3⟩,b1,b2,b3⟩,⟨⟨c1,c2,c3⟩,d1,d2,d3⟩,⟨e1,e2,e3⟩,⟨f1,f2,f3⟩,g1,g2,g3⟩:=h.cell;obtain⟨p1,p2,p3,p4,p5,p6,p7⟩:=h.purs;obtain⟨l1,l2,l3,l4,l5,l6,l7,l8⟩:=hl;show AC Tryz.prog GG 22 [ST s.c.a s.c.b s.c.c s.c.boot s.c.free s.c.tries s.c.age s.cs s.now s.next s.js s.ps s.ks s.ds s.hs s.us] H K;refine goE entTA TOk.nil 0 ?_;simp only[push_cast,seval,↓kw2,hZ,zAf,getA,zAh,setA,zAb,List.contains_cons,Bool.true_or,Bool.or_true,Bool.false_or,Bool.or_false,Bool.or_self];refine FW.walkG hmix (imp:=impT1) (l:=ordT1) (by kernel_rfl) (by kernel_rfl) ?_;simp only[ordT1];simp only[push_cast,seval,↓kw2,zCu,zCt,zBi,↓zBh,impT1,impT2,impT3,Nat.add_assoc,zBt,zEh,wat,clOf,hZ,zAf,getA,zAh,setA,zAb,List.contains_cons,Bool.true_or,Bool.or_true,Bool.false_or,Bool.or_false,Bool.or_self];refine cloneC_ac h.cs (by omega) ?_
 intro rc X1 hc hc0
 obtain⟨u1,u2,u3⟩:=hc.cell;simp only[push_cast,seval,↓kw2,zCu,zCt,zBi,↓zBh,impT1,impT2,impT3,Nat.add_assoc,zBt,zEh,wat,clOf,hZ,zAf,getA,zAh,setA,zAb,List.contains_cons,Bool.true_or,Bool.or_true,Bool.false_or,Bool.or_false,Bool.or_self,u1,u2,u3];refine twinJ2_ac h.js (by omega) (fun j hj=>by have:=l8 j hj; omega) ?_
 intro rj X2 hj hj0
 obtain⟨v1,v2,v3⟩:=hj.cell;simp only[push_cast,seval,↓kw2,zCu,zCt,zBi,↓zBh,impT1,impT2,impT3,Nat.add_assoc,zBt,zEh,wat,clOf,hZ,zAf,getA,zAh,setA,zAb,List.contains_cons,Bool.true_or,Bool.or_true,Bool.false_or,Bool.or_false,Bool.or_self,u1,u2,u3,v1,v2,v3];refine goW TOk.nil [1,2,3] 0 ?_;simp only[push_cast,seval,↓kw2,zCu,zCt,zBi,↓zBh,impT1,impT2,impT3,Nat.add_assoc,zBt,zEh,wat,clOf,hZ,zAf,getA,zAh,setA,zAb,List.contains_cons,Bool.true_or,Bool.or_true,Bool.false_or,Bool.or_false,Bool.or_self,u1,u2,u3,v1,v2,v3];refine FW.walkG hmix (imp:=impT2) (l:=ordT2) (by kernel_rfl) (by kernel_rfl) ?_;simp only[ordT2];simp only[push_cast,seval,↓kw2,zCu,zCt,zBi,↓zBh,impT1,impT2,impT3,Nat.add_assoc,zBt,zEh,wat,clOf,hZ,zAf,getA,zAh,setA,zAb,List.contains_cons,Bool.true_or,Bool.or_true,Bool.false_or,Bool.or_false,Bool.or_self,u1,u2,u3,v1,v2,v3];refine cloneP_ac h.ps (by omega) ?_
 intro rp X3 hp hp0
 obtain⟨o1,o2,o3⟩:=hp.cell;simp only[push_cast,seval,↓kw2,zCu,zCt,zBi,↓zBh,impT1,impT2,impT3,Nat.add_assoc,zBt,zEh,wat,clOf,hZ,zAf,getA,zAh,setA,zAb,List.contains_cons,Bool.true_or,Bool.or_true,Bool.false_or,Bool.or_false,Bool.or_self,u1,u2,u3,v1,v2,v3,o1,o2,o3];refine cloneK_ac h.ks (by omega) ?_
 intro rk X4 hk hk0
 obtain⟨r1,r2,r3⟩:=hk.cell;simp only[push_cast,seval,↓kw2,zCu,zCt,zBi,↓zBh,impT1,impT2,impT3,Nat.add_assoc,zBt,zEh,wat,clOf,hZ,zAf,getA,zAh,setA,zAb,List.contains_cons,Bool.true_or,Bool.or_true,Bool.false_or,Bool.or_false,Bool.or_self,u1,u2,u3,v1,v2,v3,o1,o2,o3,r1,r2,r3];refine goW TOk.nil [1,2,3] 0 ?_;simp only[push_cast,seval,↓kw2,zCu,zCt,zBi,↓zBh,impT1,impT2,impT3,Nat.add_assoc,zBt,zEh,wat,clOf,hZ,zAf,getA,zAh,setA,zAb,List.contains_cons,Bool.true_or,Bool.or_true,Bool.false_or,Bool.or_false,Bool.or_self,u1,u2,u3,v1,v2,v3,o1,o2,o3,r1,r2,r3];refine FW.walkG hmix (imp:=impT3) (l:=ordT3) (by kernel_rfl) (by kernel_rfl) ?_;simp only[ordT3];simp only[push_cast,seval,↓kw2,zCu,zCt,zBi,↓zBh,impT1,impT2,impT3,Nat.add_assoc,zBt,zEh,wat,clOf,hZ,zAf,getA,zAh,setA,zAb,List.contains_cons,Bool.true_or,Bool.or_true,Bool.false_or,Bool.or_false,Bool.or_self,u1,u2,u3,v1,v2,v3,o1,o2,o3,r1,r2,r3];refine cloneI_ac h.ds (by omega) ?_
 intro rd X5 hd hd0
 obtain⟨x1,x2,x3⟩:=hd.cell;simp only[push_cast,seval,↓kw2,zCu,zCt,zBi,↓zBh,impT1,impT2,impT3,Nat.add_assoc,zBt,zEh,wat,clOf,hZ,zAf,getA,zAh,setA,zAb,List.contains_cons,Bool.true_or,Bool.or_true,Bool.false_or,Bool.or_false,Bool.or_self,u1,u2,u3,v1,v2,v3,o1,o2,o3,r1,r2,r3,x1,x2,x3];refine cloneI_ac h.hs (by omega) ?_
 intro rh X6 hh hh0
 obtain⟨y1,y2,y3⟩:=hh.cell;simp only[push_cast,seval,↓kw2,zCu,zCt,zBi,↓zBh,impT1,impT2,impT3,Nat.add_assoc,zBt,zEh,wat,clOf,hZ,zAf,getA,zAh,setA,zAb,List.contains_cons,Bool.true_or,Bool.or_true,Bool.false_or,Bool.or_false,Bool.or_self,u1,u2,u3,v1,v2,v3,o1,o2,o3,r1,r2,r3,x1,x2,x3,y1,y2,y3];refine cloneI_ac h.us (by omega) ?_
 intro ru X7 hu hu0
 obtain⟨z1,z2,z3⟩:=hu.cell;simp only[push_cast,seval,↓kw2,zCu,zCt,zBi,↓zBh,impT1,impT2,impT3,Nat.add_assoc,zBt,zEh,wat,clOf,hZ,zAf,getA,zAh,setA,zAb,List.contains_cons,Bool.true_or,Bool.or_true,Bool.false_or,Bool.or_false,Bool.or_self,u1,u2,u3,v1,v2,v3,o1,o2,o3,r1,r2,r3,x1,x2,x3,y1,y2,y3,z1,z2,z3];refine goW TOk.nil [1,2,3] 0 ?_;simp only[push_cast,seval,↓kw2,zCu,zCt,zBi,↓zBh,impT1,impT2,impT3,Nat.add_assoc,zBt,zEh,wat,clOf,hZ,zAf,getA,zAh,setA,zAb,List.contains_cons,Bool.true_or,Bool.or_true,Bool.false_or,Bool.or_false,Bool.or_self,u1,u2,u3,v1,v2,v3,o1,o2,o3,r1,r2,r3,x1,x2,x3,y1,y2,y3,z1,z2,z3];simp only[List.append_assoc,List.cons_append,List.nil_append]at hc hj hp hk hd hh hu;simp only[List.length_append,List.length_cons,List.length_nil]at hc0 hj0 hp0 hk0 hd0 hh0 hu0;have tc:=hc.lt;have tj:=hj.lt;have tp:=hp.lt;have tk:=hk.lt;have td:=hd.lt;have th:=hh.lt;have tu:=hu.lt;simp only[List.length_append,List.length_cons]at tc tj tp tk td th tu;have ec:=fun i hi=>And.intro (hc0 i hi) (tc i hi)
 have ej:=fun i hi=>And.intro (hj0 i hi) (tj i hi)
 have ep:=fun i hi=>And.intro (hp0 i hi) (tp i hi)
 have ek:=fun i hi=>And.intro (hk0 i hi) (tk i hi)
 have ed:=fun i hi=>And.intro (hd0 i hi) (td i hi)
 have eh:=fun i hi=>And.intro (hh0 i hi) (th i hi)
 have eu:=fun i hi=>And.intro (hu0 i hi) (tu i hi)
 have mc:=fun a b=>hc.mv (a':=a) (b':=b) (R:=(X2++(X3++(X4++(X5++(X6++X7)))))) (fun i hi=>by have:=ec i hi; omega)
 have mj:=fun a b=>hj.mv (a':=a) (b':=b) (R:=(X3++(X4++(X5++(X6++X7))))) (fun i hi=>by have:=ej i hi; omega)
 have mp:=fun a b=>hp.mv (a':=a) (b':=b) (R:=(X4++(X5++(X6++X7)))) (fun i hi=>by have:=ep i hi; omega)
 have mk:=fun a b=>hk.mv (a':=a) (b':=b) (R:=(X5++(X6++X7))) (fun i hi=>by have:=ek i hi; omega)
 have md:=fun a b=>hd.mv (a':=a) (b':=b) (R:=(X6++X7)) (fun i hi=>by have:=ed i hi; omega)
 have mh:=fun a b=>hh.mv (a':=a) (b':=b) (R:=X7) (fun i hi=>by have:=eh i hi; omega)
 have mu:=fun a b=>hu.mv (a':=a) (b':=b) (R:=[]) (fun i hi=>by have:=eu i hi; omega)
 simp only[List.append_assoc,List.append_nil]at mc mj mp mk md mh mu;refine⟨_,rfl,?_⟩;refine hK rc rj rp rk rd rh ru _ (H.length+2) (H.length+2+X1.length) (H.length+2+X1.length+X2.length) (H.length+2+X1.length+X2.length+X3.length) (H.length+2+X1.length+X2.length+X3.length+X4.length) (H.length+2+X1.length+X2.length+X3.length+X4.length+X5.length) (H.length+2+X1.length+X2.length+X3.length+X4.length+X5.length+X6.length) (mc _ _) (mj _ _) (mp _ _) (mk _ _) (md _ _) (mh _ _) (mu _ _) (by omega) ?_ ?_ ?_ ?_ ?_ ?_ ?_ ?_
 ·intro i hi
  have:=ec i hi;omega
 ·intro i hi
  have:=ej i hi;omega
 ·intro i hi
  have:=ep i hi;omega
 ·intro i hi
  have:=ek i hi;omega
 ·intro i hi
  have:=ed i hi;omega
 ·intro i hi
  have:=eh i hi;omega
 ·intro i hi
  have:=eu i hi;simp only[List.length_append,List.length_cons];omega
 ·simp only[List.length_append,List.length_cons];omega
inductive LiveR(k:Nat)(H:List AO):AV→List AV→Prop
 | nil:LiveR k H (.c (.slice none 0 0)) []
 | zs:LiveR k H .zs []
 | row {id:Nat} {l:List AV} (h:H[id]?=some (.arr k l)) (h0:0 < l.length):LiveR k H (.sl id 0 l.length l.length) l
theorem LiveS.toR{k:Nat}{H:List AO}{s r:AV}{l:List AV}(h:LiveS k H s r l):LiveR k H r l:=by
 cases h with
 | nil=>exact .nil
 | zs=>exact .zs
 | row h h0=>exact .row h h0
theorem LiveR.keep{k:Nat}{H H':List AO}{r:AV}{l:List AV}(h:LiveR k H r l)(hk:∀ i,zAp r=some i→H'[i]?=H[i]?):LiveR k H' r l:=by
 cases h with
 | nil=>exact .nil
 | zs=>exact .zs
 | row h h0=>exact .row ((hk _ rfl).trans h) h0
theorem LiveR.lt{k:Nat}{H:List AO}{r:AV}{l:List AV}(h:LiveR k H r l):∀ i,zAp r=some i→i < H.length:=by
 intro i hi
 cases h with
 | nil=>cases hi
 | zs=>cases hi
 | row h h0=>cases hi; exact zAe h
theorem LiveR.cell{k:Nat}{H:List AO}{r:AV}{l:List AV}(h:LiveR k H r l):r.isCell=true∧r.isEl=true∧r.cells=[r]:=by
 cases h <;> exact⟨rfl,rfl,rfl⟩
theorem LiveR.len{k:Nat}{t e:TypeId}(hu:Tryz.prog.underlying t=some (.slice e)){H:List AO}{r:AV}{l:List AV}(h:LiveR k H r l):aLen Tryz.prog t r=some (l.length:Int):=by
 cases h with
 | nil=>unfold aLen; simp only[hu]; rfl
 | zs=>unfold aLen; simp only[hu]; rfl
 | row h h0=>unfold aLen; simp only[hu]
theorem overL_ac{l:List Kep}{ks:AV}(hs:IsSl ks (l.map Kep.av))(hl:l.length≤2^16)(now:Int){H:List AO}{K:AV→List AO→Prop}
  (hK:∀ r H',SegK H' r (l.filter fun k=>!decide (k.till≤now))→(∀ q,q < H.length→H'[q]?=H[q]?)→(∀ i,zAp r=some i→H.length≤i)→K r H'):AC Tryz.prog GG 16 [ks,I now] H K:=by
 obtain⟨k1,k2,k3⟩:=hs.cell;refine goE e16 TOk.nil 0 ?_;simp only[push_cast,seval,↓kw2,k1,k2,k3,zAf,getA,zAh,setA];refine cloneK_ac hs hl ?_
 intro r X hr hi
 rw[List.append_assoc]at hr;simp only[List.cons_append,List.nil_append]at hr;simp only[List.length_append,List.length_cons,List.length_nil]at hi;have hn:∀ q,q≤H.length→zAp r≠some q:=fun q hq e=>by have:=hi q e; omega
 refine goN ?_;simp only[push_cast,seval,↓kw2,k1,k2,k3,zAf,getA,zAh,setA];refine deleteK hr.segK (by omega) (predK (q:=H.length) (n:=now) (fun k=>over1_pur k now) (by rw[zAf]; rfl) (hn _ (Nat.le_refl _))) ?_
 intro H' s' hsg hsm hfr
 refine goN ?_;simp only[push_cast,seval,↓kw2];refine⟨_,rfl,hK _ _ hsg (fun q hq=>?_) (fun i he=>?_)⟩
 ·rw[hfr q (by simp; omega) (hn q (by omega)),List.getElem?_append_left hq]
 ·rcases hsm with ⟨_,rfl⟩ | ⟨_,rfl⟩ | ⟨id,n,cap,n',cap',h1,rfl⟩
  ·cases he
  ·cases he
  ·cases he;have:=hi _ (by rw[h1]; rfl);omega
theorem e4:Ent Tryz.prog 4 Tryz.f4 [] 3:=.mk Tryz.func4 rfl
attribute [push_cast] Tryz.f4
theorem holdTells_law{s o:Sta}(h:s.good)(ho:o.good)(now:Int):Pur Tryz.prog GG 4 [s.av,o.av,I now] (B true):=by
 have hZ:=h.cell;obtain⟨⟨⟨a1,a2,a3⟩,b1,b2,b3⟩,⟨⟨c1,c2,c3⟩,d1,d2,d3⟩,⟨e1,e2,e3⟩,⟨f1,f2,f3⟩,g1,g2,g3⟩:=h.cell;obtain⟨p1,p2,p3,p4,p5,p6,p7⟩:=h.purs;have hY:=ho.cell;obtain⟨⟨⟨A1,A2,A3⟩,B1,B2,B3⟩,⟨⟨C1,C2,C3⟩,D1,D2,D3⟩,⟨EE1,EE2,EE3⟩,⟨F1,F2,F3⟩,G1,G2,G3⟩:=ho.cell;obtain⟨P1,P2,P3,P4,P5,P6,P7⟩:=ho.purs;have hX:=s.cp_good.cell;obtain⟨⟨⟨z1a,z1b,z1c⟩,z2a,z2b,z2c⟩,⟨⟨z3a,z3b,z3c⟩,z4a,z4b,z4c⟩,⟨z5a,z5b,z5c⟩,⟨z6a,z6b,z6c⟩,z7a,z7b,z7c⟩:=s.cp_good.cell;have hG:=great_pur h;have hG2:=great_pur ho;simp only[Sta.av]at hG hG2;show Pur Tryz.prog GG 4 [ST s.c.a s.c.b s.c.c s.c.boot s.c.free s.c.tries s.c.age s.cs s.now s.next s.js s.ps s.ks s.ds s.hs s.us,ST o.c.a o.c.b o.c.c o.c.boot o.c.free o.c.tries o.c.age o.cs o.now o.next o.js o.ps o.ks o.ds o.hs o.us,I now] _
 by_cases hg:s.great=true
 ·rw[hg]at hG;refine goQ e4 TOk.nil 0 ?_ (by simp[AV.purL,AV.pur,p1,p2,p3,p4,p5,p6,p7,P1,P2,P3,P4,P5,P6,P7]);simp only[push_cast,seval,↓kw2,hZ,hY];refine AC.pur hG ?_;refine goN ?_;simp only[push_cast,seval,↓kw2,hZ,hY,hX];exact⟨_,rfl,zAa rfl rfl⟩
 rw[Bool.not_eq_true]at hg;rw[hg]at hG
 by_cases hg2:o.great=true
 ·rw[hg2]at hG2;refine goQ e4 TOk.nil 0 ?_ (by simp[AV.purL,AV.pur,p1,p2,p3,p4,p5,p6,p7,P1,P2,P3,P4,P5,P6,P7]);simp only[push_cast,seval,↓kw2,hZ,hY];refine AC.pur hG ?_;refine goN ?_;simp only[push_cast,seval,↓kw2,hZ,hY,hX];refine AC.pur hG2 ?_;refine goN ?_;simp only[push_cast,seval,↓kw2,hZ,hY,hX];exact⟨_,rfl,zAa rfl rfl⟩
 rw[Bool.not_eq_true]at hg2;rw[hg2]at hG2;have hl:=Sta.lim_of hg;have hl2:=Sta.lim2_of hg;have hlc:=lim_cp hl;have hlc2:=lim2_cp hl2;have hE:s.cp.av=ST s.c.a s.c.b s.c.c s.c.boot s.c.free s.c.tries s.c.age s.cp.cs s.now s.next s.cp.js s.cp.ps s.cp.ks s.cp.ds s.cp.hs s.cp.us:=rfl;have hT:=twin21 h hl2;rw[hE]at hT;simp only[Sta.av]at hT;have hO2:=over21 h.ks (by have:=hl2.kl; omega) now;have hC1:=holdc_pur s.cp_good hlc;rw[okV_cp,hE]at hC1;have hC2:=check21 h hl hl2;simp only[Sta.av]at hC2;have hS1:=sameS_pur s.cp_good ho hlc hlc2;rw[same_cpL,hE]at hS1;have hS2:=same21 h ho hl hl2;simp only[Sta.av]at hS1 hS2;have hT2:=twinS_pur s.cp_good hlc2;rw[hE]at hT2;have hS3:=same21 s.cp_good h hlc hlc2;rw[same_cpS,hE]at hS3;simp only[Sta.av]at hS3
 generalize hm:(s.keeps.filter fun k=>!decide (k.till≤now))=m at hO2
 have hml:m.length≤s.keeps.length:=by rw[← hm]; exact List.length_filter_le _ _
 have hkl:=hl2.kl;have hfl:=aLen_frS (P:=Tryz.prog) un55 (m.map Kep.av);rw[List.length_map]at hfl;have hfx:=fun(i:Nat) (hi:i < m.length) (H:List AO)=>(IsSl.frS (m.map Kep.av)).idx (P:=Tryz.prog) un55 sz68 (i:=(i:Int)) (by rw[List.length_map]; omega) (by omega) H
 have hfc:=(IsSl.frS (m.map Kep.av)).cell
 generalize frS (m.map Kep.av)=fr at hO2 hfl hfx hfc
 obtain⟨y1,y2,y3⟩:=hfc;refine goQ e4 TOk.nil 0 ?_ (by simp[AV.purL,AV.pur,p1,p2,p3,p4,p5,p6,p7,P1,P2,P3,P4,P5,P6,P7]);simp only[push_cast,seval,↓kw2,hZ,hY];refine AC.pur hG ?_;refine goN ?_;simp only[push_cast,seval,↓kw2,hZ,hY,hX];refine AC.pur hG2 ?_;refine goN ?_;simp only[push_cast,seval,↓kw2,hZ,hY,hX];refine AC.pur hT ?_;refine goN ?_;simp only[push_cast,seval,↓kw2,hZ,hY,hX];refine overL_ac s.cp_good.ks (by show s.keeps.length≤_; omega) now ?_
 intro ra H1 hsg hkp hri
 have hsg:SegK H1 ra m:=by rw[← hm]; exact hsg
 have q0:H1[0]?=some (.cells [I s.c.a,I s.c.b,I s.c.c,I s.c.boot,I s.c.free,I s.c.tries,I s.c.age,s.cs,I s.now,I s.next,s.js,s.ps,s.ks,s.ds,s.hs,s.us]):=hkp 0 (by simp);have q1:H1[1]?=some (.cells [I o.c.a,I o.c.b,I o.c.c,I o.c.boot,I o.c.free,I o.c.tries,I o.c.age,o.cs,I o.now,I o.next,o.js,o.ps,o.ks,o.ds,o.hs,o.us]):=hkp 1 (by simp);have q2:H1[2]?=some (.cells [I s.c.a,I s.c.b,I s.c.c,I s.c.boot,I s.c.free,I s.c.tries,I s.c.age,s.cp.cs,I s.now,I s.next,s.cp.js,s.cp.ps,s.cp.ks,s.cp.ds,s.cp.hs,s.cp.us]):=hkp 2 (by simp);have hlow:=hri;simp only[List.length_cons,List.length_nil]at hlow;have hal:=hsg.len;obtain⟨x1,x2,x3⟩:=hsg.cell;refine goN ?_;simp only[push_cast,seval,↓kw2,hZ,hY,hX,q0,q1,q2];refine AC.pur hO2 ?_;refine goN ?_;simp only[push_cast,seval,↓kw2,hZ,hY,hX,q0,q1,q2,hal,hfl];refine⟨_,toVP hC1,?_⟩
 try simp only[push_cast,seval,↓kw2,hZ,hY,hX,q0,q1,q2,hal,hfl]
 refine⟨_,toVP hC2,?_⟩
 try simp only[push_cast,seval,↓kw2,hZ,hY,hX,q0,q1,q2,hal,hfl]
 have hbn:(s.same o != s.same o)=false:=by cases s.same o <;> rfl
 have hne:decide ((m.length:Int)≠(m.length:Int))=false:=by simp
 refine⟨_,toVP hS1,_,toVP hS2,?_⟩
 try simp only[push_cast,seval,↓kw2,hZ,hY,hX,q0,q1,q2,hal,hfl,hbn,hne]
 refine⟨_,toVP hT2,?_⟩
 try simp only[push_cast,seval,↓kw2,hZ,hY,hX,q0,q1,q2,hal,hfl,hbn,hne]
 refine⟨_,toVP hS3,?_⟩
 try simp only[push_cast,seval,↓kw2,hZ,hY,hX,q0,q1,q2,hal,hfl,hbn,hne]
 refine FW.loopInv (fun n ts H=>∃(i:Nat) (m':List Kep),i+n=m.length∧SegK H ra m'∧m'.length=m.length∧(∀ k,i≤k→m'.getD k default=m.getD k default)∧H[0]?=some (.cells [I s.c.a,I s.c.b,I s.c.c,I s.c.boot,I s.c.free,I s.c.tries,I s.c.age,s.cs,I s.now,I s.next,s.js,s.ps,s.ks,s.ds,s.hs,s.us])∧H[2]?=some (.cells [I s.c.a,I s.c.b,I s.c.c,I s.c.boot,I s.c.free,I s.c.tries,I s.c.age,s.cp.cs,I s.now,I s.next,s.cp.js,s.cp.ps,s.cp.ks,s.cp.ds,s.cp.hs,s.cp.us])∧ts 3=.ptr 0 0∧ts 7=.ptr 2 0∧ts 8=ra∧ts 9=fr∧ts 10=I (i:Int)) m.length
  ⟨0,m,by omega,hsg,rfl,fun _ _=>rfl,q0,q2,rfl,rfl,rfl,rfl,rfl⟩ ?_
 clear hal hsg hkp q0 q1 q2
 rintro n ih ts H ⟨i,m',hi,hsg,hml',hsame,q0,q2,t3,t7,t8,t9,t10⟩
 refine FW.inLoop ?_;have w2:=zAg (n:=(i:Int)+1) (by omega) (by omega);have hal:=hsg.len;rw[hml']at hal
 by_cases hlt:i < m.length
 ·have d1':decide ((i:Int) < (m.length:Int))=true:=decide_eq_true (by omega);have hb:=hfx i hlt;simp only[Int.toNat_natCast]at hb;rw[zAc Kep.av m default hlt]at hb;have hsi:=hsame i (Nat.le_refl i);have hmi:i < m'.length:=by omega
  cases hsg with
  | nil=>simp at hmi
  | zs=>simp at hmi
  | row hid hn hr hc ht =>
   rename_i id nn cap rs;have hgy:rs.getD i .un=(m.getD i default).av:=by
    rw[← hsi];have this:(rs.take nn).getD i .un=(m'.map Kep.av).getD i .un:=by rw[ht]
    rw[zAc Kep.av m' default hmi]at this;rw[← this];simp[List.getD,List.getElem?_take,show i < nn by omega]
   generalize hk:m.getD i default=k at hb hgy
   have hcy:=Kep.cells k;have heq:=Kep.eqT k k;rw[decide_eq_true rfl]at heq;simp only[Kep.av]at heq;have hgy2:rs.getD i .un=KP k.id k.x k.y k.z k.p k.q k.r k.fr k.till:=hgy;have hidl:=zAe hid;have hget:∀ x,(H.set id x)[id]?=some x:=fun x=>List.getElem?_set_self hidl
   have hrl:i < rs.length:=by omega
   have hids:=hlow id rfl;have hg0:∀ x,(H.set id x)[0]?=H[0]?:=fun x=>List.getElem?_set_ne (by omega)
   have hg2:∀ x,(H.set id x)[2]?=H[2]?:=fun x=>List.getElem?_set_ne (by omega)
   have hb1:(0≤(i:Int)∧(i:Int) < ((m.map Kep.av).length:Int)):=⟨by omega,by rw[List.length_map]; omega⟩;have hal2:=aLen_sl (P:=Tryz.prog) un55 id 0 nn cap;refine goN ?_;simp only[push_cast,seval,↓kw2,hZ,hY,hX,t3,t7,t8,t9,t10,q0,q2,hal,hal2,d1',hb,hcy,hid,hgy2,hrl,heq,zAi,Int.toNat_natCast,w2];refine⟨⟨by omega,by omega⟩,hb1,⟨by omega,by omega⟩,?_⟩;exact ih (n - 1) (by omega) _ _ ⟨i+1,m'.set i { k with id:=99 },by omega,.row (hget _) (by rw[List.length_set]; exact hn) (by rw[List.length_set]; exact hr) hc (by rw[List.take_set,ht,List.map_set]; rfl),by rw[List.length_set]; exact hml',fun j hj=>by rw[← hsame j (by omega),List.getD_eq_getElem?_getD,List.getElem?_set_ne (by omega),← List.getD_eq_getElem?_getD],(hg0 _).trans q0,(hg2 _).trans q2,t3,t7,t8,t9,rfl⟩
 ·have d1':decide ((i:Int) < (m.length:Int))=false:=decide_eq_false (by omega);refine goN ?_;simp only[push_cast,seval,↓kw2,hZ,hY,hX,t3,t7,t8,t9,t10,q0,q2,hal,d1'];refine twinA_ac s.cp_good hlc2 ?_
  intro rc rj rp rk rd rh ru X n1 n2 n3 n4 n5 n6 n7 Lc Lj Lp Lk Ld Lh Lu hn1 Rc Rj Rp Rk Rd Rh Ru hmo
  have q2l:=zAe q2;have a0:(H++X)[0]?=some (.cells [I s.c.a,I s.c.b,I s.c.c,I s.c.boot,I s.c.free,I s.c.tries,I s.c.age,s.cs,I s.now,I s.next,s.js,s.ps,s.ks,s.ds,s.hs,s.us]):=(List.getElem?_append_left (by omega)).trans q0;have a2:(H++X)[2]?=some (.cells [I s.c.a,I s.c.b,I s.c.c,I s.c.boot,I s.c.free,I s.c.tries,I s.c.age,s.cp.cs,I s.now,I s.next,s.cp.js,s.cp.ps,s.cp.ks,s.cp.ds,s.cp.hs,s.cp.us]):=(List.getElem?_append_left (by omega)).trans q2;have Lc:=Lc.toR;have Lp:=Lp.toR;have Ld:=Ld.toR;obtain⟨c1a,c1b,c1c⟩:=Lc.cell;obtain⟨c2a,c2b,c2c⟩:=Lj.toR.cell;obtain⟨c3a,c3b,c3c⟩:=Lp.cell;obtain⟨c4a,c4b,c4c⟩:=Lk.toR.cell;obtain⟨c5a,c5b,c5c⟩:=Ld.cell;obtain⟨c6a,c6b,c6c⟩:=Lh.toR.cell;obtain⟨c7a,c7b,c7c⟩:=Lu.toR.cell;clear Lj Lk Lh Lu Rj Rk Rh Ru;show FW _ _ _ _ _ _ _ _;have hSTe:(ST s.cp.c.a s.cp.c.b s.cp.c.c s.cp.c.boot s.cp.c.free s.cp.c.tries s.cp.c.age rc s.cp.now s.cp.next rj rp rk rd rh ru)=(ST s.c.a s.c.b s.c.c s.c.boot s.c.free s.c.tries s.c.age rc s.now s.next rj rp rk rd rh ru):=rfl;rw[hSTe]
  generalize hHT:H++X=HT at a0 a2 Lc Lp Ld hmo
  have hHT2:H.length≤HT.length:=by rw[← hHT]; simp
  refine goN ?_;simp only[push_cast,seval,↓kw2,hZ,hY,hX,t3,t7,zAf,zAh,c1a,c1b,c1c,c2a,c2b,c2c,c3a,c3b,c3c,c4a,c4b,c4c,c5a,c5b,c5c,c6a,c6b,c6c,c7a,c7b,c7c];refine FW.loopInv (fun n ts H=>∃(i:Nat) (ps:List Prt),i+n=s.parts.length∧LiveR 13 H rp (ps.map Prt.av)∧ps.length=s.parts.length∧LiveR 1 H rd (s.down.map IA)∧LiveR 4 H rc (s.c.cls.map Cls.av)∧H[0]?=some (.cells [I s.c.a,I s.c.b,I s.c.c,I s.c.boot,I s.c.free,I s.c.tries,I s.c.age,s.cs,I s.now,I s.next,s.js,s.ps,s.ks,s.ds,s.hs,s.us])∧H[2]?=some (.cells [I s.c.a,I s.c.b,I s.c.c,I s.c.boot,I s.c.free,I s.c.tries,I s.c.age,s.cp.cs,I s.now,I s.next,s.cp.js,s.cp.ps,s.cp.ks,s.cp.ds,s.cp.hs,s.cp.us])∧H[HT.length]?=some (.cells [I s.c.a,I s.c.b,I s.c.c,I s.c.boot,I s.c.free,I s.c.tries,I s.c.age,rc,I s.now,I s.next,rj,rp,rk,rd,rh,ru])∧ts 3=.ptr 0 0∧ts 7=.ptr 2 0∧ts 11=.ptr HT.length 0∧ts 12=I (i:Int)) s.parts.length
   ⟨0,s.parts,by omega,Lp.keep fun i hi=>List.getElem?_append_left (Lp.lt i hi),rfl,Ld.keep fun i hi=>List.getElem?_append_left (Ld.lt i hi),Lc.keep fun i hi=>List.getElem?_append_left (Lc.lt i hi),(List.getElem?_append_left (by omega)).trans a0,(List.getElem?_append_left (by omega)).trans a2,by simp,t3,t7,rfl,rfl⟩ ?_
  clear Lp Lc Ld a0 a2 ih hi hsg hsame q0 t3 t7 t8 t9 t10 hal;have hlp:=hl2.pl;have hld:=hl2.dl;have hlcc:=hl2.cl;clear hfl hfx
  rintro n ih ts H ⟨i,ps,hi,Lp,hvl,Ld,Lc,a0,a2,aE,t3,t7,t11,t12⟩
  refine FW.inLoop ?_;have w2:=zAg (n:=(i:Int)+1) (by omega) (by omega);have hal:=Lp.len un54;rw[List.length_map,hvl]at hal
  by_cases hlt:i < s.parts.length
  ·have d1':decide ((i:Int) < (s.parts.length:Int))=true:=decide_eq_true (by omega)
   generalize hes:ps.map Prt.av=es at Lp
   cases Lp with
   | nil=>have:=congrArg List.length hes; simp at this; rw[this]at hvl; simp at hvl; omega
   | zs=>have:=congrArg List.length hes; simp at this; rw[this]at hvl; simp at hvl; omega
   | row hid h0 =>
    rename_i id;have hel:es.length=s.parts.length:=by rw[← hes,List.length_map,hvl]
    have d2':decide ((i:Int) < (es.length:Int))=true:=decide_eq_true (by omega);have hgy:es.getD i .un=Prt.av (ps.getD i default):=by rw[← hes]; exact zAc Prt.av ps default (by omega)
    generalize ps.getD i default=p at hgy
    have hgy:es.getD i .un=PA p.job p.pl p.ph p.tries p.since:=hgy;have hidl:=zAe hid;have hget:∀ x,(H.set id x)[id]?=some x:=fun x=>List.getElem?_set_self hidl
    have hrl:i < es.length:=by omega
    have hids:=Rp id rfl;have hg:∀ q x,q≠id→(H.set id x)[q]?=H[q]?:=fun q x hq=>List.getElem?_set_ne (fun e=>hq e.symm)
    refine goN ?_;simp only[push_cast,seval,↓kw2,hZ,hY,hX,t3,t7,t11,t12,a0,a2,aE,hal,d1',d2',hid,hgy,hrl,Int.toNat_natCast,w2,c1a,c1b,c1c,c2a,c2b,c2c,c3a,c3b,c3c,c4a,c4b,c4c,c5a,c5b,c5c,c6a,c6b,c6c,c7a,c7b,c7c];refine⟨⟨by omega,by omega⟩,?_⟩;exact ih (n - 1) (by omega) _ _ ⟨i+1,ps.set i { p with job:=99 },by omega,(by have:=LiveR.row (hget (.arr 13 (es.set i (PA 99 p.pl p.ph p.tries p.since)))) (by rw[List.length_set]; exact h0); rw[List.length_set]at this; rw[List.map_set,hes]; exact this),by rw[List.length_set]; exact hvl,Ld.keep fun j hj=>by have:=Rd j hj; exact hg j _ (by omega),Lc.keep fun j hj=>by have:=Rc j hj; exact hg j _ (by omega),(hg 0 _ (by omega)).trans a0,(hg 2 _ (by omega)).trans a2,(hg HT.length _ (by omega)).trans aE,t3,t7,t11,rfl⟩
  ·have d1':decide ((i:Int) < (s.parts.length:Int))=false:=decide_eq_false (by omega);refine goN ?_;simp only[push_cast,seval,↓kw2,hZ,hY,hX,t3,t7,t11,t12,a0,a2,aE,hal,d1',c1a,c1b,c1c,c2a,c2b,c2c,c3a,c3b,c3c,c4a,c4b,c4c,c5a,c5b,c5c,c6a,c6b,c6c,c7a,c7b,c7c];clear ih hi hal hlt d1' hvl Lp;refine FW.loopInv (fun n ts H=>∃(i:Nat) (ds:List Int),i+n=s.down.length∧LiveR 1 H rd (ds.map IA)∧ds.length=s.down.length∧LiveR 4 H rc (s.c.cls.map Cls.av)∧H[0]?=some (.cells [I s.c.a,I s.c.b,I s.c.c,I s.c.boot,I s.c.free,I s.c.tries,I s.c.age,s.cs,I s.now,I s.next,s.js,s.ps,s.ks,s.ds,s.hs,s.us])∧H[2]?=some (.cells [I s.c.a,I s.c.b,I s.c.c,I s.c.boot,I s.c.free,I s.c.tries,I s.c.age,s.cp.cs,I s.now,I s.next,s.cp.js,s.cp.ps,s.cp.ks,s.cp.ds,s.cp.hs,s.cp.us])∧H[HT.length]?=some (.cells [I s.c.a,I s.c.b,I s.c.c,I s.c.boot,I s.c.free,I s.c.tries,I s.c.age,rc,I s.now,I s.next,rj,rp,rk,rd,rh,ru])∧ts 3=.ptr 0 0∧ts 7=.ptr 2 0∧ts 11=.ptr HT.length 0∧ts 13=I (i:Int)) s.down.length
    ⟨0,s.down,by omega,Ld,rfl,Lc,a0,a2,aE,t3,t7,t11,rfl⟩ ?_
   clear a0 a2 aE t3 t7 t11 t12 Ld Lc w2
   rintro n ih ts H ⟨i,ds,hi,Ld,hvl,Lc,a0,a2,aE,t3,t7,t11,t13⟩
   refine FW.inLoop ?_;have w2:=zAg (n:=(i:Int)+1) (by omega) (by omega);have hal:=Ld.len un56;rw[List.length_map,hvl]at hal
   by_cases hlt:i < s.down.length
   ·have d1':decide ((i:Int) < (s.down.length:Int))=true:=decide_eq_true (by omega)
    generalize hes:ds.map IA=es at Ld
    cases Ld with
    | nil=>have:=congrArg List.length hes; simp at this; rw[this]at hvl; simp at hvl; omega
    | zs=>have:=congrArg List.length hes; simp at this; rw[this]at hvl; simp at hvl; omega
    | row hid h0 =>
     rename_i id;have hel:es.length=s.down.length:=by rw[← hes,List.length_map,hvl]
     have d2':decide ((i:Int) < (es.length:Int))=true:=decide_eq_true (by omega);have hgy:es.getD i .un=IA (ds.getD i 0):=by rw[← hes]; exact zAc IA ds 0 (by omega)
     generalize ds.getD i 0=p at hgy
     have hgy:es.getD i .un=I p:=hgy;have hidl:=zAe hid;have hget:∀ x,(H.set id x)[id]?=some x:=fun x=>List.getElem?_set_self hidl
     have hrl:i < es.length:=by omega
     have hids:=Rd id rfl;have hg:∀ q x,q≠id→(H.set id x)[q]?=H[q]?:=fun q x hq=>List.getElem?_set_ne (fun e=>hq e.symm)
     refine goN ?_;simp only[push_cast,seval,↓kw2,hZ,hY,hX,t3,t7,t11,t13,a0,a2,aE,hal,d1',d2',hid,hgy,hrl,Int.toNat_natCast,w2,c1a,c1b,c1c,c2a,c2b,c2c,c3a,c3b,c3c,c4a,c4b,c4c,c5a,c5b,c5c,c6a,c6b,c6c,c7a,c7b,c7c];refine⟨⟨by omega,by omega⟩,?_⟩;exact ih (n - 1) (by omega) _ _ ⟨i+1,ds.set i 99,by omega,(by have:=LiveR.row (hget (.arr 1 (es.set i (I 99)))) (by rw[List.length_set]; exact h0); rw[List.length_set]at this; rw[List.map_set,hes]; exact this),by rw[List.length_set]; exact hvl,Lc.keep fun j hj=>by have:=Rc j hj; exact hg j _ (by omega),(hg 0 _ (by omega)).trans a0,(hg 2 _ (by omega)).trans a2,(hg HT.length _ (by omega)).trans aE,t3,t7,t11,rfl⟩
   ·have d1':decide ((i:Int) < (s.down.length:Int))=false:=decide_eq_false (by omega);refine goN ?_;simp only[push_cast,seval,↓kw2,hZ,hY,hX,t3,t7,t11,t13,a0,a2,aE,hal,d1',c1a,c1b,c1c,c2a,c2b,c2c,c3a,c3b,c3c,c4a,c4b,c4c,c5a,c5b,c5c,c6a,c6b,c6c,c7a,c7b,c7c];clear ih hi hal hlt d1' hvl Ld;refine FW.loopInv (fun n ts H=>∃(i:Nat) (cs:List Cls),i+n=s.c.cls.length∧LiveR 4 H rc (cs.map Cls.av)∧cs.length=s.c.cls.length∧H[0]?=some (.cells [I s.c.a,I s.c.b,I s.c.c,I s.c.boot,I s.c.free,I s.c.tries,I s.c.age,s.cs,I s.now,I s.next,s.js,s.ps,s.ks,s.ds,s.hs,s.us])∧H[2]?=some (.cells [I s.c.a,I s.c.b,I s.c.c,I s.c.boot,I s.c.free,I s.c.tries,I s.c.age,s.cp.cs,I s.now,I s.next,s.cp.js,s.cp.ps,s.cp.ks,s.cp.ds,s.cp.hs,s.cp.us])∧H[HT.length]?=some (.cells [I s.c.a,I s.c.b,I s.c.c,I s.c.boot,I s.c.free,I s.c.tries,I s.c.age,rc,I s.now,I s.next,rj,rp,rk,rd,rh,ru])∧ts 3=.ptr 0 0∧ts 7=.ptr 2 0∧ts 11=.ptr HT.length 0∧ts 14=I (i:Int)) s.c.cls.length
     ⟨0,s.c.cls,by omega,Lc,rfl,a0,a2,aE,t3,t7,t11,rfl⟩ ?_
    clear a0 a2 aE t3 t7 t11 t13 Lc w2
    rintro n ih ts H ⟨i,cs,hi,Lc,hvl,a0,a2,aE,t3,t7,t11,t14⟩
    refine FW.inLoop ?_;have w2:=zAg (n:=(i:Int)+1) (by omega) (by omega);have hal:=Lc.len un50;rw[List.length_map,hvl]at hal
    by_cases hlt:i < s.c.cls.length
    ·have d1':decide ((i:Int) < (s.c.cls.length:Int))=true:=decide_eq_true (by omega)
     generalize hes:cs.map Cls.av=es at Lc
     cases Lc with
     | nil=>have:=congrArg List.length hes; simp at this; rw[this]at hvl; simp at hvl; omega
     | zs=>have:=congrArg List.length hes; simp at this; rw[this]at hvl; simp at hvl; omega
     | row hid h0 =>
      rename_i id;have hel:es.length=s.c.cls.length:=by rw[← hes,List.length_map,hvl]
      have d2':decide ((i:Int) < (es.length:Int))=true:=decide_eq_true (by omega);have hgy:es.getD i .un=Cls.av (cs.getD i default):=by rw[← hes]; exact zAc Cls.av cs default (by omega)
      generalize cs.getD i default=p at hgy
      have hgy:es.getD i .un=CL p.a p.b p.c p.d:=hgy;have hidl:=zAe hid;have hget:∀ x,(H.set id x)[id]?=some x:=fun x=>List.getElem?_set_self hidl
      have hrl:i < es.length:=by omega
      have hids:=Rc id rfl;have hg:∀ q x,q≠id→(H.set id x)[q]?=H[q]?:=fun q x hq=>List.getElem?_set_ne (fun e=>hq e.symm)
      refine goN ?_;simp only[push_cast,seval,↓kw2,hZ,hY,hX,t3,t7,t11,t14,a0,a2,aE,hal,d1',d2',hid,hgy,hrl,Int.toNat_natCast,w2,c1a,c1b,c1c,c2a,c2b,c2c,c3a,c3b,c3c,c4a,c4b,c4c,c5a,c5b,c5c,c6a,c6b,c6c,c7a,c7b,c7c];refine⟨⟨by omega,by omega⟩,?_⟩;exact ih (n - 1) (by omega) _ _ ⟨i+1,cs.set i { p with b:=99 },by omega,(by have:=LiveR.row (hget (.arr 4 (es.set i (CL p.a 99 p.c p.d)))) (by rw[List.length_set]; exact h0); rw[List.length_set]at this; rw[List.map_set,hes]; exact this),by rw[List.length_set]; exact hvl,(hg 0 _ (by omega)).trans a0,(hg 2 _ (by omega)).trans a2,(hg HT.length _ (by omega)).trans aE,t3,t7,t11,rfl⟩
    ·have d1':decide ((i:Int) < (s.c.cls.length:Int))=false:=decide_eq_false (by omega);refine goN ?_;simp only[push_cast,seval,↓kw2,hZ,hY,hX,t3,t7,t11,t14,a0,a2,aE,hal,d1',c1a,c1b,c1c,c2a,c2b,c2c,c3a,c3b,c3c,c4a,c4b,c4c,c5a,c5b,c5c,c6a,c6b,c6c,c7a,c7b,c7c];refine AC.pur hS3 ?_;refine goN ?_;simp only[push_cast,seval,↓kw2,hZ,hY,hX,t3,t7,t11];exact⟨_,rfl,zAa rfl rfl⟩
end Go.Ab.Pd
