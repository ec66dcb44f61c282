/- One of the texts that this claim stands on. -/
import Derived.Test.YtnfnhccebebflaaGreatEv48
import Derived.Test.YtnfnhccebebflaaGreatEv49
import Derived.Test.YtnfnhccebebflaaGreatEv47
import Derived.Test.YtnfnhccebebflaaGreatEv45
set_option maxHeartbeats 40000000
set_option maxRecDepth 400000
set_option linter.all false
namespace Go.Ab.Pd
open Go.Proofs
open Go.Proofs.Tryz renaming prog->zP
def Jb.cp(j:Jb):Jb:={ j with aft:=frS (j.after.map IA) }
theorem Jb.cp_good(j:Jb):j.cp.good:=IsSl.frS _
theorem Jb.cp_pur(j:Jb):j.cp.av.pur=true:=Jb.pur j.cp_good
theorem e49:Ent zP 49 Tryz.f49 [] 1:=.mk Tryz.func49 rfl
attribute [push_cast] Tryz.f49
theorem twin18{s:AV}{l:List Jb}(hs:JobsS s l)(hl:l.length<=2^16)(ha:∀ j∈l,j.after.length<=2^16){H:List AO}{K:AV->List AO->Prop}
  (hK:∀ r H',OwnK 16 H' r (l.map fun j=>j.cp.av)->H.length<=H'.length->(∀ q,q < H.length->H'[q]?=H[q]?)->(∀ q,zAl r=some q->H.length<=q)->K r H'):AC zP GG 49 [s] H K:=by
 have hlen:=hs.1.len (P:=zP) un53;rw[zM]at hlen;have hidx:=fun(i:Nat) (hi:i < l.length) (H:List AO)=>hs.1.idx (P:=zP) un53 sz83 (i:=(i:Int)) (by rw[zM]; omega) (by omega) H
 refine goE e49 TOk.nil 0 ?_;simp(maxSteps:=2000000)only[push_cast,seval,↓kw2];refine FW.loopInv (fun n ts H2=>∃(i:Nat) (o:AV),i+n=l.length/\OwnK 16 H2 o ((l.take i).map fun j=>j.cp.av)/\H.length<=H2.length/\(∀ q,q < H.length->H2[q]?=H[q]?)/\(∀ q,zAl o=some q->H.length<=q)/\ts 0=s/\ts 3=o/\ts 4=I (i:Int)) l.length
  ⟨0,_,by omega,.nil,Nat.le_refl _,fun _ _=>rfl,by simp[zAl],rfl,rfl,rfl⟩ ?_
 rintro n ih ts H2 ⟨i,o,hi,hown,hle,hkeep,hoid,t0,t3,t4⟩
 refine FW.inLoop ?_;have w2:=zAh (n:=(i:Int)+1) (by omega) (by omega)
 by_cases hlt:i < l.length
 ·have d1:decide ((i:Int) < (l.length:Int))=true:=zT (by omega);have hx:=hidx i hlt;simp only[Int.toNat_natCast]at hx;rw[zAe Jb.av l default hlt]at hx;have hg:=hs.get i;have hal:=ha (l.getD i default) (by simp[List.getD,hlt]);have htk:=zAo default hlt
  generalize l.getD i default=j at hx hg hal htk
  obtain⟨m1,m2,m3⟩:=IsSl.cell hg;have hcy:=Jb.cells j;rw[hcy]at hx;have hbb:(0<=(i:Int)/\(i:Int) < ((l.map Jb.av).length:Int)):=⟨by omega,by rw[zM]; omega⟩;have happ:∀ H3:List AO,∃ C,zBb zP 56 56 (.c (.slice none 0 0)) j.aft H3=some ⟨C,apSs H3 (.c (.slice none 0 0)) 0 (j.after.map IA),apHs H3 (.c (.slice none 0 0)) [] (j.after.map IA)⟩/\C:=fun H3=>by
   rcases hg with hg | ⟨h0,hg⟩
   ·rw[hg];obtain⟨C,h1,h2⟩:=aAppL (P:=zP) un56 un56 ze3 rfl by3 (H:=H3) Own.nil (l:=j.after.map IA) (fun x hx=>by obtain⟨_,_,rfl⟩:=List.mem_map.1 hx; rfl);exact⟨C,h1,h2 (by simp; omega) (by simp; omega)⟩
   ·rw[hg,h0];obtain⟨C,h1,h2⟩:=aAppF (P:=zP) un56 un56 ze3 rfl by3 (H:=H3) Own.nil (l:=[]) (by simp);exact⟨C,h1,h2 (by simp) (by simp)⟩
  by_cases h0:j.after=[]
  ·have h0':j.after.map IA=[]:=by rw[h0]; rfl
   rw[h0']at happ;simp only[apSs,apHs]at happ;obtain⟨CC,hCC⟩:=Classical.skolem.1 happ;have happ2:=fun H3=>(hCC H3).1
   have happ3:=fun H3=>(hCC H3).2
   clear hCC happ;have hcp:j.cp.av=.agg [I j.id,I j.user,I j.cls,I j.w.p,I j.w.q,I j.w.r,B j.w.s,B j.w.t,B j.w.u,B j.w.v,I j.wall,I j.prio,B j.held,.c (.slice none 0 0),.c (.int .u8 j.st),I j.came]:=by unfold Jb.cp; rw[h0']; rfl
   have hown2:=hown.append [AO.cells [I j.id,I j.user,I j.cls,I j.w.p,I j.w.q,I j.w.r,B j.w.s,B j.w.t,B j.w.u,B j.w.v,I j.wall,I j.prio,B j.held,.c (.slice none 0 0),.c (.int .u8 j.st),I j.came]];have hap:=fun v=>aAppK (P:=zP) (k:=16) un53 un53 ze83 rfl by83 hown2 v
   have hown3:=apHk_own (k:=16) (H:=H2++[AO.cells [I j.id,I j.user,I j.cls,I j.w.p,I j.w.q,I j.w.r,B j.w.s,B j.w.t,B j.w.u,B j.w.v,I j.wall,I j.prio,B j.held,.c (.slice none 0 0),.c (.int .u8 j.st),I j.came]]) (s:=o) (es:=(l.take i).map fun j=>j.cp.av) (v:=.agg [I j.id,I j.user,I j.cls,I j.w.p,I j.w.q,I j.w.r,B j.w.s,B j.w.t,B j.w.u,B j.w.v,I j.wall,I j.prio,B j.held,.c (.slice none 0 0),.c (.int .u8 j.st),I j.came]);simp only[List.append_assoc,List.cons_append,List.nil_append,List.length_append,List.length_cons,List.length_nil,Nat.zero_add]at hap hown3;refine goN ?_;simp(maxSteps:=2000000)only[push_cast,seval,↓kw2,t0,t3,t4,m1,m2,m3,hlen,d1,hx,happ2,zAf,zAg,hap,w2]
   repeat (first | refine⟨hbb,?_⟩ | refine⟨happ3 _,?_⟩ | refine⟨zEq (by rw[zM,List.length_take]; omega) (by decide),?_⟩)
   have hlt2:H2.length<=(H2++[AO.cells [I j.id,I j.user,I j.cls,I j.w.p,I j.w.q,I j.w.r,B j.w.s,B j.w.t,B j.w.u,B j.w.v,I j.wall,I j.prio,B j.held,.c (.slice none 0 0),.c (.int .u8 j.st),I j.came]]).length:=by simp
   exact ih (n - 1) (by omega) _ _ ⟨i+1,_,by omega,by rw[htk,List.map_append,show([j].map fun j=>j.cp.av)=[j.cp.av] from rfl,hcp]; exact hown3,by rw[zDk]; omega,fun q hq=>by
    rw[zDn (by omega) (fun e=>by have:=hoid q e; omega),zL (by omega)];exact hkeep q hq,fun q hq=>by
    have hq':=Option.some.inj hq;omega,t0,rfl,rfl⟩
  ·obtain⟨y,yl,hyl⟩:∃ y yl,j.after.map IA=y::yl:=by
    cases hj:j.after with
    | nil=>exact absurd hj h0
    | cons a b=>exact⟨_,_,rfl⟩
   have hes:apHs=apHs:=rfl;have happ':∀ H3:List AO,∃ C,zBb zP 56 56 (.c (.slice none 0 0)) j.aft H3=some ⟨C,.sl H3.length 0 j.after.length j.after.length,H3++[.arr 1 (j.after.map IA)]⟩/\C:=fun H3=>by
    obtain⟨C,h1,h2⟩:=happ H3;refine⟨C,?_,h2⟩;rw[h1,hyl];have:(y::yl).length=j.after.length:=by rw[<- hyl,zM]
    simp only[apSs,apHs,List.nil_append,Nat.zero_add];rw[this]
   obtain⟨CC,hCC⟩:=Classical.skolem.1 happ';have happ2:=fun H3=>(hCC H3).1
   have happ3:=fun H3=>(hCC H3).2
   clear hCC happ happ' hes;refine walk hmix TOk.nil [] 29 0 (by kernel_rfl) ?_;simp(maxSteps:=2000000)only[push_cast,seval,↓kw2,t0,t3,t4,m1,m2,m3,hlen,d1,hx,happ2,zAf,zAg]
   repeat (first | refine⟨hbb,?_⟩ | refine⟨happ3 _,?_⟩)
   have hfrz:frS (j.after.map IA)=.isl (j.after.map IA):=zFa (by rw[hyl]; simp);have hcp:j.cp.av=.agg [I j.id,I j.user,I j.cls,I j.w.p,I j.w.q,I j.w.r,B j.w.s,B j.w.t,B j.w.u,B j.w.v,I j.wall,I j.prio,B j.held,.isl (j.after.map IA),.c (.int .u8 j.st),I j.came]:=by unfold Jb.cp; rw[hfrz]; rfl
   refine FW.freezeCell (id:=H2.length+1) (q:=H2.length) (k:=13) (sz:=1) (cap:=j.after.length) (es:=j.after.map IA) (cs:=[I j.id,I j.user,I j.cls,I j.w.p,I j.w.q,I j.w.r,B j.w.s,B j.w.t,B j.w.u,B j.w.v,I j.wall,I j.prio,B j.held,.sl (H2.length+1) 0 j.after.length j.after.length,.c (.int .u8 j.st),I j.came]) (by rw[getA]; rfl) (by rw[hyl]; simp) (zAc IA _ fun _=>rfl) (by rw[zAf]; rfl) (by simp) (by rw[zM]; rfl) ?_;have hfin:((H2++[AO.cells [I j.id,I j.user,I j.cls,I j.w.p,I j.w.q,I j.w.r,B j.w.s,B j.w.t,B j.w.u,B j.w.v,I j.wall,I j.prio,B j.held,.sl (H2.length+1) 0 j.after.length j.after.length,.c (.int .u8 j.st),I j.came],AO.arr 1 (j.after.map IA)]).set (H2.length+1) .dead).set H2.length (AO.cells ([I j.id,I j.user,I j.cls,I j.w.p,I j.w.q,I j.w.r,B j.w.s,B j.w.t,B j.w.u,B j.w.v,I j.wall,I j.prio,B j.held,.sl (H2.length+1) 0 j.after.length j.after.length,.c (.int .u8 j.st),I j.came].set 13 (.isl (j.after.map IA))))=H2++[AO.cells [I j.id,I j.user,I j.cls,I j.w.p,I j.w.q,I j.w.r,B j.w.s,B j.w.t,B j.w.u,B j.w.v,I j.wall,I j.prio,B j.held,.isl (j.after.map IA),.c (.int .u8 j.st),I j.came],.dead]:=by rw[setA,zAg]; rfl
   rw[hfin];have hown2:=hown.append [AO.cells [I j.id,I j.user,I j.cls,I j.w.p,I j.w.q,I j.w.r,B j.w.s,B j.w.t,B j.w.u,B j.w.v,I j.wall,I j.prio,B j.held,.isl (j.after.map IA),.c (.int .u8 j.st),I j.came],.dead];have hap:=fun v=>aAppK (P:=zP) (k:=16) un53 un53 ze83 rfl by83 hown2 v
   have hown3:=apHk_own (k:=16) (H:=H2++[AO.cells [I j.id,I j.user,I j.cls,I j.w.p,I j.w.q,I j.w.r,B j.w.s,B j.w.t,B j.w.u,B j.w.v,I j.wall,I j.prio,B j.held,.isl (j.after.map IA),.c (.int .u8 j.st),I j.came],.dead]) (s:=o) (es:=(l.take i).map fun j=>j.cp.av) (v:=.agg [I j.id,I j.user,I j.cls,I j.w.p,I j.w.q,I j.w.r,B j.w.s,B j.w.t,B j.w.u,B j.w.v,I j.wall,I j.prio,B j.held,.isl (j.after.map IA),.c (.int .u8 j.st),I j.came]);simp only[List.append_assoc,List.cons_append,List.nil_append,List.length_append,List.length_cons,List.length_nil,Nat.zero_add]at hap hown3;refine goN ?_;simp(maxSteps:=2000000)only[push_cast,seval,↓kw2,t0,t3,t4,zAf,zAg,hap,w2]
   repeat (first | refine⟨zEq (by rw[zM,List.length_take]; omega) (by decide),?_⟩)
   have hlt2:H2.length<=(H2++[AO.cells [I j.id,I j.user,I j.cls,I j.w.p,I j.w.q,I j.w.r,B j.w.s,B j.w.t,B j.w.u,B j.w.v,I j.wall,I j.prio,B j.held,.isl (j.after.map IA),.c (.int .u8 j.st),I j.came],.dead]).length:=by simp
   exact ih (n - 1) (by omega) _ _ ⟨i+1,_,by omega,by rw[htk,List.map_append,show([j].map fun j=>j.cp.av)=[j.cp.av] from rfl,hcp]; exact hown3,by rw[zDk]; omega,fun q hq=>by
    rw[zDn (by omega) (fun e=>by have:=hoid q e; omega),zL (by omega)];exact hkeep q hq,fun q hq=>by
    have hq':=Option.some.inj hq;omega,t0,rfl,rfl⟩
 ·have d1:decide ((i:Int) < (l.length:Int))=false:=zF (by omega);rw[List.take_of_length_le (by omega)]at hown;refine goN ?_;simp(maxSteps:=2000000)only[push_cast,seval,↓kw2,t0,t3,t4,hlen,d1];exact⟨_,rfl,hK _ _ hown hle hkeep hoid⟩
theorem e124:Ent zP 124 Tryz.f124 [] 2:=.mk Tryz.func124 rfl
attribute [push_cast] Tryz.f124
theorem sameOne18{x y:Jb}(hx:x.good)(hy:y.good)(hl:x.after.length<=2^20):Pur zP GG 124 [x.av,y.av] (B (x.same y)):=by
 have p1:=IsSl.pur hx (zAc IA _ (fun _=>rfl));have p2:=IsSl.pur hy (zAc IA _ (fun _=>rfl));obtain⟨m1,m2,m3⟩:=IsSl.cell hx;obtain⟨n1,n2,n3⟩:=IsSl.cell hy;have l1:=IsSl.len (P:=zP) hx un56;have l2:=IsSl.len (P:=zP) hy un56;rw[zM]at l1 l2;have hw:=Wnt.eqT x.w y.w;simp only[Wnt.av]at hw;have hsame:x.same y=(decide (x.id=y.id/\x.user=y.user/\x.cls=y.cls/\x.w=y.w/\x.wall=y.wall/\x.prio=y.prio/\x.held=y.held/\x.st=y.st/\x.came=y.came)&&decide (x.after=y.after)):=by
  unfold Jb.same;rw[Bool.eq_iff_iff];simp[and_assoc]
 rw[hsame];show Pur zP GG 124 [JB x.id x.user x.cls x.w x.wall x.prio x.held x.aft x.st x.came,JB y.id y.user y.cls y.w y.wall y.prio y.held y.aft y.st y.came] _
 by_cases hd:x.after.length=y.after.length/\x.id=y.id/\x.user=y.user/\x.cls=y.cls/\x.w=y.w/\x.wall=y.wall/\x.prio=y.prio/\x.held=y.held/\x.st=y.st/\x.came=y.came
 ·obtain⟨e0,e1,e2,e3,e4,e5,e6,e7,e8,e9⟩:=hd;rw[zT ⟨e1,e2,e3,e4,e5,e6,e7,e8,e9⟩,Bool.true_and];rw[zT e4]at hw;have q0:decide ((x.after.length:Int)≠(y.after.length:Int))=false:=by simp[e0]
  have q1:decide (x.id≠y.id)=false:=by simp[e1]
  have q2:decide (x.user≠y.user)=false:=by simp[e2]
  have q3:decide (x.cls≠y.cls)=false:=by simp[e3]
  have q5:decide (x.wall≠y.wall)=false:=by simp[e5]
  have q6:decide (x.prio≠y.prio)=false:=by simp[e6]
  have q7:(x.held != y.held)=false:=by simp[e7]
  have q8:decide (x.st≠y.st)=false:=by simp[e8]
  have q9:decide (x.came≠y.came)=false:=by simp[e9]
  have hix:=fun(i:Nat) (hi:i < x.after.length) (H:List AO)=>IsSl.idx (P:=zP) hx un56 sz3 (i:=(i:Int)) (by rw[zM]; omega) (by omega) H
  have hiy:=fun(i:Nat) (hi:i < y.after.length) (H:List AO)=>IsSl.idx (P:=zP) hy un56 sz3 (i:=(i:Int)) (by rw[zM]; omega) (by omega) H
  refine goQ e124 TOk.nil 0 ?_ (by simp[AV.purL,AV.pur,p1,p2]);simp(maxSteps:=2000000)only[push_cast,seval,↓kw2,m1,m2,m3,n1,n2,n3,l1,l2,List.append_eq,hw,zAj,q0,q1,q2,q3,q5,q6,q7,q8,q9];refine FW.loopInv (fun m ts H=>∃ i:Nat,i+m=x.after.length/\x.after.take i=y.after.take i/\H=[.cells [I x.id,I x.user,I x.cls,I x.w.p,I x.w.q,I x.w.r,B x.w.s,B x.w.t,B x.w.u,B x.w.v,I x.wall,I x.prio,B x.held,x.aft,.c (.int .u8 x.st),I x.came],.cells [I y.id,I y.user,I y.cls,I y.w.p,I y.w.q,I y.w.r,B y.w.s,B y.w.t,B y.w.u,B y.w.v,I y.wall,I y.prio,B y.held,y.aft,.c (.int .u8 y.st),I y.came]]/\ts 2=.ptr 0 0/\ts 3=.ptr 1 0/\ts 5=I (i:Int)) x.after.length
   ⟨0,by omega,rfl,rfl,rfl,rfl,rfl⟩ ?_
  rintro m ih ts H ⟨i,hi,hf,rfl,t2,t3,t5⟩
  refine FW.inLoop ?_;have w2:=zAh (n:=(i:Int)+1) (by omega) (by omega)
  by_cases hlt:i < x.after.length
  ·have d1:decide ((i:Int) < (x.after.length:Int))=true:=zT (by omega);have ha:=hix i hlt;have hb:=hiy i (by omega);simp only[Int.toNat_natCast]at ha hb;rw[zAe IA x.after 0 hlt]at ha;rw[zAe IA y.after 0 (by omega)]at hb;have s1:=zAo 0 hlt;have s2:=zAo (l:=y.after) (i:=i) 0 (by omega)
   generalize hu:x.after.getD i 0=u at ha s1
   generalize hv:y.after.getD i 0=v at hb s2
   have hb1:(0<=(i:Int)/\(i:Int) < ((x.after.map IA).length:Int)):=⟨by omega,by rw[zM]; omega⟩;have hb2:(0<=(i:Int)/\(i:Int) < ((y.after.map IA).length:Int)):=⟨by omega,by rw[zM]; omega⟩
   by_cases huv:u=v
   ·have d2:decide (u≠v)=false:=by simp[huv]
    refine goN ?_;simp(maxSteps:=2000000)only[push_cast,seval,↓kw2,t2,t3,t5,m1,m2,m3,n1,n2,n3,l1,d1,ha,hb,d2,w2]
    repeat (first | refine⟨hb1,?_⟩ | refine⟨hb2,?_⟩)
    exact ih (m - 1) (by omega) _ _ ⟨i+1,by omega,by rw[s1,s2,hf,huv],rfl,t2,t3,rfl⟩
   ·have d2:decide (u≠v)=true:=by simp[huv]
    refine goN ?_;simp(maxSteps:=2000000)only[push_cast,seval,↓kw2,t2,t3,t5,m1,m2,m3,n1,n2,n3,l1,d1,ha,hb,d2]
    repeat (first | refine⟨hb1,?_⟩ | refine⟨hb2,?_⟩)
    exact⟨_,rfl,zAa rfl (by rw[zF fun h=>huv (by rw[<- hu,<- hv,h])])⟩
  ·have d1:decide ((i:Int) < (x.after.length:Int))=false:=zF (by omega);rw[List.take_of_length_le (by omega),List.take_of_length_le (by omega)]at hf;refine goN ?_;simp(maxSteps:=2000000)only[push_cast,seval,↓kw2,t2,t3,t5,m1,m2,m3,n1,n2,n3,l1,d1];exact⟨_,rfl,zAa rfl (by rw[zT hf])⟩
 ·have hF:(decide (x.id=y.id/\x.user=y.user/\x.cls=y.cls/\x.w=y.w/\x.wall=y.wall/\x.prio=y.prio/\x.held=y.held/\x.st=y.st/\x.came=y.came)&&decide (x.after=y.after))=false:=by
   rw[Bool.and_eq_false_iff,decide_eq_false_iff_not,decide_eq_false_iff_not]
   by_cases ha:x.after=y.after
   ·exact .inl fun h=>hd ⟨by rw[ha],h⟩
   ·exact .inr ha
  rw[hF]
  by_cases hwe:x.w=y.w
  ·rw[zT hwe]at hw;cases hh:x.held <;> cases hk:y.held
   all_goals
    rw[hh,hk]at hd;refine goQ e124 TOk.nil 0 ?_ (by simp[AV.purL,AV.pur,p1,p2]);simp(maxSteps:=2000000)only[push_cast,seval,↓kw2,m1,m2,m3,n1,n2,n3,l1,l2,List.append_eq,hw,zAj,zEa,zDx,zDz,zDy]
    repeat' (first | apply And.intro | intro _)
    all_goals first | exact⟨_,rfl,zAa rfl rfl⟩ | (exfalso; refine hd ⟨?_,?_,?_,?_,?_,?_,?_,?_,?_,?_⟩ <;> first | assumption | rfl | omega)
  ·rw[zF hwe]at hw;refine goQ e124 TOk.nil 0 ?_ (by simp[AV.purL,AV.pur,p1,p2]);simp(maxSteps:=2000000)only[push_cast,seval,↓kw2,m1,m2,m3,n1,n2,n3,l1,l2,List.append_eq,hw,zAj]
   repeat' (first | apply And.intro | intro _)
   all_goals exact⟨_,rfl,zAa rfl rfl⟩
theorem e66:Ent zP 66 Tryz.f66 [] 2:=.mk Tryz.func66 rfl
attribute [push_cast] Tryz.f66
theorem same18{s r:AV}:∀ {l k:List Jb},JobsS s l->JobsS r k->l.length<=2^20->(∀ j∈l,j.after.length<=2^20)->Pur zP GG 66 [s,r] (B (sameJ l k)):=by
 intro l k hs hr hl ha
 have hps:=hs.pur;have hpr:=hr.pur;have l1:=hs.1.len (P:=zP) un53;have l2:=hr.1.len (P:=zP) un53;rw[zM]at l1 l2
 by_cases hll:l.length=k.length
 ·have d0:decide ((l.length:Int)≠(k.length:Int))=false:=by simp[hll]
  have hix:=fun(i:Nat) (hi:i < l.length) (H:List AO)=>hs.1.idx (P:=zP) un53 sz83 (i:=(i:Int)) (by rw[zM]; omega) (by omega) H
  have hiy:=fun(i:Nat) (hi:i < k.length) (H:List AO)=>hr.1.idx (P:=zP) un53 sz83 (i:=(i:Int)) (by rw[zM]; omega) (by omega) H
  refine goQ e66 TOk.nil 0 ?_ (by simp[AV.purL,AV.pur,hps,hpr]);simp(maxSteps:=2000000)only[push_cast,seval,↓kw2,l1,l2,d0];refine FW.loopInv (fun m ts H=>∃ i:Nat,i+m=l.length/\sameJ (l.drop i) (k.drop i)=sameJ l k/\ts 0=s/\ts 1=r/\ts 5=I (i:Int)) l.length
   ⟨0,by omega,rfl,rfl,rfl,rfl⟩ ?_
  rintro m ih ts H ⟨i,hi,hf,t0,t1,t5⟩
  refine FW.inLoop ?_;have w2:=zAh (n:=(i:Int)+1) (by omega) (by omega)
  by_cases hlt:i < l.length
  ·have d1:decide ((i:Int) < (l.length:Int))=true:=zT (by omega);have hx:=hix i hlt;have hy:=hiy i (by omega);simp only[Int.toNat_natCast]at hx hy;rw[zAe Jb.av l default hlt]at hx;rw[zAe Jb.av k default (by omega)]at hy;have hal:=ha (l.getD i default) (by simp[List.getD,hlt]);have gx:=hs.get i;have gy:=hr.get i;rw[zAr default hlt,zAr (l:=k) (i:=i) default (by omega)]at hf
   generalize l.getD i default=u at hx gx hf hal
   generalize k.getD i default=v at hy gy hf
   rw[show sameJ (u::l.drop (i+1)) (v::k.drop (i+1))=(u.same v&&sameJ (l.drop (i+1)) (k.drop (i+1))) from rfl]at hf;obtain⟨m1,m2,m3⟩:=IsSl.cell gx;obtain⟨n1,n2,n3⟩:=IsSl.cell gy;have hc1:=Jb.cells u;have hc2:=Jb.cells v;rw[hc1]at hx;rw[hc2]at hy;have hS:=sameOne18 gx gy hal;have hb1:(0<=(i:Int)/\(i:Int) < ((l.map Jb.av).length:Int)):=⟨by omega,by rw[zM]; omega⟩;have hb2:(0<=(i:Int)/\(i:Int) < ((k.map Jb.av).length:Int)):=⟨by omega,by rw[zM]; omega⟩;refine goN ?_;simp(maxSteps:=2000000)only[push_cast,seval,↓kw2,t0,t1,t5,l1,d1,hx,hy,m1,m2,m3,n1,n2,n3]
   repeat (first | refine⟨hb1,?_⟩ | refine⟨hb2,?_⟩)
   refine⟨_,toVP hS,?_⟩;cases hv:u.same v
   ·rw[hv,Bool.false_and]at hf;rw[<- hf];simp(maxSteps:=2000000)only[push_cast,seval,↓kw2,t0,t1,t5];exact⟨_,rfl,zAa rfl rfl⟩
   ·rw[hv,Bool.true_and]at hf;simp(maxSteps:=2000000)only[push_cast,seval,↓kw2,t0,t1,t5,w2];exact ih (m - 1) (by omega) _ _ ⟨i+1,by omega,hf,t0,t1,rfl⟩
  ·have d1:decide ((i:Int) < (l.length:Int))=false:=zF (by omega);rw[List.drop_eq_nil_of_le (by omega),List.drop_eq_nil_of_le (by omega)]at hf;refine goN ?_;simp(maxSteps:=2000000)only[push_cast,seval,↓kw2,t0,t1,t5,l1,d1];exact⟨_,rfl,zAa rfl (by rw[<- hf]; rfl)⟩
 ·have d0:decide ((l.length:Int)≠(k.length:Int))=true:=by simp; omega
  have hne:∀(l k:List Jb),¬l.length=k.length->sameJ l k=false:=by
   intro l
   induction l with
   | nil =>
    intro k h
    cases k with
    | nil=>exact absurd rfl h
    | cons=>rfl
   | cons x l ihl =>
    intro k h
    cases k with
    | nil=>rfl
    | cons y k =>
     show(x.same y&&sameJ l k)=false;rw[ihl k (fun e=>h (by simp[e])),Bool.and_false]
  rw[hne l k hll];refine goQ e66 TOk.nil 0 ?_ (by simp[AV.purL,AV.pur,hps,hpr]);simp(maxSteps:=2000000)only[push_cast,seval,↓kw2,l1,l2,d0];exact⟨_,rfl,zAa rfl rfl⟩
theorem e266:Ent zP 266 Tryz.f266 [] 2:=.mk Tryz.func266 rfl
attribute [push_cast] Tryz.f266
theorem state20{s:AV}{l:List Jb}(hs:JobsS s l)(hl:l.length<=2^20)(id:Int):Pur zP GG 266 [s,I id] (U8 (zFq l id)):=by
 have hpu:=hs.pur;have hA:=at18 hs hl id;unfold zFq
 by_cases h:zBm l id < 0
 ·have d1:=zT h;rw[if_pos h];refine goQ e266 TOk.nil 0 ?_ (by simp[AV.purL,AV.pur,hpu]);simp only[push_cast,seval,↓kw2];refine AC.pur hA ?_;refine goN ?_;simp only[push_cast,seval,↓kw2,d1];exact⟨_,rfl,zAa rfl rfl⟩
 ·have d1:=zF h;rw[if_neg h];obtain⟨k,_,hk,e,_⟩:=firstN_yes (n:=l.length) (i:=0) (pr:=fun i=>decide ((l.getD i default).id=id)) (fun e=>h (by unfold zBm; rw[e]; decide));have e':zBm l id=(k:Int):=e;rw[e']at hA d1 ⊢;have hkl:k < l.length:=by omega
  have hx:=fun(H:List AO)=>hs.1.idx (P:=zP) un53 sz83 (i:=(k:Int)) (by rw[zM]; omega) (by omega) H
  simp only[Int.toNat_natCast]at hx ⊢;rw[zAe Jb.av l default hkl]at hx;have hg:=hs.get k
  generalize l.getD k default=j at hx hg
  obtain⟨m1,m2,m3⟩:=IsSl.cell hg;have hcy:=Jb.cells j;rw[hcy]at hx;have hbb:(0<=(k:Int)/\(k:Int) < ((l.map Jb.av).length:Int)):=⟨by omega,by rw[zM]; omega⟩;refine goQ e266 TOk.nil 0 ?_ (by simp[AV.purL,AV.pur,hpu]);simp only[push_cast,seval,↓kw2];refine AC.pur hA ?_;refine goN ?_;simp only[push_cast,seval,↓kw2,d1,hx,m1,m2,m3]
  repeat (first | refine⟨hbb,?_⟩)
  exact⟨_,rfl,zAa rfl rfl⟩
theorem e225:Ent zP 225 Tryz.f225 [] 2:=.mk Tryz.func225 rfl
attribute [push_cast] Tryz.f225
theorem never20{s:AV}{l:List Jb}(hs:JobsS s l)(hl:l.length<=2^20){j:Jb}(hj:j.good)(hjl:j.after.length<=2^20):Pur zP GG 225 [s,j.av] (B (zDe l j)):=by
 have hpu:=hs.pur;have hpj:=IsSl.pur hj (zAc IA _ (fun _=>rfl));obtain⟨m1,m2,m3⟩:=IsSl.cell hj;have hlen:=IsSl.len (P:=zP) hj un56;rw[zM]at hlen;have hidx:=fun(i:Nat) (hi:i < j.after.length) (H:List AO)=>IsSl.idx (P:=zP) hj un56 sz3 (i:=(i:Int)) (by rw[zM]; omega) (by omega) H
 unfold zDe;show Pur zP GG 225 [s,JB j.id j.user j.cls j.w j.wall j.prio j.held j.aft j.st j.came] _
 by_cases h1:j.st=1
 ·have d0:decide (j.st≠1)=false:=by simp[h1]
  rw[zT h1,Bool.true_and];refine goQ e225 TOk.nil 0 ?_ (by simp[AV.purL,AV.pur,hpu,hpj]);simp only[push_cast,seval,↓kw2,m1,m2,m3,d0];refine FW.loopInv (fun m ts H=>∃ i:Nat,i+m=j.after.length/\anyN (fun i=>decide (3 < zFq l (j.after.getD i 0))) m i=anyN (fun i=>decide (3 < zFq l (j.after.getD i 0))) j.after.length 0/\H=[.cells [I j.id,I j.user,I j.cls,I j.w.p,I j.w.q,I j.w.r,B j.w.s,B j.w.t,B j.w.u,B j.w.v,I j.wall,I j.prio,B j.held,j.aft,.c (.int .u8 j.st),I j.came]]/\ts 0=s/\ts 3=.ptr 0 0/\ts 5=I (i:Int)) j.after.length
   ⟨0,by omega,rfl,rfl,rfl,rfl,rfl⟩ ?_
  rintro m ih ts H ⟨i,hi,hf,rfl,t0,t3,t5⟩
  refine FW.inLoop ?_;have w2:=zAh (n:=(i:Int)+1) (by omega) (by omega)
  by_cases hlt:i < j.after.length
  ·have d1:decide ((i:Int) < (j.after.length:Int))=true:=zT (by omega);have hx:=hidx i hlt;simp only[Int.toNat_natCast]at hx;rw[zAe IA j.after 0 hlt]at hx;obtain⟨m,rfl⟩:∃ m',m=m'+1:=⟨m - 1,by omega⟩;have hf':(decide (3 < zFq l (j.after.getD i 0))||anyN (fun i=>decide (3 < zFq l (j.after.getD i 0))) m (i+1))=anyN (fun i=>decide (3 < zFq l (j.after.getD i 0))) j.after.length 0:=hf;have hA:=state20 hs hl (j.after.getD i 0)
   generalize j.after.getD i 0=k at hx hf' hA
   have hbb:(0<=(i:Int)/\(i:Int) < ((j.after.map IA).length:Int)):=⟨by omega,by rw[zM]; omega⟩;refine goN ?_;simp only[push_cast,seval,↓kw2,t0,t3,t5,m1,m2,m3,hlen,d1,hx]
   repeat (first | refine⟨hbb,?_⟩)
   refine AC.pur hA ?_
   by_cases hk:3 < zFq l k
   ·have d2:=zT hk;rw[d2,Bool.true_or]at hf';rw[<- hf'];refine goN ?_;simp only[push_cast,seval,↓kw2,t0,t3,t5,d2];exact⟨_,rfl,zAa rfl rfl⟩
   ·have d2:=zF hk;rw[d2,Bool.false_or]at hf';refine goN ?_;simp only[push_cast,seval,↓kw2,t0,t3,t5,d2,w2];exact ih m (by omega) _ _ ⟨i+1,by omega,hf',rfl,t0,t3,rfl⟩
  ·have d1:decide ((i:Int) < (j.after.length:Int))=false:=zF (by omega);have hm:m=0:=by omega
   subst hm;rw[<- hf];refine goN ?_;simp only[push_cast,seval,↓kw2,t0,t3,t5,m1,m2,m3,hlen,d1];exact⟨_,rfl,zAa rfl rfl⟩
 ·have d0:decide (j.st≠1)=true:=by simp[h1]
  rw[zF h1,Bool.false_and];refine goQ e225 TOk.nil 0 ?_ (by simp[AV.purL,AV.pur,hpu,hpj]);simp only[push_cast,seval,↓kw2,m1,m2,m3,d0];exact⟨_,rfl,zAa rfl rfl⟩
theorem getD_mapcp(l:List Jb)(i:Nat):(l.map Jb.cp).getD i default=if i < l.length then (l.getD i default).cp else default:=by
 by_cases h:i < l.length
 ·rw[if_pos h]; simp[List.getD,h]
 ·rw[if_neg h]; simp[List.getD,h]
theorem findN_cp(l:List Jb)(id:Int):zBm (l.map Jb.cp) id=zBm l id:=by
 unfold zBm;rw[zM];have key:∀(n i:Nat),i+n<=l.length->zBd (fun i=>decide (((l.map Jb.cp).getD i default).id=id)) n i=zBd (fun i=>decide ((l.getD i default).id=id)) n i:=by
  intro n
  induction n with
  | zero=>intro i _; rfl
  | succ n ih =>
   intro i hi
   have e:((l.map Jb.cp).getD i default).id=(l.getD i default).id:=by rw[getD_mapcp,if_pos (show i < l.length by omega)]; rfl
   rw[zBn,zBn,ih (i+1) (by omega)];simp only[e]
 exact key _ _ (by omega)
theorem statR_cp(l:List Jb)(id:Int):zFq (l.map Jb.cp) id=zFq l id:=by
 unfold zFq;rw[findN_cp]
 by_cases h:zBm l id < 0
 ·rw[if_pos h,if_pos h]
 ·rw[if_neg h,if_neg h];obtain⟨k,_,hk,e,_⟩:=firstN_yes (n:=l.length) (i:=0) (pr:=fun i=>decide ((l.getD i default).id=id)) (fun e=>h (by unfold zBm; rw[e]; decide));have e':zBm l id=(k:Int):=e;rw[e',Int.toNat_natCast,getD_mapcp,if_pos (by omega)];rfl
theorem neverR_cp(l:List Jb)(j:Jb):zDe (l.map Jb.cp) j.cp=zDe l j:=by
 unfold zDe;have:(fun i=>decide (3 < zFq (l.map Jb.cp) (j.cp.after.getD i 0)))=fun i=>decide (3 < zFq l (j.after.getD i 0)):=by
  funext i
  rw[statR_cp];rfl
 rw[this];rfl
theorem same_cp(x y:Jb):x.cp.same y=x.same y:=rfl
theorem sameJ_cp:∀(l k:List Jb),sameJ (l.map Jb.cp) k=sameJ l k
 | [],[]=>rfl
 | [],_::_=>rfl
 | _::_,[]=>rfl
 | x::l,y::k=>by
  show(x.cp.same y&&sameJ (l.map Jb.cp) k)=(x.same y&&sameJ l k);rw[sameJ_cp l k,same_cp]
theorem stepR_good{l:List Jb}(i:Nat)(h:∀ j∈l,j.after.length<=2^16):∀ j∈zBl l i,j.after.length<=2^16:=by
 unfold zBl
 split
 ·intro j hj
  rcases List.mem_or_eq_of_mem_set hj with h1 | rfl
  ·exact h j h1
  ·by_cases hi:i < l.length
   ·have e:l.getD i default=l[i]:=by simp[List.getD,hi]
    show(l.getD i default).after.length<=_;rw[e];exact h _ (List.getElem_mem hi)
   ·have e:l.getD i default=default:=by simp[List.getD,hi]
    show(l.getD i default).after.length<=_;rw[e];decide
 ·exact h
theorem passR_good{l:List Jb}(h:∀ j∈l,j.after.length<=2^16):∀ n,∀ j∈passR l n,j.after.length<=2^16
 | 0=>h
 | n+1=>by rw[zDm]; exact stepR_good n (passR_good h n)
theorem setdR_good{l:List Jb}(h:∀ j∈l,j.after.length<=2^16):∀ n,∀ j∈zFc l n,j.after.length<=2^16
 | 0=>h
 | n+1=>passR_good (setdR_good h n) _
theorem cps(l:List Jb):(l.map fun j=>j.cp.av)=(l.map Jb.cp).map Jb.av:=by rw[List.map_map]; rfl
theorem cps_pur(l:List Jb):AV.purL (l.map fun j=>j.cp.av)=true:=zAc _ _ Jb.cp_pur
theorem cps_ok(l:List Jb):JobsS (.isl (l.map fun j=>j.cp.av)) (l.map Jb.cp):=⟨by rw[cps]; exact .inl rfl,fun j hj=>by obtain⟨x,_,rfl⟩:=List.mem_map.1 hj; exact x.cp_good⟩
def setdS(l:List Jb):AV:=frS ((zFc l (l.length+1)).map fun j=>j.cp.av)
theorem e175:Ent zP 175 Tryz.f175 [] 1:=.mk Tryz.func175 rfl
attribute [push_cast] Tryz.f175
theorem settled20{s:AV}{l:List Jb}(hs:JobsS s l)(hl:l.length<=2^16)(ha:∀ j∈l,j.after.length<=2^16):Pur zP GG 175 [s] (setdS l):=by
 have hpu:=hs.pur;unfold setdS;refine goQ e175 TOk.nil 0 ?_ (by simp[AV.purL,AV.pur,hpu]);simp only[push_cast,seval,↓kw2];refine twin18 hs hl ha ?_
 intro r H' hown hle1 hk1 hid1
 clear hle1 hk1 hid1;cases l with
 | nil =>
  generalize hes:([]:List Jb).map (fun j=>j.cp.av)=es at hown
  cases hown with
  | nil =>
   refine goW TOk.nil [] 6 ?_;simp only[push_cast,seval,↓kw2];exact⟨_,rfl,zAa rfl rfl⟩
  | row _ h0=>rw[<- hes]at h0; simp at h0
 | cons x l' =>
  generalize hL:x::l'=l at *
  have hpos:0 < l.length:=by rw[<- hL]; simp
  generalize hes:l.map (fun j=>j.cp.av)=es at hown
  cases hown with
  | nil=>rw[<- hL]at hes; simp at hes
  | row hid h0 =>
   rename_i id;have hel:es.length=l.length:=by rw[<- hes,zM]
   rw[hel];refine goN ?_;simp only[push_cast,seval,↓kw2];refine FW.loopInv (fun n ts H=>∃ t:Nat,t+n=l.length+1/\H[id]?=some (.arr 16 ((zFc l t).map fun j=>j.cp.av))/\ts 3=.sl id 0 l.length l.length/\ts 4=I (t:Int)) (l.length+1)
    ⟨0,by omega,by rw[hid,<- hes]; rfl,rfl,rfl⟩ ?_
   rintro n ih ts H ⟨t,ht,hr,t3,t4⟩
   refine FW.inLoop ?_;have w2:=zAh (n:=(t:Int)+1) (by omega) (by omega);have hal:=aLen_sl (P:=zP) un53 id 0 l.length l.length
   by_cases hlt:t < l.length+1
   ·have d1:decide ((t:Int)<=(l.length:Int))=true:=zT (by omega);refine goN ?_;simp only[push_cast,seval,↓kw2,t3,t4,hal,d1];refine FW.loopInv (fun n2 ts H=>∃ i:Nat,i+n2=l.length/\H[id]?=some (.arr 16 ((passR (zFc l t) i).map fun j=>j.cp.av))/\ts 3=.sl id 0 l.length l.length/\ts 4=I (t:Int)/\ts 5=I (i:Int)) l.length
     ⟨0,by omega,hr,t3,t4,rfl⟩ ?_
    clear hr t3 t4 ts H
    rintro n2 ih2 ts H ⟨i,hi,hr,t3,t4,t5⟩
    refine FW.inLoop ?_;have w3:=zAh (n:=(i:Int)+1) (by omega) (by omega)
    by_cases hil:i < l.length
    ·have d2:decide ((i:Int) < (l.length:Int))=true:=zT (by omega);have hsc:=zDm (zFc l t) i;have hyl:(passR (zFc l t) i).length=l.length:=by rw[passR_len,setdR_len]
     have hyg:=passR_good (setdR_good ha t) i;unfold zBl at hsc
     generalize passR (zFc l t) i=Y at hr hsc hyl hyg
     have hgy:(Y.map fun j=>j.cp.av).getD i .un=(Y.getD i default).cp.av:=zAe (fun j:Jb=>j.cp.av) Y default (by omega);have hjl:=hyg (Y.getD i default) (by simp[List.getD,show i < Y.length by omega]);have hN:=never20 (cps_ok Y) (by rw[zM]; omega) (Y.getD i default).cp_good (show(Y.getD i default).cp.after.length<=2^20 by show(Y.getD i default).after.length<=_; omega);rw[neverR_cp]at hN
     generalize hjj:Y.getD i default=j at hgy hsc hN hjl
     have hcx:=Jb.cells j.cp;obtain⟨m1,m2,m3⟩:=IsSl.cell j.cp_good;have hyl2:(Y.map fun j=>j.cp.av).length=l.length:=by rw[zM,hyl]
     have hb:i < (Y.map fun j=>j.cp.av).length:=by omega
     refine goN ?_;simp only[push_cast,seval,↓kw2,t3,t4,t5,hal,d2,hr,hgy,hcx,m1,m2,m3,Int.toNat_natCast,hb];have hrow:=frz_row hr (by omega) (zAc (fun j:Jb=>j.cp.av) Y Jb.cp_pur);rw[hyl2]at hrow;have hmp:mapO (frz 2 H) [.sl id 0 l.length l.length,j.cp.av]=some [.isl (Y.map fun j=>j.cp.av),j.cp.av]:=by
      show(match frz 2 H (.sl id 0 l.length l.length),mapO (frz 2 H) [j.cp.av]with | some b,some m=>some (b::m) | _,_=>none)=_;rw[hrow,zEc (by simp[AV.purL,Jb.cp_pur])]
     refine⟨⟨by omega,by omega⟩,?_⟩;refine AC.view ggp (n:=2) (args':=[.isl (Y.map fun j=>j.cp.av),j.cp.av]) hmp (by simp[AV.purL,Jb.cp_pur,AV.pur,cps_pur]) rfl hN ?_;cases hnv:zDe Y j
     ·rw[hnv,if_neg (by decide)]at hsc;refine goN ?_;simp only[push_cast,seval,↓kw2,t3,t4,t5,w3];exact ih2 (n2 - 1) (by omega) _ _ ⟨i+1,by omega,by rw[hsc]; exact hr,t3,t4,rfl⟩
     ·rw[hnv,if_pos rfl]at hsc;have hgy2:(Y.map fun j=>j.cp.av).getD i .un=JB j.cp.id j.cp.user j.cp.cls j.cp.w j.cp.wall j.cp.prio j.cp.held j.cp.aft j.cp.st j.cp.came:=hgy;have hidl:=zAd hr;have hget:∀ x,(H.set id x)[id]?=some x:=fun x=>zS hidl
      have hgs:∀ v,((Y.map fun j=>j.cp.av).set i v).getD i .un=v:=fun v=>by rw[List.getD_eq_getElem?_getD,zS hb]; rfl
      have hb2:i < ((Y.map fun j=>j.cp.av).map fun x=>x).length:=by rw[zM]; omega
      refine goN ?_;simp only[push_cast,seval,↓kw2,t3,t4,t5,w3,hr,hgy2,m1,m2,m3,hal,Int.toNat_natCast,hb,hget,hgs,List.length_set,List.set_set];refine⟨⟨by omega,by omega⟩,⟨by omega,by omega⟩,?_⟩;exact ih2 (n2 - 1) (by omega) _ _ ⟨i+1,by omega,by rw[hget,hsc,List.map_set]; rfl,t3,t4,rfl⟩
    ·have d2:decide ((i:Int) < (l.length:Int))=false:=zF (by omega);have hil:i=l.length:=by omega
     subst hil;have hst:passR (zFc l t) l.length=zFc l (t+1):=rfl;rw[hst]at hr;refine goN ?_;simp only[push_cast,seval,↓kw2,t3,t4,t5,hal,d2,w2];exact ih (n - 1) (by omega) _ _ ⟨t+1,by omega,hr,t3,rfl⟩
   ·have d1:decide ((t:Int)<=(l.length:Int))=false:=zF (by omega);have ht:t=l.length+1:=by omega
    rw[ht]at hr;have hz:=frz_row hr (by rw[zM,setdR_len]; omega) (zAc (fun j:Jb=>j.cp.av) _ Jb.cp_pur);rw[zM,setdR_len]at hz;refine goN ?_;simp only[push_cast,seval,↓kw2,t3,t4,hal,d1];exact⟨_,rfl,2,by rw[hz,zFa (by rw[zM,setdR_len]; omega)]⟩
theorem wlen{n:Int}(hn:n<=12288)(l:List Int):(ofL n l).length<=2^12:=by
 rw[ofL_length];unfold zBe
 split <;> omega
theorem e177:Ent zP 177 Tryz.f177 [] 3:=.mk Tryz.func177 rfl
attribute [push_cast] Tryz.f177
theorem meet21{a b c:Int}{X Y:Plc}(hX:X.ok a b c)(hY:Y.ok a b c):Pur zP GG 177 [.agg [I a,I b,I c],X.av,Y.av] (B (meetR a b c X Y)):=by
 have hd:=hX.1;have hN:=okD_pos hd;have hT:=taken06 X.s X.t X.u hd hX.2.1;have hT2:=taken06 Y.s Y.t Y.u hd hY.2.1;have hM1:=meets_pur (.inl rfl) (.inl rfl) (zCu (a*b*c) (boxL a b c X.x X.y X.z X.p X.q X.r)) (zCu (a*b*c) (boxL a b c Y.x Y.y Y.z Y.p Y.q Y.r)) (wlen (by omega) _) (wlen (by omega) _);have hM2:=meets_pur (.inl rfl) (.inl rfl) (zCu (3*(a*b*c)) (cabL a b c X.x X.y X.z X.p X.q X.r X.s X.t X.u)) (zCu (3*(a*b*c)) (cabL a b c Y.x Y.y Y.z Y.p Y.q Y.r Y.s Y.t Y.u)) (wlen (by omega) _) (wlen (by omega) _);unfold meetR;show Pur zP GG 177 [.agg [I a,I b,I c],PL X.x X.y X.z X.p X.q X.r X.s X.t X.u,PL Y.x Y.y Y.z Y.p Y.q Y.r Y.s Y.t Y.u] _
 generalize ofL (a*b*c) (boxL a b c X.x X.y X.z X.p X.q X.r)=A at *
 generalize ofL (a*b*c) (boxL a b c Y.x Y.y Y.z Y.p Y.q Y.r)=A' at *
 generalize ofL (3*(a*b*c)) (cabL a b c X.x X.y X.z X.p X.q X.r X.s X.t X.u)=C at *
 generalize ofL (3*(a*b*c)) (cabL a b c Y.x Y.y Y.z Y.p Y.q Y.r Y.s Y.t Y.u)=C' at *
 cases h1:meetB A A'
 all_goals
  rw[h1]at hM1;refine goQ e177 TOk.nil 0 ?_;simp only[push_cast,seval,↓kw2];refine AC.pur hT ?_;refine goN ?_;simp only[push_cast,seval,↓kw2];refine AC.pur hT2 ?_;refine goN ?_;simp only[push_cast,seval,↓kw2];refine AC.pur hM1 ?_;refine goN ?_;simp only[push_cast,seval,↓kw2]
 ·refine AC.pur hM2 ?_;refine goN ?_;simp only[push_cast,seval,↓kw2];exact⟨_,rfl,zAa rfl rfl⟩
 ·exact⟨_,rfl,zAa rfl rfl⟩
theorem e180:Ent zP 180 Tryz.f180 [] 2:=.mk Tryz.func180 rfl
attribute [push_cast] Tryz.f180
theorem spans21(f t g u:Int):Pur zP GG 180 [.agg [I f,I t],.agg [I g,I u]] (B (decide (f < u)&&decide (g < t))):=by
 refine goQ e180 TOk.nil 0 ?_;simp only[push_cast,seval,↓kw2]
 repeat' (first | apply And.intro | intro _)
 all_goals
  refine⟨_,rfl,zAa rfl (congrArg B ?_)⟩;rw[Bool.eq_iff_iff];simp
  try omega
theorem e181:Ent zP 181 Tryz.f181 [] 1:=.mk Tryz.func181 rfl
attribute [push_cast] Tryz.f181
theorem kept21(x y z p q r:Int):Pur zP GG 181 [.agg [I x,I y,I z,I p,I q,I r]] (keptP x y z p q r).av:=by
 refine goQ e181 TOk.nil 0 ?_;simp only[push_cast,seval,↓kw2];exact⟨_,rfl,zAa rfl rfl⟩
theorem e226:Ent zP 226 Tryz.f226 [] 2:=.mk Tryz.func226 rfl
attribute [push_cast] Tryz.f226
theorem job21{s:Sta}(h:s.good)(hl:s.lim)(p:Prt):Pur zP GG 226 [s.av,p.av] (.tup [(s.jobOf p).av,B (s.isJob p)]):=by
 have hZ:=h.cell;obtain⟨⟨⟨a1,a2,a3⟩,b1,b2,b3⟩,⟨⟨c1,c2,c3⟩,d1,d2,d3⟩,⟨e1,e2,e3⟩,⟨f1,f2,f3⟩,g1,g2,g3⟩:=h.cell;obtain⟨p1,p2,p3,p4,p5,p6,p7⟩:=h.purs;have hf:=at18 h.js hl.jl p.job;have hpj:=Jb.pur (s.jobOf_good h p);unfold Sta.isJob;show Pur zP GG 226 [ST s.c.a s.c.b s.c.c s.c.boot s.c.free s.c.tries s.c.age s.cs s.now s.next s.js s.ps s.ks s.ds s.hs s.us,PA p.job p.pl p.ph p.tries p.since] _
 by_cases hn:zBm s.jobs p.job < 0
 ·have dn:=zT hn;rw[zF (by omega)];have hjo:s.jobOf p=default:=by rw[Sta.jobOf,if_pos hn]
  rw[hjo];refine goQ e226 TOk.nil 0 ?_ (by simp[AV.purL,AV.pur,p1,p2,p3,p4,p5,p6,p7]);simp only[push_cast,seval,↓kw2,hZ];refine AC.pur hf ?_;refine goN ?_;simp only[push_cast,seval,↓kw2,hZ,dn];exact⟨_,rfl,zAa rfl rfl⟩
 ·have dn:=zF hn;obtain⟨h0,h1,_⟩:=findN_lt hn;rw[zT h0];have hjo:s.jobOf p=s.jobs.getD (zBm s.jobs p.job).toNat default:=by rw[Sta.jobOf,if_neg hn]
  have hx:=h.js.1.idx (P:=zP) un53 sz83 (i:=zBm s.jobs p.job) (by rw[zM]; omega) h0;have hgx:=zAe Jb.av s.jobs default h1;rw[hgx,<- hjo]at hx;have hg:=s.jobOf_good h p
  generalize s.jobOf p=j at hx hpj hg
  have hcx:=Jb.cells j;obtain⟨m1,m2,m3⟩:=IsSl.cell hg;have hbb:(0<=zBm s.jobs p.job/\zBm s.jobs p.job < ((s.jobs.map Jb.av).length:Int)):=⟨h0,by rw[zM]; omega⟩;simp only[Jb.av,AV.pur,AV.purL]at hpj;refine goQ e226 TOk.nil 0 ?_ (by simp[AV.purL,AV.pur,p1,p2,p3,p4,p5,p6,p7]);simp only[push_cast,seval,↓kw2,hZ];refine AC.pur hf ?_;refine goN ?_;simp only[push_cast,seval,↓kw2,hZ,hx,hcx,m1,m2,m3,dn];refine⟨hbb,?_⟩;exact⟨_,rfl,zAa (by simpa[Jb.av,AV.pur,AV.purL]using hpj) rfl⟩
theorem e182:Ent zP 182 Tryz.f182 [] 2:=.mk Tryz.func182 rfl
attribute [push_cast] Tryz.f182
theorem ends21{s:Sta}(h:s.good)(hl:s.lim)(p:Prt)(hb:0<=s.c.boot/\s.c.boot<=1048576)(hfr:0<=s.c.free/\s.c.free<=1048576)(hw:0<=(s.jobOf p).wall/\(s.jobOf p).wall<=1048576)(hsi:0<=p.since/\p.since<=1099511627776) :
  Pur zP GG 182 [s.av,p.av] (I (s.ends p)):=by
 have hZ:=h.cell;obtain⟨⟨⟨a1,a2,a3⟩,b1,b2,b3⟩,⟨⟨c1,c2,c3⟩,d1,d2,d3⟩,⟨e1,e2,e3⟩,⟨f1,f2,f3⟩,g1,g2,g3⟩:=h.cell;obtain⟨p1,p2,p3,p4,p5,p6,p7⟩:=h.purs;have hj:=job21 h hl p;have hg:=s.jobOf_good h p;have hL:=left16 s.c h.cs p.ph (s.jobOf p).wall hb hfr hw;unfold Sta.ends;simp only[Sta.av,Prt.av]at hj
 generalize s.jobOf p=j at hj hg hw hL
 obtain⟨m1,m2,m3⟩:=IsSl.cell hg;simp only[Jb.av]at hj;simp only[Cfg.av]at hL;have hv:0<=(if p.ph=1 then s.c.boot+j.wall+s.c.free else if p.ph=2 then j.wall+s.c.free else s.c.free)/\(if p.ph=1 then s.c.boot+j.wall+s.c.free else if p.ph=2 then j.wall+s.c.free else s.c.free)<=3145728:=by split <;> (try split) <;> omega
 generalize (if p.ph=1 then s.c.boot+j.wall+s.c.free else if p.ph=2 then j.wall+s.c.free else s.c.free)=v at hL hv ⊢
 have w1:=zAh (n:=p.since+v) (by omega) (by omega);show Pur zP GG 182 [ST s.c.a s.c.b s.c.c s.c.boot s.c.free s.c.tries s.c.age s.cs s.now s.next s.js s.ps s.ks s.ds s.hs s.us,PA p.job p.pl p.ph p.tries p.since] _;refine goQ e182 TOk.nil 0 ?_ (by simp[AV.purL,AV.pur,p1,p2,p3,p4,p5,p6,p7]);simp only[push_cast,seval,↓kw2,hZ];refine AC.pur hj ?_;refine goN ?_;simp only[push_cast,seval,↓kw2,hZ,m1,m2,m3,w1];refine⟨_,toVP hL,?_⟩
 try simp only[push_cast,seval,↓kw2,hZ,m1,m2,m3,w1]
 exact⟨_,rfl,zAa rfl rfl⟩
theorem e229:Ent zP 229 Tryz.f229 [] 2:=.mk Tryz.func229 rfl
attribute [push_cast] Tryz.f229
theorem stands21{s:Sta}(h:s.good)(hl:s.lim){X:Plc}(hX:X.ok s.c.a s.c.b s.c.c)(hm1:zCd (s.c.a*s.c.b*s.c.c) s.down=true)(hm2:zCd (3*(s.c.a*s.c.b*s.c.c)) s.cut=true):Pur zP GG 229 [s.av,X.av] (B (standsR s X)):=by
 have hZ:=h.cell;obtain⟨⟨⟨a1,a2,a3⟩,b1,b2,b3⟩,⟨⟨c1,c2,c3⟩,d1,d2,d3⟩,⟨e1,e2,e3⟩,⟨f1,f2,f3⟩,g1,g2,g3⟩:=h.cell;obtain⟨p1,p2,p3,p4,p5,p6,p7⟩:=h.purs;have hd:=hX.1;have hN:=okD_pos hd;have hT:=taken06 X.s X.t X.u hd hX.2.1;have hn:=n01 s.c.a s.c.b s.c.c hd;have w3:=zAh (n:=3*(s.c.a*s.c.b*s.c.c)) (by omega) (by omega);have hF1:=from_pur (n:=s.c.a*s.c.b*s.c.c) h.ds (by omega) (mark_in hm1).1 (by have:=hl.dl; omega);have hF2:=from_pur (n:=3*(s.c.a*s.c.b*s.c.c)) h.us (by omega) (mark_in hm2).1 (by have:=hl.ul; omega);have hM1:=meets_pur (.inl rfl) (.inl rfl) (zCu (s.c.a*s.c.b*s.c.c) (boxL s.c.a s.c.b s.c.c X.x X.y X.z X.p X.q X.r)) (zCu (s.c.a*s.c.b*s.c.c) s.down) (wlen (by omega) _) (wlen (by omega) _);have hM2:=meets_pur (.inl rfl) (.inl rfl) (zCu (3*(s.c.a*s.c.b*s.c.c)) (cabL s.c.a s.c.b s.c.c X.x X.y X.z X.p X.q X.r X.s X.t X.u)) (zCu (3*(s.c.a*s.c.b*s.c.c)) s.cut) (wlen (by omega) _) (wlen (by omega) _);unfold standsR;show Pur zP GG 229 [ST s.c.a s.c.b s.c.c s.c.boot s.c.free s.c.tries s.c.age s.cs s.now s.next s.js s.ps s.ks s.ds s.hs s.us,PL X.x X.y X.z X.p X.q X.r X.s X.t X.u] _
 generalize ofL (s.c.a*s.c.b*s.c.c) (boxL s.c.a s.c.b s.c.c X.x X.y X.z X.p X.q X.r)=A at *
 generalize ofL (s.c.a*s.c.b*s.c.c) s.down=A' at *
 generalize ofL (3*(s.c.a*s.c.b*s.c.c)) (cabL s.c.a s.c.b s.c.c X.x X.y X.z X.p X.q X.r X.s X.t X.u)=C at *
 generalize ofL (3*(s.c.a*s.c.b*s.c.c)) s.cut=C' at *
 cases h1:meetB A A'
 all_goals
  rw[h1]at hM1;refine goQ e229 TOk.nil 0 ?_ (by simp[AV.purL,AV.pur,p1,p2,p3,p4,p5,p6,p7]);simp only[push_cast,seval,↓kw2,hZ,w3];refine AC.pur hT ?_;refine goN ?_;simp only[push_cast,seval,↓kw2,hZ,w3];refine AC.pur hn ?_;refine goN ?_;simp only[push_cast,seval,↓kw2,hZ,w3];refine AC.pur hF1 ?_;refine goN ?_;simp only[push_cast,seval,↓kw2,hZ,w3];refine AC.pur hM1 ?_;refine goN ?_;simp only[push_cast,seval,↓kw2,hZ,w3]
 ·refine AC.pur hF2 ?_;refine goN ?_;simp only[push_cast,seval,↓kw2,hZ,w3];refine AC.pur hM2 ?_;refine goN ?_;simp only[push_cast,seval,↓kw2,hZ,w3];exact⟨_,rfl,zAa rfl rfl⟩
 ·exact⟨_,rfl,zAa rfl rfl⟩
theorem LiveS.len{H:List AO}{s r:AV}{l:List Prt}(h:LiveS 13 H s r (l.map Prt.av)):aLen zP 54 r=some (l.length:Int):=by
 generalize hm:l.map Prt.av=m at h
 have hl:m.length=l.length:=by rw[<- hm,zM]
 cases h with
 | nil=>unfold aLen; simp only[un54]; rw[<- hl]; rfl
 | zs=>unfold aLen; simp only[un54]; rw[<- hl]; rfl
 | row h h0=>unfold aLen; simp only[un54,hl]
end Go.Ab.Pd
namespace Go.Ab
def apR(n:Nat):List AV->AV
 | []=>.c (.slice none 0 0)
 | l=>.sl n 0 l.length l.length
def apX(k:Nat):List AV->List AO
 | []=>[]
 | l=>[.arr k l]
theorem apR_cell(n:Nat)(l:List AV):(apR n l).isCell=true/\(apR n l).isEl=true/\(apR n l).cells=[apR n l]:=by
 cases l <;> exact⟨rfl,rfl,rfl⟩
theorem apR_own{k n:Nat}{H:List AO}{l:List AV}(h:l≠[]->H[n]?=some (.arr k l)):OwnK k H (apR n l) l:=by
 cases l with
 | nil=>exact .nil
 | cons x l=>exact .row (h (by simp)) (by simp)
theorem apR_id{n i:Nat}{l:List AV}(h:zAl (apR n l)=some i):i=n/\l≠[]:=by
 cases l with
 | nil=>cases h
 | cons x l=>cases h; exact⟨rfl,by simp⟩
theorem apX_get{k:Nat}{l:List AV}(A B:List AO)(h:l≠[]):(A++(apX k l++B))[A.length]?=some (.arr k l):=by
 cases l with
 | nil=>exact absurd rfl h
 | cons x l=>simp[apX]
theorem apX_own{k n:Nat}{H:List AO}{l:List AV}(A B:List AO)(hH:H=A++(apX k l++B))(hn:n=A.length):OwnK k H (apR n l) l:=apR_own fun hne=>by rw[hH,hn]; exact apX_get A B hne
theorem apX_len{k:Nat}{l:List AV}(h:l≠[]):(apX k l).length=1:=by
 cases l with
 | nil=>exact absurd rfl h
 | cons x l=>rfl
theorem aApp0{P:Program}{t u e e':TypeId}(ht:P.underlying t=some (.slice e))(hu:P.underlying u=some (.slice e')){z:AV}{by' k:Nat}(hz:zBk P e=some z)(hz1:z.cells.length=k)(hb:zCe P e=some by')
  {s:AV} {l:List AV} (hs:IsSl s l) (hl:∀ x∈l,x.cells.length=k) (h1:l.length*by'<=2^40) (h2:l.length<=2^40) :
  ∃ C:List AO->Prop,(∀ H,zBb P t u (.c (.slice none 0 0)) s H=some ⟨C H,apR H.length l,H++apX k l⟩)/\∀ H,C H:=by
 have key:∀ H,∃ C:Prop,zBb P t u (.c (.slice none 0 0)) s H=some ⟨C,apR H.length l,H++apX k l⟩/\C:=by
  intro H
  have hc:0 < l.length->(l.getD 0 .un).cells.length=k:=fun h0=>by
   cases l with
   | nil=>simp at h0
   | cons x l=>simpa[List.getD]using hl x (by simp)
  cases l with
  | nil =>
   have:zBb P t u (.c (.slice none 0 0)) s H=some ⟨True,.c (.slice none 0 0),H⟩:=by
    rcases hs with hs | ⟨_,hs⟩
    all_goals
     unfold zBb;simp[ht,hu,hz,hb,hs,elsOf,zCh]
   exact⟨True,by rw[this]; simp[apR,apX],trivial⟩
  | cons x l =>
   have hs:s=.isl (x::l):=by
    rcases hs with hs | ⟨h,_⟩
    ·exact hs
    ·cases h
   unfold zBb;simp only[ht,hu,hz,hb,hz1,elsOf,hs,zCh,apR,apX,List.length_cons,List.length_nil,Nat.zero_add,List.nil_append];exact⟨_,rfl,⟨hc,by simpa using h1,by simpa using h2⟩⟩
 obtain⟨C,hC⟩:=Classical.skolem.1 key;exact⟨C,fun H=>(hC H).1,fun H=>(hC H).2⟩
theorem pre_ap{H H':List AO}(hle:H.length<=H'.length)(hk:∀ q,q < H.length->H'[q]?=H[q]?):∃ X,H'=H++X:=⟨H'.drop H.length,by
 refine List.ext_getElem? fun i=>?_
 by_cases hi:i < H.length
 ·rw[hk i hi,zL hi]
 ·rw[List.getElem?_append_right (by omega),List.getElem?_drop,show H.length+(i - H.length)=i by omega]⟩
end Go.Ab
namespace Go.Ab.Pd
open Go.Proofs
open Go.Proofs.Tryz renaming prog->zP
theorem zCj{k:Nat}{H:List AO}{s:AV}{l:List AV}(h:OwnK k H s l)(hp:AV.purL l=true):frz 2 H s=some (frS l):=by
 cases h with
 | nil=>rfl
 | row h h0=>rw[frz_row h h0 hp,zFa h0]
def Sta.cp(s:Sta):Sta:={ s with cs:=frS (s.c.cls.map Cls.av),jobs:=s.jobs.map Jb.cp,js:=frS (s.jobs.map fun j=>j.cp.av),ps:=frS (s.parts.map Prt.av),ks:=frS (s.keeps.map Kep.av),ds:=frS (s.down.map IA),hs:=frS (s.shut.map IA),us:=frS (s.cut.map IA) }
theorem Sta.cp_good(s:Sta):s.cp.good:=⟨IsSl.frS _,⟨by show IsSl (frS (s.jobs.map fun j=>j.cp.av)) _; rw[cps]; exact IsSl.frS _,fun j hj=>by obtain⟨x,_,rfl⟩:=List.mem_map.1 hj; exact x.cp_good⟩,IsSl.frS _,IsSl.frS _,IsSl.frS _,IsSl.frS _,IsSl.frS _⟩
theorem ST_frz7{H:List AO}{a b c p q r t now next:Int}{cs js ps ks ds hs us cs' js' ps' ks' ds' hs' us':AV}(f1:frz 2 H cs=some cs')(f2:frz 2 H js=some js')(f3:frz 2 H ps=some ps')(f4:frz 2 H ks=some ks')(f5:frz 2 H ds=some ds')(f6:frz 2 H hs=some hs')(f7:frz 2 H us=some us') :
  frz 3 H (ST a b c p q r t cs now next js ps ks ds hs us)=some (ST a b c p q r t cs' now next js' ps' ks' ds' hs' us'):=by
 have hpu:∀ {a a':AV},a.pur=true->frz 2 H a=some a'->a'=a:=fun h e=>by rw[zBh h]at e; exact(Option.some.inj e).symm
 unfold Go.Ab.frz
 split
 ·rename_i hq;simp[AV.pur,AV.purL]at hq;obtain⟨h1,h2,h3,h4,h5,h6,h7⟩:=hq;rw[hpu h1 f1,hpu h2 f2,hpu h3 f3,hpu h4 f4,hpu h5 f5,hpu h6 f6,hpu h7 f7]
 ·simp only[mapO,f1,f2,f3,f4,f5,f6,f7,zBh (a:=I a) rfl,zBh (a:=I b) rfl,zBh (a:=I c) rfl,zBh (a:=I p) rfl,zBh (a:=I q) rfl,zBh (a:=I r) rfl,zBh (a:=I t) rfl,zBh (a:=I now) rfl,zBh (a:=I next) rfl];rfl
theorem e15:Ent zP 15 Tryz.f15 [] 1:=.mk Tryz.func15 rfl
attribute [push_cast] Tryz.f15
theorem twin21_ac{s:Sta}(h:s.good)(hl2:s.lim2){H:List AO}{K:AV->List AO->Prop}
  (hK:∀ rc rj rp rk rd rh ru X,OwnK 4 (H++X) rc (s.c.cls.map Cls.av)->OwnK 16 (H++X) rj (s.jobs.map fun j=>j.cp.av)->OwnK 13 (H++X) rp (s.parts.map Prt.av)->OwnK 9 (H++X) rk (s.keeps.map Kep.av)->OwnK 1 (H++X) rd (s.down.map IA)->OwnK 1 (H++X) rh (s.shut.map IA)->OwnK 1 (H++X) ru (s.cut.map IA) ->
   (∀ i,zAl rk=some i->H.length<=i/\zAl rc≠some i/\zAl rj≠some i/\zAl rp≠some i/\zAl rd≠some i/\zAl rh≠some i/\zAl ru≠some i)->K (ST s.c.a s.c.b s.c.c s.c.boot s.c.free s.c.tries s.c.age rc s.now s.next rj rp rk rd rh ru) (H++X)) :
  AC zP GG 15 [s.av] H K:=by
 have hZ:=h.cell;obtain⟨⟨⟨a1,a2,a3⟩,b1,b2,b3⟩,⟨⟨c1,c2,c3⟩,d1,d2,d3⟩,⟨e1,e2,e3⟩,⟨f1,f2,f3⟩,g1,g2,g3⟩:=h.cell;obtain⟨p1,p2,p3,p4,p5,p6,p7⟩:=h.purs;obtain⟨l1,l2,l3,l4,l5,l6,l7,l8⟩:=hl2;obtain⟨C1,k1,m1⟩:=aApp0 (P:=zP) un50 un50 ze72 rfl by72 h.cs (k:=4) (fun x hx=>by obtain⟨_,_,rfl⟩:=List.mem_map.1 hx; rfl) (by rw[zM]; omega) (by rw[zM]; omega);obtain⟨C3,k3,m3⟩:=aApp0 (P:=zP) un54 un54 ze70 rfl by70 h.ps (k:=13) (fun x hx=>by obtain⟨_,_,rfl⟩:=List.mem_map.1 hx; rfl) (by rw[zM]; omega) (by rw[zM]; omega);obtain⟨C4,k4,m4⟩:=aApp0 (P:=zP) un55 un55 ze68 rfl by68 h.ks (k:=9) (fun x hx=>by obtain⟨_,_,rfl⟩:=List.mem_map.1 hx; rfl) (by rw[zM]; omega) (by rw[zM]; omega);obtain⟨C5,k5,m5⟩:=aApp0 (P:=zP) un56 un56 ze3 rfl by3 h.ds (k:=1) (fun x hx=>by obtain⟨_,_,rfl⟩:=List.mem_map.1 hx; rfl) (by rw[zM]; omega) (by rw[zM]; omega);obtain⟨C6,k6,m6⟩:=aApp0 (P:=zP) un56 un56 ze3 rfl by3 h.hs (k:=1) (fun x hx=>by obtain⟨_,_,rfl⟩:=List.mem_map.1 hx; rfl) (by rw[zM]; omega) (by rw[zM]; omega);obtain⟨C7,k7,m7⟩:=aApp0 (P:=zP) un56 un56 ze3 rfl by3 h.us (k:=1) (fun x hx=>by obtain⟨_,_,rfl⟩:=List.mem_map.1 hx; rfl) (by rw[zM]; omega) (by rw[zM]; omega)
 generalize h1:s.c.cls.map Cls.av=v1 at *
 generalize h3:s.parts.map Prt.av=v3 at *
 generalize h4:s.keeps.map Kep.av=v4 at *
 generalize h5:s.down.map IA=v5 at *
 generalize h6:s.shut.map IA=v6 at *
 generalize h7:s.cut.map IA=v7 at *
 have r1:=fun n l=>(apR_cell n l).1
 have r2:=fun n l=>(apR_cell n l).2.1
 have r3:=fun n l=>(apR_cell n l).2.2
 show AC zP GG 15 [ST s.c.a s.c.b s.c.c s.c.boot s.c.free s.c.tries s.c.age s.cs s.now s.next s.js s.ps s.ks s.ds s.hs s.us] H K;refine goE e15 TOk.nil 0 ?_;simp only[push_cast,seval,↓kw2,hZ,zAf,getA,zAg,setA,k1,r1,r2,r3];refine⟨m1 _,?_⟩;refine twin18 h.js (by omega) (fun j hj=>by have:=l8 j hj; omega) ?_
 intro rj H' hj hle hk hid
 obtain⟨X,rfl⟩:=pre_ap hle hk;clear hle hk;rw[List.append_assoc]at hj ⊢;simp only[List.cons_append]at hj ⊢;obtain⟨z1,z2,z3⟩:=hj.cell;simp only[List.length_append,List.length_cons]at hid;refine goN ?_;simp only[push_cast,seval,↓kw2,hZ,zAf,getA,zAg,setA,k3,k4,k5,k6,k7,r1,r2,r3,z1,z2,z3];have lj:=fun i hi=>hj.lt (j:=i) hi
 simp only[List.length_append,List.length_cons]at lj;have key:∀ a b c:AO,OwnK 4 (H++a::b::c::(apX 4 v1++(X++(apX 13 v3++(apX 9 v4++(apX 1 v5++(apX 1 v6++apX 1 v7))))))) (apR (H.length+3) v1) v1 /\
   OwnK 16 (H++a::b::c::(apX 4 v1++(X++(apX 13 v3++(apX 9 v4++(apX 1 v5++(apX 1 v6++apX 1 v7))))))) rj (s.jobs.map fun j=>j.cp.av) /\
   OwnK 13 (H++a::b::c::(apX 4 v1++(X++(apX 13 v3++(apX 9 v4++(apX 1 v5++(apX 1 v6++apX 1 v7))))))) (apR (H.length+((apX 4 v1).length+X.length+1+1+1)) v3) v3 /\
   OwnK 9 (H++a::b::c::(apX 4 v1++(X++(apX 13 v3++(apX 9 v4++(apX 1 v5++(apX 1 v6++apX 1 v7))))))) (apR (H.length+((apX 4 v1).length+(X.length+(apX 13 v3).length)+1+1+1)) v4) v4 /\
   OwnK 1 (H++a::b::c::(apX 4 v1++(X++(apX 13 v3++(apX 9 v4++(apX 1 v5++(apX 1 v6++apX 1 v7))))))) (apR (H.length+((apX 4 v1).length+(X.length+((apX 13 v3).length+(apX 9 v4).length))+1+1+1)) v5) v5 /\
   OwnK 1 (H++a::b::c::(apX 4 v1++(X++(apX 13 v3++(apX 9 v4++(apX 1 v5++(apX 1 v6++apX 1 v7))))))) (apR (H.length+((apX 4 v1).length+(X.length+((apX 13 v3).length+((apX 9 v4).length+(apX 1 v5).length)))+1+1+1)) v6) v6 /\
   OwnK 1 (H++a::b::c::(apX 4 v1++(X++(apX 13 v3++(apX 9 v4++(apX 1 v5++(apX 1 v6++apX 1 v7))))))) (apR (H.length+((apX 4 v1).length+(X.length+((apX 13 v3).length+((apX 9 v4).length+((apX 1 v5).length+(apX 1 v6).length))))+1+1+1)) v7) v7:=by
  intro a b c
  refine⟨apX_own (H++[a,b,c]) (X++(apX 13 v3++(apX 9 v4++(apX 1 v5++(apX 1 v6++apX 1 v7))))) (by simp) (by simp),hj.keep fun i hi=>?_,
   apX_own (H++a::b::c::(apX 4 v1++X)) (apX 9 v4++(apX 1 v5++(apX 1 v6++apX 1 v7))) (by simp) (by simp),
   apX_own (H++a::b::c::(apX 4 v1++(X++apX 13 v3))) (apX 1 v5++(apX 1 v6++apX 1 v7)) (by simp) (by simp),
   apX_own (H++a::b::c::(apX 4 v1++(X++(apX 13 v3++apX 9 v4)))) (apX 1 v6++apX 1 v7) (by simp) (by simp),
   apX_own (H++a::b::c::(apX 4 v1++(X++(apX 13 v3++(apX 9 v4++apX 1 v5))))) (apX 1 v7) (by simp) (by simp),
   apX_own (H++a::b::c::(apX 4 v1++(X++(apX 13 v3++(apX 9 v4++(apX 1 v5++apX 1 v6)))))) [] (by simp) (by simp)⟩
  have q1:=hid i hi;have q2:=lj i hi;obtain⟨j,rfl⟩:∃ j,i=H.length+(j+3):=⟨i - H.length - 3,by omega⟩;rw[getA,getA,List.getElem?_cons_succ,List.getElem?_cons_succ,List.getElem?_cons_succ,List.getElem?_cons_succ,List.getElem?_cons_succ,List.getElem?_cons_succ,<- List.append_assoc,zL (by rw[List.length_append]; omega)]
 refine⟨m3 _,m4 _,m5 _,m6 _,m7 _,_,rfl,?_⟩;refine hK _ _ _ _ _ _ _ _ (key _ _ _).1 (key _ _ _).2.1 (key _ _ _).2.2.1 (key _ _ _).2.2.2.1 (key _ _ _).2.2.2.2.1 (key _ _ _).2.2.2.2.2.1 (key _ _ _).2.2.2.2.2.2 ?_
 intro i hi
 obtain⟨e,hne⟩:=apR_id hi;have n4:=apX_len (k:=9) hne;refine⟨by omega,fun h=>?_,fun h=>?_,fun h=>?_,fun h=>?_,fun h=>?_,fun h=>?_⟩
 ·obtain⟨e2,h2⟩:=apR_id h;have:=apX_len (k:=4) h2;omega
 ·have:=lj i h;omega
 ·obtain⟨e2,h2⟩:=apR_id h;have:=apX_len (k:=13) h2;omega
 ·obtain⟨e2,_⟩:=apR_id h;omega
 ·obtain⟨e2,_⟩:=apR_id h;omega
 ·obtain⟨e2,_⟩:=apR_id h;omega
theorem twin21{s:Sta}(h:s.good)(hl2:s.lim2):Pur zP GG 15 [s.av] s.cp.av:=by
 obtain⟨p1,p2,p3,p4,p5,p6,p7⟩:=h.purs;refine Pur.of_alone ggp (by simp[AV.purL,AV.pur,Sta.av,p1,p2,p3,p4,p5,p6,p7]) ?_;refine twin21_ac h hl2 fun rc rj rp rk rd rh ru X o1 o2 o3 o4 o5 o6 o7 _=>⟨3,?_⟩
 exact ST_frz7 (zCj o1 (zAc Cls.av _ fun _=>rfl)) (zCj o2 (cps_pur _)) (zCj o3 (zAc Prt.av _ fun _=>rfl)) (zCj o4 (zAc Kep.av _ fun _=>rfl)) (zCj o5 (zAc IA _ fun _=>rfl)) (zCj o6 (zAc IA _ fun _=>rfl)) (zCj o7 (zAc IA _ fun _=>rfl))
theorem ST_le7{a b c p q r t now next:Int}{cs js ps ks ds hs us rc rj rp rk rd rh ru:AV}(x1:cs.isCell=true)(x2:js.isCell=true)(x3:ds.isCell=true)(x4:hs.isCell=true)(x5:us.isCell=true)(x6:ps.isCell=true)(x7:ks.isCell=true)(h1:Le rc cs)(h2:Le rj js)(h3:Le rp ps)(h4:Le rk ks)(h5:Le rd ds)(h6:Le rh hs)(h7:Le ru us) :
  Le (ST a b c p q r t rc now next rj rp rk rd rh ru) (ST a b c p q r t cs now next js ps ks ds hs us):=by
 refine Le.agg rfl (fun i hi=>?_) fun i hi=>?_
 ·match i,hi with
  | 0,_ | 1,_ | 2,_ | 3,_ | 4,_ | 5,_ | 6,_ | 8,_ | 9,_=>rfl
  | 7,_ | 10,_ | 11,_ | 12,_ | 13,_ | 14,_ | 15,_=>assumption
  | n+16,hi=>exact absurd hi (by simp)
 ·match i,hi with
  | 0,_ | 1,_ | 2,_ | 3,_ | 4,_ | 5,_ | 6,_ | 8,_ | 9,_=>exact Le.refl _
  | 7,_=>exact h1
  | 10,_=>exact h2
  | 11,_=>exact h3
  | 12,_=>exact h4
  | 13,_=>exact h5
  | 14,_=>exact h6
  | 15,_=>exact h7
  | n+16,hi=>exact absurd hi (by simp)
def partN(l:List Prt)(id:Int):Int:=zBd (fun i=>decide ((l.getD i default).job=id)) l.length 0
theorem e178:Ent zP 178 Tryz.f178 [] 2:=.mk Tryz.func178 rfl
attribute [push_cast] Tryz.f178
theorem partAt21{s:AV}{l:List Prt}(hs:IsSl s (l.map Prt.av))(hl:l.length<=2^20)(id:Int):Pur zP GG 178 [s,I id] (I (partN l id)):=by
 have hpu:=hs.pur (zAc Prt.av _ (fun _=>rfl));have hlen:=hs.len (P:=zP) un54;rw[zM]at hlen;have hidx:=fun(i:Nat) (hi:i < l.length) (H:List AO)=>hs.idx (P:=zP) un54 sz70 (i:=(i:Int)) (by rw[zM]; omega) (by omega) H
 unfold partN;refine goQ e178 TOk.nil 0 ?_ (by simp[AV.purL,AV.pur,hpu]);simp only[push_cast,seval,↓kw2];refine FW.loopInv (fun m ts H=>∃ i:Nat,i+m=l.length/\zBd (fun i=>decide ((l.getD i default).job=id)) m i=zBd (fun i=>decide ((l.getD i default).job=id)) l.length 0/\ts 0=s/\ts 1=I id/\ts 5=I (i:Int)) l.length
  ⟨0,by omega,rfl,rfl,rfl,rfl⟩ ?_
 rintro m ih ts H ⟨i,hi,hf,t0,t1,t5⟩
 refine FW.inLoop ?_;have w2:=zAh (n:=(i:Int)+1) (by omega) (by omega)
 by_cases hlt:i < l.length
 ·have d1:decide ((i:Int) < (l.length:Int))=true:=zT (by omega);have hx:=hidx i hlt;simp only[Int.toNat_natCast]at hx;rw[zAe Prt.av l default hlt]at hx;obtain⟨m,rfl⟩:∃ m',m=m'+1:=⟨m - 1,by omega⟩;rw[zBn]at hf
  generalize l.getD i default=j at hx hf
  have hcy:=Prt.cells j;have hbb:(0<=(i:Int)/\(i:Int) < ((l.map Prt.av).length:Int)):=⟨by omega,by rw[zM]; omega⟩
  by_cases he:j.job=id
  ·have d2:decide (j.job=id)=true:=zT he;rw[if_pos d2]at hf;refine goN ?_;simp only[push_cast,seval,↓kw2,t0,t1,t5,hlen,d1,hx,hcy,d2]
   repeat (first | refine⟨hbb,?_⟩)
   exact⟨_,rfl,zAa rfl (by rw[<- hf])⟩
  ·have d2:decide (j.job=id)=false:=zF he;rw[if_neg (by rw[d2]; decide)]at hf;refine goN ?_;simp only[push_cast,seval,↓kw2,t0,t1,t5,hlen,d1,hx,hcy,d2,w2]
   repeat (first | refine⟨hbb,?_⟩)
   exact ih m (by omega) _ _ ⟨i+1,by omega,hf,t0,t1,rfl⟩
 ·have d1:decide ((i:Int) < (l.length:Int))=false:=zF (by omega);have hm:m=0:=by omega
  subst hm;refine goN ?_;simp only[push_cast,seval,↓kw2,t0,t1,t5,hlen,d1];exact⟨_,rfl,zAa rfl (by rw[<- hf]; rfl)⟩
theorem e179:Ent zP 179 Tryz.f179 [] 3:=.mk Tryz.func179 rfl
attribute [push_cast] Tryz.f179
theorem count21{s:AV}{l:List Jb}(hs:JobsS s l)(hl:l.length<=2^20)(u c:Int):Pur zP GG 179 [s,I u,I c] (I (cntR l u c)):=by
 have hpu:=hs.pur;have hlen:=hs.1.len (P:=zP) un53;rw[zM]at hlen;have hidx:=fun(i:Nat) (hi:i < l.length) (H:List AO)=>hs.1.idx (P:=zP) un53 sz83 (i:=(i:Int)) (by rw[zM]; omega) (by omega) H
 have hle:=cntR_le l u c;refine goQ e179 TOk.nil 0 ?_ (by simp[AV.purL,AV.pur,hpu]);simp only[push_cast,seval,↓kw2];refine FW.loopInv (fun m ts H=>∃(i:Nat) (n:Int),i+m=l.length/\n+cntR (l.drop i) u c=cntR l u c/\0<=n/\n<=i/\ts 0=s/\ts 1=I u/\ts 2=I c/\ts 7=I n/\ts 8=I (i:Int)) l.length
  ⟨0,0,by omega,by simp,by omega,by omega,rfl,rfl,rfl,rfl,rfl⟩ ?_
 rintro m ih ts H ⟨i,n,hi,hf,hn0,hn1,t0,t1,t2,t7,t8⟩
 refine FW.inLoop ?_;have w2:=zAh (n:=(i:Int)+1) (by omega) (by omega);have w3:=zAh (n:=n+1) (by omega) (by omega)
 by_cases hlt:i < l.length
 ·have d1:decide ((i:Int) < (l.length:Int))=true:=zT (by omega);have hx:=hidx i hlt;simp only[Int.toNat_natCast]at hx;rw[zAe Jb.av l default hlt]at hx;rw[zAr default hlt,cntR_cons]at hf
  generalize l.getD i default=j at hx hf
  have hcy:=Jb.cells j;have hbb:(0<=(i:Int)/\(i:Int) < ((l.map Jb.av).length:Int)):=⟨by omega,by rw[zM]; omega⟩;unfold isCnt at hf
  by_cases h1:j.st=2
  ·have e1:=zT h1
   by_cases h2:j.user=u
   ·have e2:=zT h2
    by_cases h3:j.cls=c
    ·have e3:=zT h3;rw[e1,e2,e3,if_pos (by decide)]at hf;refine goN ?_;simp only[push_cast,seval,↓kw2,t0,t1,t2,t7,t8,hlen,d1,hx,hcy,e1,e2,e3,w2,w3]
     repeat (first | refine⟨hbb,?_⟩)
     exact ih (m - 1) (by omega) _ _ ⟨i+1,n+1,by omega,by omega,by omega,by omega,t0,t1,t2,rfl,rfl⟩
    ·have e3:=zF h3;rw[e1,e2,e3,if_neg (by decide)]at hf;refine goN ?_;simp only[push_cast,seval,↓kw2,t0,t1,t2,t7,t8,hlen,d1,hx,hcy,e1,e2,e3,w2,w3]
     repeat (first | refine⟨hbb,?_⟩)
     exact ih (m - 1) (by omega) _ _ ⟨i+1,n,by omega,by omega,by omega,by omega,t0,t1,t2,t7,rfl⟩
   ·have e2:=zF h2;rw[e1,e2,if_neg (by simp)]at hf;refine goN ?_;simp only[push_cast,seval,↓kw2,t0,t1,t2,t7,t8,hlen,d1,hx,hcy,e1,e2,w2,w3]
    repeat (first | refine⟨hbb,?_⟩)
    exact ih (m - 1) (by omega) _ _ ⟨i+1,n,by omega,by omega,by omega,by omega,t0,t1,t2,t7,rfl⟩
  ·have e1:=zF h1;rw[e1,if_neg (by simp)]at hf;refine goN ?_;simp only[push_cast,seval,↓kw2,t0,t1,t2,t7,t8,hlen,d1,hx,hcy,e1,w2,w3]
   repeat (first | refine⟨hbb,?_⟩)
   exact ih (m - 1) (by omega) _ _ ⟨i+1,n,by omega,by omega,by omega,by omega,t0,t1,t2,t7,rfl⟩
 ·have d1:decide ((i:Int) < (l.length:Int))=false:=zF (by omega);rw[List.drop_eq_nil_of_le (by omega),show cntR [] u c=0 from rfl]at hf;refine goN ?_;simp only[push_cast,seval,↓kw2,t0,t1,t2,t7,t8,hlen,d1];exact⟨_,rfl,zAa rfl (by rw[show n=cntR l u c by omega])⟩
theorem e117:Ent zP 117 Tryz.f117 [] 1:=.mk Tryz.func117 rfl
attribute [push_cast] Tryz.f117
theorem mayJobs21{s:Sta}(h:s.good)(hl:s.lim)(hl2:s.lim2):Pur zP GG 117 [s.av] (B (jobsR s.c s.jobs s.now s.next)):=by
 have hZ:=h.cell;obtain⟨⟨⟨a1,a2,a3⟩,b1,b2,b3⟩,⟨⟨c1,c2,c3⟩,d1,d2,d3⟩,⟨e1,e2,e3⟩,⟨f1,f2,f3⟩,g1,g2,g3⟩:=h.cell;obtain⟨p1,p2,p3,p4,p5,p6,p7⟩:=h.purs;have hlen:=h.js.1.len (P:=zP) un53;rw[zM]at hlen;have hal:∀ j∈s.jobs,j.after.length<=2^20:=fun j hj=>by have:=hl2.al j hj; omega
 have hT:=table18 s.c h.cs (by have:=hl2.cl; omega) h.js hl.jl hal;have hS:=settled20 h.js (by have:=hl2.jl; omega) (fun j hj=>by have:=hl2.al j hj; omega);have hgo:JobsS (setdS s.jobs) ((zFc s.jobs (s.jobs.length+1)).map Jb.cp):=⟨by unfold setdS; rw[cps]; exact IsSl.frS _,fun j hj=>by obtain⟨x,_,rfl⟩:=List.mem_map.1 hj; exact x.cp_good⟩;have hEq:=same18 hgo h.js (by rw[zM,setdR_len]; exact hl.jl) (fun j hj=>by
  obtain⟨x,hx,rfl⟩:=List.mem_map.1 hj;have:=setdR_good (l:=s.jobs) (fun j hj=>by have:=hl2.al j hj; omega) (s.jobs.length+1) x hx;show x.after.length<=_;omega)
 rw[sameJ_cp]at hEq;have hsp:(setdS s.jobs).pur=true:=hgo.pur;have hidx:=fun(i:Nat) (hi:i < s.jobs.length) (H:List AO)=>h.js.1.idx (P:=zP) un53 sz83 (i:=(i:Int)) (by rw[zM]; omega) (by omega) H
 simp only[Cfg.av]at hT;unfold jobsR;show Pur zP GG 117 [ST s.c.a s.c.b s.c.c s.c.boot s.c.free s.c.tries s.c.age s.cs s.now s.next s.js s.ps s.ks s.ds s.hs s.us] _;have hgoc:=hgo.1.cell
 generalize setdS s.jobs=sd at hS hEq hsp hgoc
 obtain⟨k1,k2,k3⟩:=hgoc
 by_cases ht:tblE s.c s.jobs=0
 ·rw[zT ht,Bool.true_and];rw[ht]at hT;cases he:sameJ (zFc s.jobs (s.jobs.length+1)) s.jobs
  ·rw[he]at hEq;rw[Bool.false_and];refine goQ e117 TOk.nil 0 ?_ (by simp[AV.purL,AV.pur,p1,p2,p3,p4,p5,p6,p7]);simp only[push_cast,seval,↓kw2,hZ];refine⟨_,toVP hT,?_⟩
   try simp only[push_cast,seval,↓kw2,hZ]
   refine⟨_,toVP hS,?_⟩
   try simp only[push_cast,seval,↓kw2,hZ,k1,k2,k3]
   refine⟨_,toVP hEq,?_⟩
   try simp only[push_cast,seval,↓kw2,hZ,k1,k2,k3]
   exact⟨_,rfl,zAa rfl rfl⟩
  ·rw[he]at hEq;rw[Bool.true_and];refine goQ e117 TOk.nil 0 ?_ (by simp[AV.purL,AV.pur,p1,p2,p3,p4,p5,p6,p7]);simp only[push_cast,seval,↓kw2,hZ];refine⟨_,toVP hT,?_⟩
   try simp only[push_cast,seval,↓kw2,hZ]
   refine⟨_,toVP hS,?_⟩
   try simp only[push_cast,seval,↓kw2,hZ,k1,k2,k3]
   refine⟨_,toVP hEq,?_⟩
   try simp only[push_cast,seval,↓kw2,hZ,k1,k2,k3]
   refine FW.loopInv (fun m ts H=>∃ i:Nat,i+m=s.jobs.length/\anyN (fun i=>lateJ s.now s.next (s.jobs.getD i default)) m i=anyN (fun i=>lateJ s.now s.next (s.jobs.getD i default)) s.jobs.length 0/\H=[.cells [I s.c.a,I s.c.b,I s.c.c,I s.c.boot,I s.c.free,I s.c.tries,I s.c.age,s.cs,I s.now,I s.next,s.js,s.ps,s.ks,s.ds,s.hs,s.us]]/\ts 1=.ptr 0 0/\ts 3=I (i:Int)) s.jobs.length
    ⟨0,by omega,rfl,rfl,rfl,rfl⟩ ?_
   rintro m ih ts H ⟨i,hi,hf,rfl,t1,t3⟩
   refine FW.inLoop ?_;have hjl:=hl.jl;have w2:=zAh (n:=(i:Int)+1) (by omega) (by omega)
   by_cases hlt:i < s.jobs.length
   ·have q1:decide ((i:Int) < (s.jobs.length:Int))=true:=zT (by omega);have hx:=hidx i hlt;simp only[Int.toNat_natCast]at hx;rw[zAe Jb.av s.jobs default hlt]at hx;obtain⟨m,rfl⟩:∃ m',m=m'+1:=⟨m - 1,by omega⟩;have hf':(lateJ s.now s.next (s.jobs.getD i default)||anyN (fun i=>lateJ s.now s.next (s.jobs.getD i default)) m (i+1))=anyN (fun i=>lateJ s.now s.next (s.jobs.getD i default)) s.jobs.length 0:=hf
    generalize s.jobs.getD i default=j at hx hf'
    rw[show lateJ s.now s.next j=(decide (s.next<=j.id)||decide (s.now < j.came)) from rfl]at hf';have hcy:=Jb.cells j;have hbb:(0<=(i:Int)/\(i:Int) < ((s.jobs.map Jb.av).length:Int)):=⟨by omega,by rw[zM]; omega⟩
    by_cases h1:s.next<=j.id
    ·have x1:=zT h1;rw[x1,Bool.true_or,Bool.true_or]at hf';rw[<- hf'];refine goN ?_;simp only[push_cast,seval,↓kw2,hZ,t1,t3,hlen,q1,hx,hcy,x1,ge_iff_le,gt_iff_lt]
     repeat (first | refine⟨hbb,?_⟩)
     exact⟨_,rfl,zAa rfl rfl⟩
    ·have x1:=zF h1
     by_cases h2:s.now < j.came
     ·have x2:=zT h2;rw[x1,x2,Bool.or_true,Bool.true_or]at hf';rw[<- hf'];refine goN ?_;simp only[push_cast,seval,↓kw2,hZ,t1,t3,hlen,q1,hx,hcy,x1,x2,ge_iff_le,gt_iff_lt]
      repeat (first | refine⟨hbb,?_⟩)
      exact⟨_,rfl,zAa rfl rfl⟩
     ·have x2:=zF h2;rw[x1,x2,Bool.or_false,Bool.false_or]at hf';refine goN ?_;simp only[push_cast,seval,↓kw2,hZ,t1,t3,hlen,q1,hx,hcy,x1,x2,ge_iff_le,gt_iff_lt,w2]
      repeat (first | refine⟨hbb,?_⟩)
      exact ih m (by omega) _ _ ⟨i+1,by omega,hf',rfl,t1,rfl⟩
   ·have q1:decide ((i:Int) < (s.jobs.length:Int))=false:=zF (by omega);have hm:m=0:=by omega
    subst hm;rw[<- hf];refine goN ?_;simp only[push_cast,seval,↓kw2,hZ,t1,t3,hlen,q1];exact⟨_,rfl,zAa rfl rfl⟩
 ·have x0:decide (tblE s.c s.jobs≠0)=true:=by simp[ht]
  rw[zF ht,Bool.false_and];refine goQ e117 TOk.nil 0 ?_ (by simp[AV.purL,AV.pur,p1,p2,p3,p4,p5,p6,p7]);simp only[push_cast,seval,↓kw2,hZ];refine⟨_,toVP hT,?_⟩
  try simp only[push_cast,seval,↓kw2,hZ,x0]
  repeat' (first | apply And.intro | intro _)
  all_goals first | exact⟨_,rfl,zAa rfl rfl⟩ | (exfalso; omega)
theorem any_turns(w:Wnt)(f:Wnt->Bool):(turnsR w).any f=w.turns.any f:=by
 rw[Bool.eq_iff_iff,List.any_eq_true,List.any_eq_true];exact⟨fun⟨x,h1,h2⟩=>⟨x,(turnsR_mem w x).1 h1,h2⟩,fun⟨x,h1,h2⟩=>⟨x,(turnsR_mem w x).2 h1,h2⟩⟩
theorem e176:Ent zP 176 Tryz.f176 [] 2:=.mk Tryz.func176 rfl
attribute [push_cast] Tryz.f176
theorem mayPart21{s:Sta}(h:s.good)(hl:s.lim)(hm:s.c.may=true)(hnow:s.now<=1099511627776)(ht:tblE s.c s.jobs=0)(hmk:s.marks=true)(p:Prt):Pur zP GG 176 [s.av,p.av] (B (s.partR p)):=by
 have hZ:=h.cell;obtain⟨⟨⟨a1,a2,a3⟩,b1,b2,b3⟩,⟨⟨c1,c2,c3⟩,d1,d2,d3⟩,⟨e1,e2,e3⟩,⟨f1,f2,f3⟩,g1,g2,g3⟩:=h.cell;obtain⟨p1,p2,p3,p4,p5,p6,p7⟩:=h.purs;have hd:=Cfg.may_ok hm;obtain⟨hm1,hm2⟩:zCd (s.c.a*s.c.b*s.c.c) s.down=true/\zCd (3*(s.c.a*s.c.b*s.c.c)) s.cut=true:=by
  unfold Sta.marks badV at hmk;simp only[zA]at hmk;exact⟨hmk.1.1,hmk.2⟩
 have hfr:(0<=s.c.boot/\s.c.boot<=1048576)/\(0<=s.c.free/\s.c.free<=1048576):=by
  unfold Cfg.may witV at hm;simp only[zA,decide_eq_true_eq]at hm;omega
 have hj:=job21 h hl p;have hg:=s.jobOf_good h p;have hP:=mayPart16 s.c h.cs p;have hM:=may06 s.c.a s.c.b s.c.c p.pl.x p.pl.y p.pl.z p.pl.p p.pl.q p.pl.r p.pl.s p.pl.t p.pl.u hd;have hO:=of12 (s.jobOf p).w p.pl;rw[any_turns]at hO;have hwall:s.isJob p=true->0<=(s.jobOf p).wall/\(s.jobOf p).wall<=1048576:=fun hij=>by
  obtain⟨hpl,_⟩:=Jb.chk_facts (tbl_chk ht _ (jobOf_mem hij));unfold Jb.plain witV at hpl;simp only[zA,decide_eq_true_eq]at hpl;omega
 have hsin:s.c.part p=true->0<=p.since/\p.since<=1099511627776:=fun hp=>by
  unfold Cfg.part witV at hp;simp only[zA,decide_eq_true_eq]at hp;omega
 have hC:=fun(h1:s.c.part p=true) (h2:s.isJob p=true)=>clock16 s.c h.cs p (s.jobOf p).wall (hsin h1) hfr.1 hfr.2 (hwall h2)
 have hE:=fun(h1:s.c.part p=true) (h2:s.isJob p=true)=>ends21 h hl p hfr.1 hfr.2 (hwall h2) (hsin h1)
 have hS:=fun(hk:p.pl.ok s.c.a s.c.b s.c.c)=>stands21 h hl hk hm1 hm2
 unfold Sta.partR;have hok:okPl s.c.a s.c.b s.c.c p.pl.x p.pl.y p.pl.z p.pl.p p.pl.q p.pl.r p.pl.s p.pl.t p.pl.u ↔ p.pl.ok s.c.a s.c.b s.c.c:=Iff.rfl;simp only[Sta.av,Prt.av]at hj hE;simp only[Cfg.av,Prt.av]at hP hC;simp only[Plc.av]at hO hS;simp only[Sta.av]at hS
 generalize s.jobOf p=j at *
 obtain⟨m1,m2,m3⟩:=IsSl.cell hg;simp only[Jb.av]at hj;simp only[Wnt.av]at hO
 generalize (j.w.turns.any fun t=>decide (isT t p.pl))=T at *
 show Pur zP GG 176 [ST s.c.a s.c.b s.c.c s.c.boot s.c.free s.c.tries s.c.age s.cs s.now s.next s.js s.ps s.ks s.ds s.hs s.us,PA p.job p.pl p.ph p.tries p.since] _;cases hij:s.isJob p
 ·rw[hij]at hj;refine goQ e176 TOk.nil 0 ?_ (by simp[AV.purL,AV.pur,p1,p2,p3,p4,p5,p6,p7]);simp only[push_cast,seval,↓kw2,hZ];refine AC.pur hj ?_;refine goN ?_;simp only[push_cast,seval,↓kw2,hZ,m1,m2,m3];exact⟨_,rfl,zAa rfl (by simp)⟩
 rw[hij]at hj;cases hpp:s.c.part p
 ·rw[hpp]at hP;refine goQ e176 TOk.nil 0 ?_ (by simp[AV.purL,AV.pur,p1,p2,p3,p4,p5,p6,p7]);simp only[push_cast,seval,↓kw2,hZ];refine AC.pur hj ?_;refine goN ?_;simp only[push_cast,seval,↓kw2,hZ,m1,m2,m3];refine AC.pur hP ?_;refine goN ?_;simp only[push_cast,seval,↓kw2,hZ,m1,m2,m3];exact⟨_,rfl,zAa rfl (by simp)⟩
 rw[hpp]at hP
 by_cases hk:p.pl.ok s.c.a s.c.b s.c.c
 ·rw[zT (hok.2 hk)]at hM;rw[zT hk];have hC:=hC hpp hij;have hE:=hE hpp hij;have hS:=hS hk
  generalize s.ends p=E at *
  generalize s.c.clockR p j.wall=CK at *
  generalize standsR s p.pl=SR at *
  cases T
  ·skip
   refine goQ e176 TOk.nil 0 ?_ (by simp[AV.purL,AV.pur,p1,p2,p3,p4,p5,p6,p7]);simp only[push_cast,seval,↓kw2,hZ];refine AC.pur hj ?_;refine goN ?_;simp only[push_cast,seval,↓kw2,hZ,m1,m2,m3];refine AC.pur hP ?_;refine goN ?_;simp only[push_cast,seval,↓kw2,hZ,m1,m2,m3];refine AC.pur hM ?_;refine goN ?_;simp only[push_cast,seval,↓kw2,hZ,m1,m2,m3];refine AC.pur hO ?_;refine goN ?_;simp only[push_cast,seval,↓kw2,hZ,m1,m2,m3];exact⟨_,rfl,zAa rfl (by simp)⟩
  ·skip
   refine goQ e176 TOk.nil 0 ?_ (by simp[AV.purL,AV.pur,p1,p2,p3,p4,p5,p6,p7]);simp only[push_cast,seval,↓kw2,hZ];refine AC.pur hj ?_;refine goN ?_;simp only[push_cast,seval,↓kw2,hZ,m1,m2,m3];refine AC.pur hP ?_;refine goN ?_;simp only[push_cast,seval,↓kw2,hZ,m1,m2,m3];refine AC.pur hM ?_;refine goN ?_;simp only[push_cast,seval,↓kw2,hZ,m1,m2,m3];refine AC.pur hO ?_
   by_cases h1:s.now < p.since
   ·have x1:=zT h1;refine goN ?_;simp only[push_cast,seval,↓kw2,hZ,m1,m2,m3,x1,gt_iff_lt]
    repeat' (first | apply And.intro | intro _)
    all_goals exact⟨_,rfl,zAa rfl (by simp[h1])⟩
   have x1:=zF h1
   by_cases h3:p.ph=3
   ·have x3:=zT h3
    by_cases h4:j.st < 3
    ·have x4:=zT h4;refine goN ?_;simp only[push_cast,seval,↓kw2,hZ,m1,m2,m3,x1,x3,x4,gt_iff_lt];exact⟨_,rfl,zAa rfl (by simp[h3,h4])⟩
    ·have x4:=zF h4;have x5:decide (p.ph≠3)=false:=by simp[h3]
     refine goN ?_;simp only[push_cast,seval,↓kw2,hZ,m1,m2,m3,x1,x3,x4,x5,gt_iff_lt];refine⟨_,toVP hC,?_⟩
     try simp only[push_cast,seval,↓kw2,hZ,m1,m2,m3,x1,x3,x4,x5,gt_iff_lt]
     refine⟨fun hc=>⟨_,rfl,zAa rfl (by simp[hc])⟩,fun hc=>?_⟩;refine⟨_,toVP hE,?_⟩
     try simp only[push_cast,seval,↓kw2,hZ,m1,m2,m3,x1,x3,x4,x5,gt_iff_lt]
     refine⟨fun he=>⟨_,rfl,zAa rfl (by simp[he])⟩,fun he=>?_⟩;exact⟨_,rfl,zAa rfl (by simp[h1,h3,h4,hc,he])⟩
   ·have x3:=zF h3;have x5:decide (p.ph≠3)=true:=by simp[h3]
    by_cases h4:j.st=2
    ·have x4:decide (j.st≠2)=false:=by simp[h4]
     refine goN ?_;simp only[push_cast,seval,↓kw2,hZ,m1,m2,m3,x1,x3,x4,x5,gt_iff_lt];refine⟨_,toVP hC,?_⟩
     try simp only[push_cast,seval,↓kw2,hZ,m1,m2,m3,x1,x3,x4,x5,gt_iff_lt]
     refine⟨fun hc=>⟨_,rfl,zAa rfl (by simp[hc])⟩,fun hc=>?_⟩;refine⟨_,toVP hE,?_⟩
     try simp only[push_cast,seval,↓kw2,hZ,m1,m2,m3,x1,x3,x4,x5,gt_iff_lt]
     refine⟨fun he=>⟨_,rfl,zAa rfl (by simp[he])⟩,fun he=>?_⟩;refine AC.pur hS ?_;refine goN ?_;simp only[push_cast,seval,↓kw2,hZ,m1,m2,m3,x1,x3,x4,x5];exact⟨_,rfl,zAa rfl (by simp[h1,h3,h4,hc,he])⟩
    ·have x4:decide (j.st≠2)=true:=by simp[h4]
     refine goN ?_;simp only[push_cast,seval,↓kw2,hZ,m1,m2,m3,x1,x3,x4,x5,gt_iff_lt];exact⟨_,rfl,zAa rfl (by simp[h3,h4])⟩
 ·rw[zF (fun h=>hk (hok.1 h))]at hM;refine goQ e176 TOk.nil 0 ?_ (by simp[AV.purL,AV.pur,p1,p2,p3,p4,p5,p6,p7]);simp only[push_cast,seval,↓kw2,hZ];refine AC.pur hj ?_;refine goN ?_;simp only[push_cast,seval,↓kw2,hZ,m1,m2,m3];refine AC.pur hP ?_;refine goN ?_;simp only[push_cast,seval,↓kw2,hZ,m1,m2,m3];refine AC.pur hM ?_;refine goN ?_;simp only[push_cast,seval,↓kw2,hZ,m1,m2,m3];exact⟨_,rfl,zAa rfl (by simp[hk])⟩
def Sta.odd1R(s:Sta)(i:Nat):Bool:=(decide (0 < i)&&decide ((s.parts.getD i default).job<=(s.parts.getD (i - 1) default).job))||!s.partR (s.parts.getD i default)
def Sta.odd2R(s:Sta)(i k:Nat):Bool:=meetR s.c.a s.c.b s.c.c (s.parts.getD i default).pl (s.parts.getD k default).pl
theorem partR_ok{s:Sta}{p:Prt}(h:s.partR p=true):p.pl.ok s.c.a s.c.b s.c.c:=by
 unfold Sta.partR at h;simp only[zA,decide_eq_true_eq]at h;exact h.1.2.2.1
theorem e119:Ent zP 119 Tryz.f119 [] 1:=.mk Tryz.func119 rfl
attribute [push_cast] Tryz.f119
theorem mayParts21{s:Sta}(h:s.good)(hl:s.lim)(hm:s.c.may=true)(hnow:s.now<=1099511627776)(ht:tblE s.c s.jobs=0)(hmk:s.marks=true):Pur zP GG 119 [s.av] (B (decide ((s.parts.length:Int)<=24)&&!anyN (fun i=>s.odd1R i||anyN (s.odd2R i) i 0) s.parts.length 0)):=by
 have hZ:=h.cell;obtain⟨⟨⟨a1,a2,a3⟩,b1,b2,b3⟩,⟨⟨c1,c2,c3⟩,d1,d2,d3⟩,⟨e1,e2,e3⟩,⟨f1,f2,f3⟩,g1,g2,g3⟩:=h.cell;obtain⟨p1,p2,p3,p4,p5,p6,p7⟩:=h.purs;have hlen:=h.ps.len un54;rw[zM]at hlen;have hP:=mayPart21 h hl hm hnow ht hmk;have hidx:=fun(i:Nat) (hi:i < s.parts.length) (H:List AO)=>h.ps.idx (P:=zP) un54 sz70 (i:=(i:Int)) (by rw[zM]; omega) (by omega) H
 show Pur zP GG 119 [ST s.c.a s.c.b s.c.c s.c.boot s.c.free s.c.tries s.c.age s.cs s.now s.next s.js s.ps s.ks s.ds s.hs s.us] _
 by_cases h24:24 < (s.parts.length:Int)
 ·have d24:=zT h24;rw[zF (by omega),Bool.false_and];refine goQ e119 TOk.nil 0 ?_ (by simp[AV.purL,AV.pur,p1,p2,p3,p4,p5,p6,p7]);simp only[push_cast,seval,↓kw2,hZ,hlen,d24];exact⟨_,rfl,zAa rfl rfl⟩
 have d24:=zF h24;rw[zT (by omega),Bool.true_and];refine goQ e119 TOk.nil 0 ?_ (by simp[AV.purL,AV.pur,p1,p2,p3,p4,p5,p6,p7]);simp only[push_cast,seval,↓kw2,hZ,hlen,d24];refine FW.loopInv (fun m ts H=>∃ i:Nat,i+m=s.parts.length/\anyN (fun i=>s.odd1R i||anyN (s.odd2R i) i 0) m i=anyN (fun i=>s.odd1R i||anyN (s.odd2R i) i 0) s.parts.length 0/\(∀ k,k < i->(s.parts.getD k default).pl.ok s.c.a s.c.b s.c.c)/\H=[.cells s.cel]/\ts 1=.ptr 0 0/\ts 3=I (i:Int)) s.parts.length
  ⟨0,by omega,rfl,fun k hk=>by omega,rfl,rfl,rfl⟩ ?_
 rintro m ih ts H ⟨i,hi,hf,hok,rfl,t1,t3⟩
 refine FW.inLoop ?_;unfold Sta.cel;have w2:=zAh (n:=(i:Int)+1) (by omega) (by omega);have w3:=zAh (n:=(i:Int) - 1) (by omega) (by omega)
 by_cases hlt:i < s.parts.length
 ·have q1:decide ((i:Int) < (s.parts.length:Int))=true:=zT (by omega);have hx:=hidx i hlt;simp only[Int.toNat_natCast]at hx;rw[zAe Prt.av s.parts default hlt]at hx;obtain⟨m,rfl⟩:∃ m',m=m'+1:=⟨m - 1,by omega⟩;have hf':((s.odd1R i||anyN (s.odd2R i) i 0)||anyN (fun i=>s.odd1R i||anyN (s.odd2R i) i 0) m (i+1))=anyN (fun i=>s.odd1R i||anyN (s.odd2R i) i 0) s.parts.length 0:=hf;have hPi:=hP (s.parts.getD i default);have ho1:s.odd1R i=((decide (0 < i)&&decide ((s.parts.getD i default).job<=(s.parts.getD (i - 1) default).job))||!s.partR (s.parts.getD i default)):=rfl;have ho2:∀ k,s.odd2R i k=meetR s.c.a s.c.b s.c.c (s.parts.getD i default).pl (s.parts.getD k default).pl:=fun k=>rfl
  have hcy:=Prt.cells (s.parts.getD i default);have hbb:(0<=(i:Int)/\(i:Int) < ((s.parts.map Prt.av).length:Int)):=⟨by omega,by rw[zM]; omega⟩;have hpok:=partR_ok (s:=s) (p:=s.parts.getD i default);have hpo2:s.partR (s.parts.getD i default)=true->(s.parts.getD i default).pl.ok s.c.a s.c.b s.c.c:=partR_ok;have hpeq:∀ q,s.parts.getD i default=q->s.partR q=true->(s.parts.getD i default).pl.ok s.c.a s.c.b s.c.c:=fun q hq h=>by rw[hq]; exact partR_ok h
  clear hpo2
  generalize hpp:s.parts.getD i default=p at hx hPi ho1 ho2 hcy hpok
  simp only[Sta.av,Prt.av]at hPi;have hxk:=fun(k:Nat) (hk:k < i)=>hidx k (by omega)
  have hokk:=hok
  by_cases h0:0 < i
  ·have hx':=hidx (i - 1) (by omega);simp only[Int.toNat_natCast,show((i - 1:Nat):Int)=(i:Int) - 1 by omega]at hx';rw[show((i:Int) - 1).toNat=i - 1 by omega,zAe Prt.av s.parts default (by omega)]at hx';have hcy':=Prt.cells (s.parts.getD (i - 1) default);have hbb':(0<=(i:Int) - 1/\(i:Int) - 1 < ((s.parts.map Prt.av).length:Int)):=⟨by omega,by rw[zM]; omega⟩;have q0:decide ((0:Int) < (i:Int))=true:=zT (by omega);rw[zT h0,Bool.true_and]at ho1
   generalize s.parts.getD (i - 1) default=o at hx' hcy' ho1
   by_cases hle:p.job<=o.job
   ·have dle:=zT hle;rw[dle,Bool.true_or]at ho1;rw[ho1,Bool.true_or,Bool.true_or]at hf';rw[<- hf'];refine goN ?_;simp only[push_cast,seval,↓kw2,hZ,t1,t3,hlen,q1,q0,hx,hcy,hx',hcy',w3,dle,gt_iff_lt]
    repeat (first | refine⟨hbb,?_⟩ | refine⟨hbb',?_⟩)
    exact⟨_,rfl,zAa rfl rfl⟩
   ·have dle:=zF hle;rw[dle,Bool.false_or]at ho1;refine goN ?_;simp only[push_cast,seval,↓kw2,hZ,t1,t3,hlen,q1,q0,hx,hcy,hx',hcy',w3,dle,gt_iff_lt]
    repeat (first | refine⟨hbb,?_⟩ | refine⟨hbb',?_⟩)
    refine⟨_,toVP hPi,?_⟩;cases hpr:s.partR p
    ·rw[hpr]at ho1;rw[ho1,Bool.not_false,Bool.true_or,Bool.true_or]at hf';rw[<- hf']
     try simp only[push_cast,seval,↓kw2,hZ,t1,t3,hlen,q1,q0,hx,hcy,hx',hcy',w3,dle,gt_iff_lt]
     exact⟨_,rfl,zAa rfl rfl⟩
    ·rw[hpr]at ho1;rw[ho1,Bool.not_true,Bool.false_or]at hf';have hpo:=hpok hpr
     try simp only[push_cast,seval,↓kw2,hZ,t1,t3,hlen,q1,q0,hx,hcy,hx',hcy',w3,dle,gt_iff_lt]
     refine FW.loopInv (fun n ts H=>∃ k:Nat,k+n=i/\anyN (s.odd2R i) n k=anyN (s.odd2R i) i 0/\H=[.cells s.cel]/\ts 1=.ptr 0 0/\ts 3=I (i:Int)/\ts 4=I (k:Int)) i
      ⟨0,by omega,rfl,rfl,t1,t3,rfl⟩ ?_
     clear t1 t3 ts
     rintro n ih2 ts H ⟨k,hk,hf2,rfl,t1,t3,t4⟩
     refine FW.inLoop ?_;unfold Sta.cel;have w4:=zAh (n:=(k:Int)+1) (by omega) (by omega)
     by_cases hki:k < i
     ·have q2:decide ((k:Int) < (i:Int))=true:=zT (by omega);obtain⟨n,rfl⟩:∃ n',n=n'+1:=⟨n - 1,by omega⟩;have hf3:(s.odd2R i k||anyN (s.odd2R i) n (k+1))=anyN (s.odd2R i) i 0:=hf2;rw[ho2]at hf3;have hy:=hidx k (by omega);simp only[Int.toNat_natCast]at hy;rw[zAe Prt.av s.parts default (show k < s.parts.length by omega)]at hy;have hcz:=Prt.cells (s.parts.getD k default);have hM:=meet21 hpo (hokk k hki)
      generalize s.parts.getD k default=z at hy hcz hM hf3
      have hbk:(0<=(k:Int)/\(k:Int) < ((s.parts.map Prt.av).length:Int)):=⟨by omega,by rw[zM]; omega⟩;simp only[Plc.av]at hM;refine goN ?_;simp only[push_cast,seval,↓kw2,hZ,t1,t3,t4,q2,hx,hcy,hy,hcz]
      repeat (first | refine⟨hbb,?_⟩ | refine⟨hbk,?_⟩)
      refine⟨_,toVP hM,?_⟩;cases hmm:meetR s.c.a s.c.b s.c.c p.pl z.pl
      ·rw[hmm,Bool.false_or]at hf3
       try simp only[push_cast,seval,↓kw2,hZ,t1,t3,t4,w4]
       exact ih2 n (by omega) _ _ ⟨k+1,by omega,hf3,rfl,t1,t3,rfl⟩
      ·rw[hmm,Bool.true_or]at hf3;rw[<- hf3,Bool.true_or]at hf';rw[<- hf']
       try simp only[push_cast,seval,↓kw2,hZ,t1,t3,t4,w4]
       exact⟨_,rfl,zAa rfl rfl⟩
     ·have q2:decide ((k:Int) < (i:Int))=false:=zF (by omega);have hn:n=0:=by omega
      subst hn;rw[<- hf2,show anyN (s.odd2R i) 0 k=false from rfl,Bool.false_or]at hf';refine goN ?_;simp only[push_cast,seval,↓kw2,hZ,t1,t3,t4,q2,w2];exact ih m (by omega) _ _ ⟨i+1,by omega,hf',fun k hk=>by
       by_cases e:k=i
       ·subst e; exact hpeq p hpp hpr
       ·exact hok k (by omega),rfl,t1,rfl⟩
  ·have q0:decide ((0:Int) < (i:Int))=false:=zF (by omega);rw[zF h0,Bool.false_and,Bool.false_or]at ho1
   ·skip
    refine goN ?_;simp only[push_cast,seval,↓kw2,hZ,t1,t3,hlen,q1,q0,hx,hcy,gt_iff_lt]
    repeat (first | refine⟨hbb,?_⟩)
    refine⟨_,toVP hPi,?_⟩;cases hpr:s.partR p
    ·rw[hpr]at ho1;rw[ho1,Bool.not_false,Bool.true_or,Bool.true_or]at hf';rw[<- hf']
     try simp only[push_cast,seval,↓kw2,hZ,t1,t3,hlen,q1,q0,hx,hcy,gt_iff_lt]
     exact⟨_,rfl,zAa rfl rfl⟩
    ·rw[hpr]at ho1;rw[ho1,Bool.not_true,Bool.false_or]at hf';have hpo:=hpok hpr
     try simp only[push_cast,seval,↓kw2,hZ,t1,t3,hlen,q1,q0,hx,hcy,gt_iff_lt]
     refine FW.loopInv (fun n ts H=>∃ k:Nat,k+n=i/\anyN (s.odd2R i) n k=anyN (s.odd2R i) i 0/\H=[.cells s.cel]/\ts 1=.ptr 0 0/\ts 3=I (i:Int)/\ts 4=I (k:Int)) i
      ⟨0,by omega,rfl,rfl,t1,t3,rfl⟩ ?_
     clear t1 t3 ts
     rintro n ih2 ts H ⟨k,hk,hf2,rfl,t1,t3,t4⟩
     refine FW.inLoop ?_;unfold Sta.cel;have w4:=zAh (n:=(k:Int)+1) (by omega) (by omega)
     by_cases hki:k < i
     ·have q2:decide ((k:Int) < (i:Int))=true:=zT (by omega);obtain⟨n,rfl⟩:∃ n',n=n'+1:=⟨n - 1,by omega⟩;have hf3:(s.odd2R i k||anyN (s.odd2R i) n (k+1))=anyN (s.odd2R i) i 0:=hf2;rw[ho2]at hf3;have hy:=hidx k (by omega);simp only[Int.toNat_natCast]at hy;rw[zAe Prt.av s.parts default (show k < s.parts.length by omega)]at hy;have hcz:=Prt.cells (s.parts.getD k default);have hM:=meet21 hpo (hokk k hki)
      generalize s.parts.getD k default=z at hy hcz hM hf3
      have hbk:(0<=(k:Int)/\(k:Int) < ((s.parts.map Prt.av).length:Int)):=⟨by omega,by rw[zM]; omega⟩;simp only[Plc.av]at hM;refine goN ?_;simp only[push_cast,seval,↓kw2,hZ,t1,t3,t4,q2,hx,hcy,hy,hcz]
      repeat (first | refine⟨hbb,?_⟩ | refine⟨hbk,?_⟩)
      refine⟨_,toVP hM,?_⟩;cases hmm:meetR s.c.a s.c.b s.c.c p.pl z.pl
      ·rw[hmm,Bool.false_or]at hf3
       try simp only[push_cast,seval,↓kw2,hZ,t1,t3,t4,w4]
       exact ih2 n (by omega) _ _ ⟨k+1,by omega,hf3,rfl,t1,t3,rfl⟩
      ·rw[hmm,Bool.true_or]at hf3;rw[<- hf3,Bool.true_or]at hf';rw[<- hf']
       try simp only[push_cast,seval,↓kw2,hZ,t1,t3,t4,w4]
       exact⟨_,rfl,zAa rfl rfl⟩
     ·have q2:decide ((k:Int) < (i:Int))=false:=zF (by omega);have hn:n=0:=by omega
      subst hn;rw[<- hf2,show anyN (s.odd2R i) 0 k=false from rfl,Bool.false_or]at hf';refine goN ?_;simp only[push_cast,seval,↓kw2,hZ,t1,t3,t4,q2,w2];exact ih m (by omega) _ _ ⟨i+1,by omega,hf',fun k hk=>by
       by_cases e:k=i
       ·subst e; exact hpeq p hpp hpr
       ·exact hok k (by omega),rfl,t1,rfl⟩
 ·have q1:decide ((i:Int) < (s.parts.length:Int))=false:=zF (by omega);have hm:m=0:=by omega
  subst hm;rw[<- hf];refine goN ?_;simp only[push_cast,seval,↓kw2,hZ,t1,t3,hlen,q1];exact⟨_,rfl,zAa rfl rfl⟩
theorem hasPart_N(l:List Prt)(id:Int):zCi l id=decide (0<=partN l id):=(zCl _ _ _).symm
theorem e120:Ent zP 120 Tryz.f120 [] 1:=.mk Tryz.func120 rfl
attribute [push_cast] Tryz.f120
theorem mayStarted21{s:Sta}(h:s.good)(hl:s.lim)(hcl:∀ j∈s.jobs,0<=j.cls/\j.cls < s.c.cls.length)(hcl2:s.c.cls.length<=2^20):Pur zP GG 120 [s.av] (B (!anyN (fun i=>oddS s.c.cls (zCi s.parts) s.jobs (s.jobs.getD i default)) s.jobs.length 0)):=by
 have hZ:=h.cell;obtain⟨⟨⟨a1,a2,a3⟩,b1,b2,b3⟩,⟨⟨c1,c2,c3⟩,d1,d2,d3⟩,⟨e1,e2,e3⟩,⟨f1,f2,f3⟩,g1,g2,g3⟩:=h.cell;obtain⟨p1,p2,p3,p4,p5,p6,p7⟩:=h.purs;have hlen:=h.js.1.len (P:=zP) un53;rw[zM]at hlen;have hidx:=fun(i:Nat) (hi:i < s.jobs.length) (H:List AO)=>h.js.1.idx (P:=zP) un53 sz83 (i:=(i:Int)) (by rw[zM]; omega) (by omega) H
 have hix2:=fun(i:Int) (h0:0<=i) (h1:i < s.c.cls.length) (H:List AO)=>h.cs.idx (P:=zP) un50 sz72 (i:=i) (by rw[zM]; omega) h0 H
 show Pur zP GG 120 [ST s.c.a s.c.b s.c.c s.c.boot s.c.free s.c.tries s.c.age s.cs s.now s.next s.js s.ps s.ks s.ds s.hs s.us] _;refine goQ e120 TOk.nil 0 ?_ (by simp[AV.purL,AV.pur,p1,p2,p3,p4,p5,p6,p7]);simp only[push_cast,seval,↓kw2,hZ];refine FW.loopInv (fun m ts H=>∃(i:Nat) (X:List AO),i+m=s.jobs.length/\anyN (fun i=>oddS s.c.cls (zCi s.parts) s.jobs (s.jobs.getD i default)) m i=anyN (fun i=>oddS s.c.cls (zCi s.parts) s.jobs (s.jobs.getD i default)) s.jobs.length 0/\H=.cells [I s.c.a,I s.c.b,I s.c.c,I s.c.boot,I s.c.free,I s.c.tries,I s.c.age,s.cs,I s.now,I s.next,s.js,s.ps,s.ks,s.ds,s.hs,s.us]::X/\ts 1=.ptr 0 0/\ts 3=I (i:Int)) s.jobs.length
  ⟨0,[],by omega,rfl,rfl,rfl,rfl⟩ ?_
 rintro m ih ts H ⟨i,X,hi,hf,rfl,t1,t3⟩
 refine FW.inLoop ?_;have hjl:=hl.jl;have w2:=zAh (n:=(i:Int)+1) (by omega) (by omega)
 by_cases hlt:i < s.jobs.length
 ·have q1:decide ((i:Int) < (s.jobs.length:Int))=true:=zT (by omega);have hx:=hidx i hlt;simp only[Int.toNat_natCast]at hx;rw[zAe Jb.av s.jobs default hlt]at hx;obtain⟨m,rfl⟩:∃ m',m=m'+1:=⟨m - 1,by omega⟩;have hf':(oddS s.c.cls (zCi s.parts) s.jobs (s.jobs.getD i default)||anyN (fun i=>oddS s.c.cls (zCi s.parts) s.jobs (s.jobs.getD i default)) m (i+1))=anyN (fun i=>oddS s.c.cls (zCi s.parts) s.jobs (s.jobs.getD i default)) s.jobs.length 0:=hf;have hg:=h.js.get i;have hc0:=hcl (s.jobs.getD i default) (by simp[List.getD,hlt])
  generalize s.jobs.getD i default=j at hx hf' hg hc0
  rw[show oddS s.c.cls (zCi s.parts) s.jobs j=(decide (j.st=2)&&(!zCi s.parts j.id||decide ((s.c.cls.getD j.cls.toNat default).d < cntR s.jobs j.user j.cls))) from rfl]at hf';have hcy:=Jb.cells j;obtain⟨m1,m2,m3⟩:=IsSl.cell hg;have hbb:(0<=(i:Int)/\(i:Int) < ((s.jobs.map Jb.av).length:Int)):=⟨by omega,by rw[zM]; omega⟩;have hPA:=partAt21 h.ps hl.pl j.id;have hCn:=count21 h.js hl.jl j.user j.cls;have hxc:=hix2 j.cls hc0.1 hc0.2;rw[zAe Cls.av s.c.cls default (by omega)]at hxc;have hcc:=Cls.cells (s.c.cls.getD j.cls.toNat default)
  generalize s.c.cls.getD j.cls.toNat default=cl at hxc hcc hf'
  have hbc:(0<=j.cls/\j.cls < ((s.c.cls.map Cls.av).length:Int)):=⟨by omega,by rw[zM]; omega⟩;rw[hasPart_N]at hf'
  by_cases h1:j.st=2
  ·have x1:=zT h1;rw[x1,Bool.true_and]at hf';refine goN ?_;simp only[push_cast,seval,↓kw2,hZ,t1,t3,hlen,q1,hx,hcy,x1,m1,m2,m3,zAf,zAg]
   repeat (first | refine⟨hbb,?_⟩)
   refine⟨_,toVP hPA,?_⟩
   by_cases h2:partN s.parts j.id < 0
   ·have x2:=zT h2;rw[zF (show ¬0<=partN s.parts j.id by omega),Bool.not_false,Bool.true_or,Bool.true_or]at hf';rw[<- hf']
    try simp only[push_cast,seval,↓kw2,hZ,t1,t3,x2,zAf,zAg]
    exact⟨_,rfl,zAa rfl rfl⟩
   ·have x2:=zF h2;rw[zT (show 0<=partN s.parts j.id by omega),Bool.not_true,Bool.false_or]at hf'
    try simp only[push_cast,seval,↓kw2,hZ,t1,t3,x2,zAf,zAg]
    refine⟨_,toVP hCn,?_⟩
    by_cases h3:cl.d < cntR s.jobs j.user j.cls
    ·have x3:=zT h3;rw[x3,Bool.true_or]at hf';rw[<- hf']
     try simp only[push_cast,seval,↓kw2,hZ,t1,t3,x3,hxc,hcc,gt_iff_lt,zAf,zAg]
     repeat (first | refine⟨hbc,?_⟩)
     exact⟨_,rfl,zAa rfl rfl⟩
    ·have x3:=zF h3;rw[x3,Bool.false_or]at hf'
     try simp only[push_cast,seval,↓kw2,hZ,t1,t3,x3,hxc,hcc,gt_iff_lt,zAf,zAg,w2]
     repeat (first | refine⟨hbc,?_⟩)
     exact ih m (by omega) _ _ ⟨i+1,_,by omega,hf',rfl,t1,rfl⟩
  ·have x1:=zF h1;rw[x1,Bool.false_and,Bool.false_or]at hf';refine goN ?_;simp only[push_cast,seval,↓kw2,hZ,t1,t3,hlen,q1,hx,hcy,x1,m1,m2,m3,zAf,zAg,w2]
   repeat (first | refine⟨hbb,?_⟩)
   exact ih m (by omega) _ _ ⟨i+1,_,by omega,hf',rfl,t1,rfl⟩
 ·have q1:decide ((i:Int) < (s.jobs.length:Int))=false:=zF (by omega);have hm:m=0:=by omega
  subst hm;rw[<- hf];refine goN ?_;simp only[push_cast,seval,↓kw2,hZ,t1,t3,hlen,q1];exact⟨_,rfl,zAa rfl rfl⟩
theorem e134:Ent zP 134 Tryz.f134 [] 4:=.mk Tryz.func134 rfl
attribute [push_cast] Tryz.f134
theorem taken21{s:Sta}(h:s.good)(hl:s.lim)(hE:∀ p∈s.parts,Pur zP GG 182 [s.av,p.av] (I (s.ends p)))(hpo:∀ p∈s.parts,p.pl.ok s.c.a s.c.b s.c.c){l:List Kep}{r:AV}(hr:IsSl r (l.map Kep.av))(hll:l.length<=2^20)(hlo:∀ k∈l,k.bx.pl.ok s.c.a s.c.b s.c.c)(b:Bx6)(hbo:b.pl.ok s.c.a s.c.b s.c.c)(fr till:Int) :
  Pur zP GG 134 [s.av,r,.agg [I b.x,I b.y,I b.z,I b.p,I b.q,I b.r],.agg [I fr,I till]] (B (s.taken l b fr till)):=by
 have hZ:=h.cell;obtain⟨⟨⟨a1,a2,a3⟩,b1,b2,b3⟩,⟨⟨c1,c2,c3⟩,d1,d2,d3⟩,⟨e1,e2,e3⟩,⟨f1,f2,f3⟩,g1,g2,g3⟩:=h.cell;obtain⟨p1,p2,p3,p4,p5,p6,p7⟩:=h.purs;have hpk:=hr.pur (zAc Kep.av _ (fun _=>rfl));obtain⟨z1,z2,z3⟩:=hr.cell;have hlen:=hr.len (P:=zP) un55;have hlen2:=h.ps.len un54;rw[zM]at hlen hlen2;have hidx:=fun(i:Nat) (hi:i < l.length) (H:List AO)=>hr.idx (P:=zP) un55 sz68 (i:=(i:Int)) (by rw[zM]; omega) (by omega) H
 have hidx2:=fun(i:Nat) (hi:i < s.parts.length) (H:List AO)=>h.ps.idx (P:=zP) un54 sz70 (i:=(i:Int)) (by rw[zM]; omega) (by omega) H
 have u2:=kept21 b.x b.y b.z b.p b.q b.r;unfold Sta.taken;show Pur zP GG 134 [ST s.c.a s.c.b s.c.c s.c.boot s.c.free s.c.tries s.c.age s.cs s.now s.next s.js s.ps s.ks s.ds s.hs s.us,r,.agg [I b.x,I b.y,I b.z,I b.p,I b.q,I b.r],.agg [I fr,I till]] _;refine goQ e134 TOk.nil 0 ?_ (by simp[AV.purL,AV.pur,p1,p2,p3,p4,p5,p6,p7,hpk]);simp only[push_cast,seval,↓kw2,hZ,z1,z2,z3];refine FW.loopInv (fun m ts H=>∃ i:Nat,i+m=l.length/\anyN (fun i=>tk1 s b fr till (l.getD i default)) m i=anyN (fun i=>tk1 s b fr till (l.getD i default)) l.length 0/\H=[.cells [I s.c.a,I s.c.b,I s.c.c,I s.c.boot,I s.c.free,I s.c.tries,I s.c.age,s.cs,I s.now,I s.next,s.js,s.ps,s.ks,s.ds,s.hs,s.us],.cells [I b.x,I b.y,I b.z,I b.p,I b.q,I b.r],.cells [I fr,I till],.cells [I s.c.a,I s.c.b,I s.c.c]]/\ts 1=r/\ts 4=.ptr 0 0/\ts 6=.ptr 1 0/\ts 7=.ptr 2 0/\ts 9=.ptr 3 0/\ts 10=I (i:Int)) l.length
  ⟨0,by omega,rfl,rfl,rfl,rfl,rfl,rfl,rfl,rfl⟩ ?_
 rintro m ih ts H ⟨i,hi,hf,rfl,t1,t4,t6,t7,t9,t10⟩
 refine FW.inLoop ?_;have w2:=zAh (n:=(i:Int)+1) (by omega) (by omega)
 by_cases hlt:i < l.length
 ·have q1:decide ((i:Int) < (l.length:Int))=true:=zT (by omega);have hx:=hidx i hlt;simp only[Int.toNat_natCast]at hx;rw[zAe Kep.av l default hlt]at hx;obtain⟨m,rfl⟩:∃ m',m=m'+1:=⟨m - 1,by omega⟩;have hf':(tk1 s b fr till (l.getD i default)||anyN (fun i=>tk1 s b fr till (l.getD i default)) m (i+1))=anyN (fun i=>tk1 s b fr till (l.getD i default)) l.length 0:=hf;have hko:=hlo (l.getD i default) (by simp[List.getD,hlt])
  generalize l.getD i default=k at hx hf' hko
  have hcy:=Kep.cells k;have hbb:(0<=(i:Int)/\(i:Int) < ((l.map Kep.av).length:Int)):=⟨by omega,by rw[zM]; omega⟩;have hS:=spans21 k.fr k.till fr till;have u1:=kept21 k.x k.y k.z k.p k.q k.r;have hM:=meet21 hko hbo;rw[meetR_is hko hbo]at hM;rw[show tk1 s b fr till k=(decide (k.fr < till)&&decide (fr < k.till)&&s.meet k.bx.pl b.pl) from rfl]at hf'
  generalize s.meet k.bx.pl b.pl=M at hM hf'
  simp only[Plc.av,Bx6.pl,Kep.bx,keptP]at hM u1 u2;refine goN ?_;simp only[push_cast,seval,↓kw2,hZ,t1,t4,t6,t7,t9,t10,hlen,q1,hx,hcy]
  repeat (first | refine⟨hbb,?_⟩)
  refine⟨_,toVP hS,?_⟩;cases hv:(decide (k.fr < till)&&decide (fr < k.till))
  ·rw[hv,Bool.false_and,Bool.false_or]at hf'
   try simp only[push_cast,seval,↓kw2,hZ,t1,t4,t6,t7,t9,t10,hx,hcy,w2]
   exact ih m (by omega) _ _ ⟨i+1,by omega,hf',rfl,t1,t4,t6,t7,t9,rfl⟩
  ·rw[hv,Bool.true_and]at hf'
   try simp only[push_cast,seval,↓kw2,hZ,t1,t4,t6,t7,t9,t10,hx,hcy,w2]
   repeat (first | refine⟨hbb,?_⟩)
   refine⟨_,toVP u1,?_⟩
   try simp only[push_cast,seval,↓kw2,hZ,t1,t4,t6,t7,t9,t10,hx,hcy,w2]
   refine⟨_,toVP u2,?_⟩
   try simp only[push_cast,seval,↓kw2,hZ,t1,t4,t6,t7,t9,t10,hx,hcy,w2]
   refine⟨_,toVP hM,?_⟩;cases M
   ·rw[Bool.false_or]at hf'
    try simp only[push_cast,seval,↓kw2,hZ,t1,t4,t6,t7,t9,t10,hx,hcy,w2]
    exact ih m (by omega) _ _ ⟨i+1,by omega,hf',rfl,t1,t4,t6,t7,t9,rfl⟩
   ·rw[Bool.true_or]at hf';rw[<- hf',Bool.true_or]
    try simp only[push_cast,seval,↓kw2,hZ,t1,t4,t6,t7,t9,t10,hx,hcy,w2]
    exact⟨_,rfl,zAa rfl rfl⟩
 ·have q1:decide ((i:Int) < (l.length:Int))=false:=zF (by omega);have hm:m=0:=by omega
  subst hm;rw[<- hf,show anyN (fun i=>tk1 s b fr till (l.getD i default)) 0 i=false from rfl,Bool.false_or];refine goN ?_;simp only[push_cast,seval,↓kw2,hZ,t1,t4,t6,t7,t9,t10,hlen,q1];clear hf ih hi w2 hlt q1;refine FW.loopInv (fun m ts H=>∃ i:Nat,i+m=s.parts.length/\anyN (fun i=>tk2 s b fr till (s.parts.getD i default)) m i=anyN (fun i=>tk2 s b fr till (s.parts.getD i default)) s.parts.length 0/\H=[.cells [I s.c.a,I s.c.b,I s.c.c,I s.c.boot,I s.c.free,I s.c.tries,I s.c.age,s.cs,I s.now,I s.next,s.js,s.ps,s.ks,s.ds,s.hs,s.us],.cells [I b.x,I b.y,I b.z,I b.p,I b.q,I b.r],.cells [I fr,I till],.cells [I s.c.a,I s.c.b,I s.c.c]]/\ts 4=.ptr 0 0/\ts 6=.ptr 1 0/\ts 7=.ptr 2 0/\ts 9=.ptr 3 0/\ts 11=I (i:Int)) s.parts.length
   ⟨0,by omega,rfl,rfl,t4,t6,t7,t9,rfl⟩ ?_
  clear t1 t4 t6 t7 t9 t10 ts i
  rintro m ih ts H ⟨i,hi,hf,rfl,t4,t6,t7,t9,t11⟩
  refine FW.inLoop ?_;have hpl:=hl.pl;have w2:=zAh (n:=(i:Int)+1) (by omega) (by omega)
  by_cases hlt:i < s.parts.length
  ·have q1:decide ((i:Int) < (s.parts.length:Int))=true:=zT (by omega);have hx:=hidx2 i hlt;simp only[Int.toNat_natCast]at hx;rw[zAe Prt.av s.parts default hlt]at hx;obtain⟨m,rfl⟩:∃ m',m=m'+1:=⟨m - 1,by omega⟩;have hf':(tk2 s b fr till (s.parts.getD i default)||anyN (fun i=>tk2 s b fr till (s.parts.getD i default)) m (i+1))=anyN (fun i=>tk2 s b fr till (s.parts.getD i default)) s.parts.length 0:=hf;have hmem:s.parts.getD i default∈s.parts:=by simp[List.getD,hlt]
   have hko:=hpo _ hmem;have hEp:=hE _ hmem
   generalize s.parts.getD i default=p at hx hf' hko hEp
   have hcy:=Prt.cells p;have hbb:(0<=(i:Int)/\(i:Int) < ((s.parts.map Prt.av).length:Int)):=⟨by omega,by rw[zM]; omega⟩;have hM:=meet21 hko hbo;rw[meetR_is hko hbo]at hM;rw[show tk2 s b fr till p=(decide (fr < s.ends p)&&s.meet p.pl b.pl) from rfl]at hf'
   generalize s.meet p.pl b.pl=M at hM hf'
   simp only[Plc.av,Bx6.pl,keptP]at hM u2;simp only[Sta.av,Prt.av]at hEp
   generalize s.ends p=E at hEp hf'
   refine goN ?_;simp only[push_cast,seval,↓kw2,hZ,t4,t6,t7,t9,t11,hlen2,q1,hx,hcy]
   repeat (first | refine⟨hbb,?_⟩)
   refine⟨_,toVP hEp,?_⟩
   by_cases he:fr < E
   ·have x1:=zT he;rw[x1,Bool.true_and]at hf'
    try simp only[push_cast,seval,↓kw2,hZ,t4,t6,t7,t9,t11,hx,hcy,x1,gt_iff_lt]
    repeat (first | refine⟨hbb,?_⟩)
    refine⟨_,toVP u2,?_⟩
    try simp only[push_cast,seval,↓kw2,hZ,t4,t6,t7,t9,t11,hx,hcy,x1,gt_iff_lt]
    refine⟨_,toVP hM,?_⟩;cases M
    ·rw[Bool.false_or]at hf'
     try simp only[push_cast,seval,↓kw2,hZ,t4,t6,t7,t9,t11,w2]
     exact ih m (by omega) _ _ ⟨i+1,by omega,hf',rfl,t4,t6,t7,t9,rfl⟩
    ·rw[Bool.true_or]at hf';rw[<- hf']
     try simp only[push_cast,seval,↓kw2,hZ,t4,t6,t7,t9,t11,w2]
     exact⟨_,rfl,zAa rfl rfl⟩
   ·have x1:=zF he;rw[x1,Bool.false_and,Bool.false_or]at hf'
    try simp only[push_cast,seval,↓kw2,hZ,t4,t6,t7,t9,t11,hx,hcy,x1,gt_iff_lt,w2]
    exact ih m (by omega) _ _ ⟨i+1,by omega,hf',rfl,t4,t6,t7,t9,rfl⟩
  ·have q1:decide ((i:Int) < (s.parts.length:Int))=false:=zF (by omega);have hm:m=0:=by omega
   subst hm;rw[<- hf];refine goN ?_;simp only[push_cast,seval,↓kw2,hZ,t4,t6,t7,t9,t11,hlen2,q1];exact⟨_,rfl,zAa rfl rfl⟩
theorem kept_ok2{a b c:Int}{k:Kep}(hd:okD a b c)(hb:okB a b c k.x k.y k.z k.p k.q k.r)(ht:(k.p=a->k.x=0)/\(k.q=b->k.y=0)/\(k.r=c->k.z=0)):k.bx.pl.ok a b c :=
 ⟨hd,hb,(fun h=>by cases h),(fun h=>by cases h),(fun h=>by cases h),ht.1,ht.2.1,ht.2.2⟩
theorem told_eq(a b c:Int)(k:Kep):aEqS zP 30 (.agg [I (can 0 a k.p k.x),I (can 0 b k.q k.y),I (can 0 c k.r k.z),I k.p,I k.q,I k.r]) (.agg [I k.x,I k.y,I k.z,I k.p,I k.q,I k.r])=some (decide ((k.p=a->k.x=0)/\(k.q=b->k.y=0)/\(k.r=c->k.z=0))):=by
 rw[eqBox'];refine congrArg some (decide_eq_decide.2 ?_);simp only[can_0]
 constructor
 ·rintro⟨h1,h2,h3,_⟩
  exact⟨fun e=>by rw[if_pos e]at h1; exact h1.symm,fun e=>by rw[if_pos e]at h2; exact h2.symm,fun e=>by rw[if_pos e]at h3; exact h3.symm⟩
 ·rintro⟨h1,h2,h3⟩
  refine⟨?_,?_,?_,trivial,trivial,trivial⟩
  ·split
   ·rename_i e; exact(h1 e).symm
   ·rfl
  ·split
   ·rename_i e; exact(h2 e).symm
   ·rfl
  ·split
   ·rename_i e; exact(h3 e).symm
   ·rfl
theorem e121:Ent zP 121 Tryz.f121 [] 1:=.mk Tryz.func121 rfl
attribute [push_cast] Tryz.f121
theorem mayKeeps21{s:Sta}(h:s.good)(hl:s.lim)(hd:okD s.c.a s.c.b s.c.c)(hE:∀ p∈s.parts,Pur zP GG 182 [s.av,p.av] (I (s.ends p)))(hpo:∀ p∈s.parts,p.pl.ok s.c.a s.c.b s.c.c):Pur zP GG 121 [s.av] (B (decide ((s.keeps.length:Int)<=4)&&!anyN s.oddKR s.keeps.length 0)):=by
 have hZ:=h.cell;obtain⟨⟨⟨a1,a2,a3⟩,b1,b2,b3⟩,⟨⟨c1,c2,c3⟩,d1,d2,d3⟩,⟨e1,e2,e3⟩,⟨f1,f2,f3⟩,g1,g2,g3⟩:=h.cell;obtain⟨p1,p2,p3,p4,p5,p6,p7⟩:=h.purs;have hlen:=h.ks.len un55;rw[zM]at hlen;have hidx:=fun(i:Nat) (hi:i < s.keeps.length) (H:List AO)=>h.ks.idx (P:=zP) un55 sz68 (i:=(i:Int)) (by rw[zM]; omega) (by omega) H
 show Pur zP GG 121 [ST s.c.a s.c.b s.c.c s.c.boot s.c.free s.c.tries s.c.age s.cs s.now s.next s.js s.ps s.ks s.ds s.hs s.us] _
 by_cases h24:4 < (s.keeps.length:Int)
 ·have d24:=zT h24;rw[zF (by omega),Bool.false_and];refine goQ e121 TOk.nil 0 ?_ (by simp[AV.purL,AV.pur,p1,p2,p3,p4,p5,p6,p7]);simp only[push_cast,seval,↓kw2,hZ,hlen,d24];exact⟨_,rfl,zAa rfl rfl⟩
 have d24:=zF h24;rw[zT (by omega),Bool.true_and];refine goQ e121 TOk.nil 0 ?_ (by simp[AV.purL,AV.pur,p1,p2,p3,p4,p5,p6,p7]);simp only[push_cast,seval,↓kw2,hZ,hlen,d24];refine FW.loopInv (fun m ts H=>∃(i:Nat) (X:List AO),i+m=s.keeps.length/\anyN s.oddKR m i=anyN s.oddKR s.keeps.length 0/\(∀ k∈s.keeps.take i,k.bx.pl.ok s.c.a s.c.b s.c.c)/\H=.cells [I s.c.a,I s.c.b,I s.c.c,I s.c.boot,I s.c.free,I s.c.tries,I s.c.age,s.cs,I s.now,I s.next,s.js,s.ps,s.ks,s.ds,s.hs,s.us]::.cells [I s.c.a,I s.c.b,I s.c.c]::X/\ts 1=.ptr 0 0/\ts 3=.ptr 1 0/\ts 4=I (i:Int)) s.keeps.length
  ⟨0,[],by omega,rfl,(fun k hk=>by cases hk),rfl,rfl,rfl,rfl⟩ ?_
 rintro m ih ts H ⟨i,X,hi,hf,hok,rfl,t1,t3,t4⟩
 refine FW.inLoop ?_;have w2:=zAh (n:=(i:Int)+1) (by omega) (by omega);have w3:=zAh (n:=(i:Int) - 1) (by omega) (by omega)
 by_cases hlt:i < s.keeps.length
 ·have y1:decide ((i:Int) < (s.keeps.length:Int))=true:=zT (by omega);have hx:=hidx i hlt;simp only[Int.toNat_natCast]at hx;rw[zAe Kep.av s.keeps default hlt]at hx;obtain⟨m,rfl⟩:∃ m',m=m'+1:=⟨m - 1,by omega⟩;have hf':(s.oddKR i||anyN s.oddKR m (i+1))=anyN s.oddKR s.keeps.length 0:=hf;have htk:=zAo default hlt;have hpe:=Go.Ab.Pd.IsSl.ne h.ks (by rw[zM]; omega);obtain⟨C,hsl,hCC⟩:=sl_keeps (l:=s.keeps) (i:=i) (by omega);rw[<- hpe]at hsl;have ho:s.oddKR i=((decide ((s.keeps.getD i default).id < 1)||(decide (s.next<=(s.keeps.getD i default).id)||((decide (0 < i)&&decide ((s.keeps.getD i default).id<=(s.keeps.getD (i - 1) default).id))||(!decide (okB s.c.a s.c.b s.c.c (s.keeps.getD i default).x (s.keeps.getD i default).y (s.keeps.getD i default).z (s.keeps.getD i default).p (s.keeps.getD i default).q (s.keeps.getD i default).r)||!decide (((s.keeps.getD i default).p=s.c.a->(s.keeps.getD i default).x=0)/\((s.keeps.getD i default).q=s.c.b->(s.keeps.getD i default).y=0)/\((s.keeps.getD i default).r=s.c.c->(s.keeps.getD i default).z=0)))))) ||
   ((decide ((s.keeps.getD i default).fr < 0)||(decide ((s.keeps.getD i default).till<=(s.keeps.getD i default).fr)||(decide (1099511627776 < (s.keeps.getD i default).till)||decide ((s.keeps.getD i default).till<=s.now))))||s.taken (s.keeps.take i) (s.keeps.getD i default).bx (s.keeps.getD i default).fr (s.keeps.getD i default).till)):=rfl
  have hbb:(0<=(i:Int)/\(i:Int) < ((s.keeps.map Kep.av).length:Int)):=⟨by omega,by rw[zM]; omega⟩;have ho':∃ o,o=s.keeps.getD (i - 1) default:=⟨_,rfl⟩;obtain⟨o,ho'⟩:=ho';rw[<- ho']at ho;have hcy':=Kep.cells o
  generalize s.keeps.getD i default=k at hx ho htk
  have hcy:=Kep.cells k;have hM:=may02 s.c.a s.c.b s.c.c k.x k.y k.z k.p k.q k.r;have hT:=told02 s.c.a s.c.b s.c.c k.x k.y k.z k.p k.q k.r;have heq:=told_eq s.c.a s.c.b s.c.c k
  by_cases h0:0 < i
  ·have hx':=hidx (i - 1) (by omega);simp only[Int.toNat_natCast,show((i - 1:Nat):Int)=(i:Int) - 1 by omega]at hx';rw[show((i:Int) - 1).toNat=i - 1 by omega,zAe Kep.av s.keeps default (by omega),<- ho']at hx';have hbb':(0<=(i:Int) - 1/\(i:Int) - 1 < ((s.keeps.map Kep.av).length:Int)):=⟨by omega,by rw[zM]; omega⟩;have q0:decide ((0:Int) < (i:Int))=true:=zT (by omega)
   by_cases z0:k.id < 1
   ·have x0:=zT z0;rw[show s.oddKR i=true by rw[ho]; simp[h0,z0],Bool.true_or]at hf';rw[<- hf'];refine goN ?_;simp only[push_cast,seval,↓kw2,hZ,t1,t3,t4,hlen,y1,hx,hcy,zAf,zAg,w3,gt_iff_lt,ge_iff_le,q0,hx',hcy',x0]
    repeat (first | refine⟨hbb,?_⟩ | refine⟨hbb',?_⟩)
    exact⟨_,rfl,zAa rfl rfl⟩
   have x0:=zF z0
   by_cases z1:s.next<=k.id
   ·have x1:=zT z1;rw[show s.oddKR i=true by rw[ho]; simp[h0,z0,z1],Bool.true_or]at hf';rw[<- hf'];refine goN ?_;simp only[push_cast,seval,↓kw2,hZ,t1,t3,t4,hlen,y1,hx,hcy,zAf,zAg,w3,gt_iff_lt,ge_iff_le,q0,hx',hcy',x0,x1]
    repeat (first | refine⟨hbb,?_⟩ | refine⟨hbb',?_⟩)
    exact⟨_,rfl,zAa rfl rfl⟩
   have x1:=zF z1
   by_cases z2:k.id<=o.id
   ·have x2:=zT z2;rw[show s.oddKR i=true by rw[ho]; simp[h0,z0,z1,z2],Bool.true_or]at hf';rw[<- hf'];refine goN ?_;simp only[push_cast,seval,↓kw2,hZ,t1,t3,t4,hlen,y1,hx,hcy,zAf,zAg,w3,gt_iff_lt,ge_iff_le,q0,hx',hcy',x0,x1,x2]
    repeat (first | refine⟨hbb,?_⟩ | refine⟨hbb',?_⟩)
    exact⟨_,rfl,zAa rfl rfl⟩
   have x2:=zF z2
   by_cases zb:¬okB s.c.a s.c.b s.c.c k.x k.y k.z k.p k.q k.r
   ·rw[zF zb]at hM;rw[show s.oddKR i=true by rw[ho]; simp[zb],Bool.true_or]at hf';rw[<- hf'];refine goN ?_;simp only[push_cast,seval,↓kw2,hZ,t1,t3,t4,hlen,y1,hx,hcy,zAf,zAg,w3,gt_iff_lt,ge_iff_le,q0,hx',hcy',x0,x1,x2]
    repeat (first | refine⟨hbb,?_⟩ | refine⟨hbb',?_⟩)
    refine⟨_,toVP hM,?_⟩
    try simp only[push_cast,seval,↓kw2,hZ,t1,t3,t4,hx,hcy,zAf,zAg,gt_iff_lt,ge_iff_le]
    exact⟨_,rfl,zAa rfl rfl⟩
   have zb:=Classical.not_not.1 zb;rw[zT zb]at hM
   by_cases zt:¬((k.p=s.c.a->k.x=0)/\(k.q=s.c.b->k.y=0)/\(k.r=s.c.c->k.z=0))
   ·rw[zF zt]at heq;rw[show s.oddKR i=true by rw[ho,zF zt]; simp,Bool.true_or]at hf';rw[<- hf'];refine goN ?_;simp only[push_cast,seval,↓kw2,hZ,t1,t3,t4,hlen,y1,hx,hcy,zAf,zAg,w3,gt_iff_lt,ge_iff_le,q0,hx',hcy',x0,x1,x2]
    repeat (first | refine⟨hbb,?_⟩ | refine⟨hbb',?_⟩)
    refine⟨_,toVP hM,?_⟩
    try simp only[push_cast,seval,↓kw2,hZ,t1,t3,t4,hx,hcy,zAf,zAg,gt_iff_lt,ge_iff_le]
    refine⟨_,toVP hT,?_⟩
    try simp only[push_cast,seval,↓kw2,hZ,t1,t3,t4,hx,hcy,zAf,zAg,gt_iff_lt,ge_iff_le,heq,zAj]
    exact⟨_,rfl,zAa rfl rfl⟩
   have zt:=Classical.not_not.1 zt;rw[zT zt]at heq;have hko:=kept_ok2 (k:=k) hd zb zt
   by_cases z5:k.fr < 0
   ·have x5:=zT z5;rw[show s.oddKR i=true by rw[ho]; simp[z5],Bool.true_or]at hf';rw[<- hf'];refine goN ?_;simp only[push_cast,seval,↓kw2,hZ,t1,t3,t4,hlen,y1,hx,hcy,zAf,zAg,w3,gt_iff_lt,ge_iff_le,q0,hx',hcy',x0,x1,x2]
    repeat (first | refine⟨hbb,?_⟩ | refine⟨hbb',?_⟩)
    refine⟨_,toVP hM,?_⟩
    try simp only[push_cast,seval,↓kw2,hZ,t1,t3,t4,hx,hcy,zAf,zAg,gt_iff_lt,ge_iff_le]
    refine⟨_,toVP hT,?_⟩
    try simp only[push_cast,seval,↓kw2,hZ,t1,t3,t4,hx,hcy,zAf,zAg,gt_iff_lt,ge_iff_le,heq,zAj,x5]
    exact⟨_,rfl,zAa rfl rfl⟩
   have x5:=zF z5
   by_cases z6:k.till<=k.fr
   ·have x6:=zT z6;rw[show s.oddKR i=true by rw[ho]; simp[z6],Bool.true_or]at hf';rw[<- hf'];refine goN ?_;simp only[push_cast,seval,↓kw2,hZ,t1,t3,t4,hlen,y1,hx,hcy,zAf,zAg,w3,gt_iff_lt,ge_iff_le,q0,hx',hcy',x0,x1,x2]
    repeat (first | refine⟨hbb,?_⟩ | refine⟨hbb',?_⟩)
    refine⟨_,toVP hM,?_⟩
    try simp only[push_cast,seval,↓kw2,hZ,t1,t3,t4,hx,hcy,zAf,zAg,gt_iff_lt,ge_iff_le]
    refine⟨_,toVP hT,?_⟩
    try simp only[push_cast,seval,↓kw2,hZ,t1,t3,t4,hx,hcy,zAf,zAg,gt_iff_lt,ge_iff_le,heq,zAj,x5,x6]
    exact⟨_,rfl,zAa rfl rfl⟩
   have x6:=zF z6
   by_cases z7:1099511627776 < k.till
   ·have x7:=zT z7;rw[show s.oddKR i=true by rw[ho]; simp[z7],Bool.true_or]at hf';rw[<- hf'];refine goN ?_;simp only[push_cast,seval,↓kw2,hZ,t1,t3,t4,hlen,y1,hx,hcy,zAf,zAg,w3,gt_iff_lt,ge_iff_le,q0,hx',hcy',x0,x1,x2]
    repeat (first | refine⟨hbb,?_⟩ | refine⟨hbb',?_⟩)
    refine⟨_,toVP hM,?_⟩
    try simp only[push_cast,seval,↓kw2,hZ,t1,t3,t4,hx,hcy,zAf,zAg,gt_iff_lt,ge_iff_le]
    refine⟨_,toVP hT,?_⟩
    try simp only[push_cast,seval,↓kw2,hZ,t1,t3,t4,hx,hcy,zAf,zAg,gt_iff_lt,ge_iff_le,heq,zAj,x5,x6,x7]
    exact⟨_,rfl,zAa rfl rfl⟩
   have x7:=zF z7
   by_cases z8:k.till<=s.now
   ·have x8:=zT z8;rw[show s.oddKR i=true by rw[ho]; simp[z8],Bool.true_or]at hf';rw[<- hf'];refine goN ?_;simp only[push_cast,seval,↓kw2,hZ,t1,t3,t4,hlen,y1,hx,hcy,zAf,zAg,w3,gt_iff_lt,ge_iff_le,q0,hx',hcy',x0,x1,x2]
    repeat (first | refine⟨hbb,?_⟩ | refine⟨hbb',?_⟩)
    refine⟨_,toVP hM,?_⟩
    try simp only[push_cast,seval,↓kw2,hZ,t1,t3,t4,hx,hcy,zAf,zAg,gt_iff_lt,ge_iff_le]
    refine⟨_,toVP hT,?_⟩
    try simp only[push_cast,seval,↓kw2,hZ,t1,t3,t4,hx,hcy,zAf,zAg,gt_iff_lt,ge_iff_le,heq,zAj,x5,x6,x7,x8]
    exact⟨_,rfl,zAa rfl rfl⟩
   have x8:=zF z8;have hTk:=taken21 h hl hE hpo (l:=s.keeps.take i) (r:=.isl ((s.keeps.take i).map Kep.av)) (.inl rfl) (by rw[List.length_take]; omega) hok k.bx hko k.fr k.till;have hall:∀ q∈s.keeps.take (i+1),q.bx.pl.ok s.c.a s.c.b s.c.c:=fun q hq=>by
    rw[htk]at hq
    rcases List.mem_append.1 hq with hq | hq
    ·exact hok q hq
    ·cases List.mem_singleton.1 hq; exact hko
   cases hv:s.taken (s.keeps.take i) k.bx k.fr k.till
   all_goals
    rw[hv]at hTk;simp only[Sta.av,Kep.bx]at hTk;rw[show s.oddKR i=_ from (by rw[ho,zT zt,zT zb,hv,zF z0,zF z1,zF z5,zF z6,zF z7,zF z8]:s.oddKR i=((false||(false||((decide (0 < i)&&decide (k.id<=o.id))||(!true||!true))))||((false||(false||(false||false)))||_))),zT h0,zF z2]at hf';simp only[Bool.true_and,Bool.false_and,Bool.and_false,Bool.not_true,Bool.or_false,Bool.false_or,Bool.or_true,Bool.true_or]at hf';refine goN ?_;simp only[push_cast,seval,↓kw2,hZ,t1,t3,t4,hlen,y1,hx,hcy,zAf,zAg,w3,gt_iff_lt,ge_iff_le,q0,hx',hcy',x0,x1,x2]
    repeat (first | refine⟨hbb,?_⟩ | refine⟨hbb',?_⟩)
    refine⟨_,toVP hM,?_⟩
    try simp only[push_cast,seval,↓kw2,hZ,t1,t3,t4,hx,hcy,zAf,zAg,gt_iff_lt,ge_iff_le]
    refine⟨_,toVP hT,?_⟩
    try simp only[push_cast,seval,↓kw2,hZ,t1,t3,t4,hx,hcy,zAf,zAg,gt_iff_lt,ge_iff_le,heq,zAj,hsl,x5,x6,x7,x8]
    refine⟨hCC,?_⟩;refine⟨_,toVP hTk,?_⟩
    try simp only[push_cast,seval,↓kw2,hZ,t1,t3,t4,hx,hcy,zAf,zAg,gt_iff_lt,ge_iff_le,w2]
   ·exact ih m (by omega) _ _ ⟨i+1,_,by omega,hf',hall,rfl,t1,t3,rfl⟩
   ·rw[<- hf'];exact⟨_,rfl,zAa rfl rfl⟩
  ·have q0:decide ((0:Int) < (i:Int))=false:=zF (by omega)
   by_cases z0:k.id < 1
   ·have x0:=zT z0;rw[show s.oddKR i=true by rw[ho]; simp[h0,z0],Bool.true_or]at hf';rw[<- hf'];refine goN ?_;simp only[push_cast,seval,↓kw2,hZ,t1,t3,t4,hlen,y1,hx,hcy,zAf,zAg,w3,gt_iff_lt,ge_iff_le,q0,x0]
    repeat (first | refine⟨hbb,?_⟩)
    exact⟨_,rfl,zAa rfl rfl⟩
   have x0:=zF z0
   by_cases z1:s.next<=k.id
   ·have x1:=zT z1;rw[show s.oddKR i=true by rw[ho]; simp[h0,z0,z1],Bool.true_or]at hf';rw[<- hf'];refine goN ?_;simp only[push_cast,seval,↓kw2,hZ,t1,t3,t4,hlen,y1,hx,hcy,zAf,zAg,w3,gt_iff_lt,ge_iff_le,q0,x0,x1]
    repeat (first | refine⟨hbb,?_⟩)
    exact⟨_,rfl,zAa rfl rfl⟩
   have x1:=zF z1
   by_cases zb:¬okB s.c.a s.c.b s.c.c k.x k.y k.z k.p k.q k.r
   ·rw[zF zb]at hM;rw[show s.oddKR i=true by rw[ho]; simp[zb],Bool.true_or]at hf';rw[<- hf'];refine goN ?_;simp only[push_cast,seval,↓kw2,hZ,t1,t3,t4,hlen,y1,hx,hcy,zAf,zAg,w3,gt_iff_lt,ge_iff_le,q0,x0,x1]
    repeat (first | refine⟨hbb,?_⟩)
    refine⟨_,toVP hM,?_⟩
    try simp only[push_cast,seval,↓kw2,hZ,t1,t3,t4,hx,hcy,zAf,zAg,gt_iff_lt,ge_iff_le]
    exact⟨_,rfl,zAa rfl rfl⟩
   have zb:=Classical.not_not.1 zb;rw[zT zb]at hM
   by_cases zt:¬((k.p=s.c.a->k.x=0)/\(k.q=s.c.b->k.y=0)/\(k.r=s.c.c->k.z=0))
   ·rw[zF zt]at heq;rw[show s.oddKR i=true by rw[ho,zF zt]; simp,Bool.true_or]at hf';rw[<- hf'];refine goN ?_;simp only[push_cast,seval,↓kw2,hZ,t1,t3,t4,hlen,y1,hx,hcy,zAf,zAg,w3,gt_iff_lt,ge_iff_le,q0,x0,x1]
    repeat (first | refine⟨hbb,?_⟩)
    refine⟨_,toVP hM,?_⟩
    try simp only[push_cast,seval,↓kw2,hZ,t1,t3,t4,hx,hcy,zAf,zAg,gt_iff_lt,ge_iff_le]
    refine⟨_,toVP hT,?_⟩
    try simp only[push_cast,seval,↓kw2,hZ,t1,t3,t4,hx,hcy,zAf,zAg,gt_iff_lt,ge_iff_le,heq,zAj]
    exact⟨_,rfl,zAa rfl rfl⟩
   have zt:=Classical.not_not.1 zt;rw[zT zt]at heq;have hko:=kept_ok2 (k:=k) hd zb zt
   by_cases z5:k.fr < 0
   ·have x5:=zT z5;rw[show s.oddKR i=true by rw[ho]; simp[z5],Bool.true_or]at hf';rw[<- hf'];refine goN ?_;simp only[push_cast,seval,↓kw2,hZ,t1,t3,t4,hlen,y1,hx,hcy,zAf,zAg,w3,gt_iff_lt,ge_iff_le,q0,x0,x1]
    repeat (first | refine⟨hbb,?_⟩)
    refine⟨_,toVP hM,?_⟩
    try simp only[push_cast,seval,↓kw2,hZ,t1,t3,t4,hx,hcy,zAf,zAg,gt_iff_lt,ge_iff_le]
    refine⟨_,toVP hT,?_⟩
    try simp only[push_cast,seval,↓kw2,hZ,t1,t3,t4,hx,hcy,zAf,zAg,gt_iff_lt,ge_iff_le,heq,zAj,x5]
    exact⟨_,rfl,zAa rfl rfl⟩
   have x5:=zF z5
   by_cases z6:k.till<=k.fr
   ·have x6:=zT z6;rw[show s.oddKR i=true by rw[ho]; simp[z6],Bool.true_or]at hf';rw[<- hf'];refine goN ?_;simp only[push_cast,seval,↓kw2,hZ,t1,t3,t4,hlen,y1,hx,hcy,zAf,zAg,w3,gt_iff_lt,ge_iff_le,q0,x0,x1]
    repeat (first | refine⟨hbb,?_⟩)
    refine⟨_,toVP hM,?_⟩
    try simp only[push_cast,seval,↓kw2,hZ,t1,t3,t4,hx,hcy,zAf,zAg,gt_iff_lt,ge_iff_le]
    refine⟨_,toVP hT,?_⟩
    try simp only[push_cast,seval,↓kw2,hZ,t1,t3,t4,hx,hcy,zAf,zAg,gt_iff_lt,ge_iff_le,heq,zAj,x5,x6]
    exact⟨_,rfl,zAa rfl rfl⟩
   have x6:=zF z6
   by_cases z7:1099511627776 < k.till
   ·have x7:=zT z7;rw[show s.oddKR i=true by rw[ho]; simp[z7],Bool.true_or]at hf';rw[<- hf'];refine goN ?_;simp only[push_cast,seval,↓kw2,hZ,t1,t3,t4,hlen,y1,hx,hcy,zAf,zAg,w3,gt_iff_lt,ge_iff_le,q0,x0,x1]
    repeat (first | refine⟨hbb,?_⟩)
    refine⟨_,toVP hM,?_⟩
    try simp only[push_cast,seval,↓kw2,hZ,t1,t3,t4,hx,hcy,zAf,zAg,gt_iff_lt,ge_iff_le]
    refine⟨_,toVP hT,?_⟩
    try simp only[push_cast,seval,↓kw2,hZ,t1,t3,t4,hx,hcy,zAf,zAg,gt_iff_lt,ge_iff_le,heq,zAj,x5,x6,x7]
    exact⟨_,rfl,zAa rfl rfl⟩
   have x7:=zF z7
   by_cases z8:k.till<=s.now
   ·have x8:=zT z8;rw[show s.oddKR i=true by rw[ho]; simp[z8],Bool.true_or]at hf';rw[<- hf'];refine goN ?_;simp only[push_cast,seval,↓kw2,hZ,t1,t3,t4,hlen,y1,hx,hcy,zAf,zAg,w3,gt_iff_lt,ge_iff_le,q0,x0,x1]
    repeat (first | refine⟨hbb,?_⟩)
    refine⟨_,toVP hM,?_⟩
    try simp only[push_cast,seval,↓kw2,hZ,t1,t3,t4,hx,hcy,zAf,zAg,gt_iff_lt,ge_iff_le]
    refine⟨_,toVP hT,?_⟩
    try simp only[push_cast,seval,↓kw2,hZ,t1,t3,t4,hx,hcy,zAf,zAg,gt_iff_lt,ge_iff_le,heq,zAj,x5,x6,x7,x8]
    exact⟨_,rfl,zAa rfl rfl⟩
   have x8:=zF z8;have hTk:=taken21 h hl hE hpo (l:=s.keeps.take i) (r:=.isl ((s.keeps.take i).map Kep.av)) (.inl rfl) (by rw[List.length_take]; omega) hok k.bx hko k.fr k.till;have hall:∀ q∈s.keeps.take (i+1),q.bx.pl.ok s.c.a s.c.b s.c.c:=fun q hq=>by
    rw[htk]at hq
    rcases List.mem_append.1 hq with hq | hq
    ·exact hok q hq
    ·cases List.mem_singleton.1 hq; exact hko
   cases hv:s.taken (s.keeps.take i) k.bx k.fr k.till
   all_goals
    rw[hv]at hTk;simp only[Sta.av,Kep.bx]at hTk;rw[show s.oddKR i=_ from (by rw[ho,zT zt,zT zb,hv,zF z0,zF z1,zF z5,zF z6,zF z7,zF z8]:s.oddKR i=((false||(false||((decide (0 < i)&&decide (k.id<=o.id))||(!true||!true))))||((false||(false||(false||false)))||_))),zF h0]at hf';simp only[Bool.true_and,Bool.false_and,Bool.and_false,Bool.not_true,Bool.or_false,Bool.false_or,Bool.or_true,Bool.true_or]at hf';refine goN ?_;simp only[push_cast,seval,↓kw2,hZ,t1,t3,t4,hlen,y1,hx,hcy,zAf,zAg,w3,gt_iff_lt,ge_iff_le,q0,x0,x1]
    repeat (first | refine⟨hbb,?_⟩)
    refine⟨_,toVP hM,?_⟩
    try simp only[push_cast,seval,↓kw2,hZ,t1,t3,t4,hx,hcy,zAf,zAg,gt_iff_lt,ge_iff_le]
    refine⟨_,toVP hT,?_⟩
    try simp only[push_cast,seval,↓kw2,hZ,t1,t3,t4,hx,hcy,zAf,zAg,gt_iff_lt,ge_iff_le,heq,zAj,hsl,x5,x6,x7,x8]
    refine⟨hCC,?_⟩;refine⟨_,toVP hTk,?_⟩
    try simp only[push_cast,seval,↓kw2,hZ,t1,t3,t4,hx,hcy,zAf,zAg,gt_iff_lt,ge_iff_le,w2]
   ·exact ih m (by omega) _ _ ⟨i+1,_,by omega,hf',hall,rfl,t1,t3,rfl⟩
   ·rw[<- hf'];exact⟨_,rfl,zAa rfl rfl⟩
 ·have y1:decide ((i:Int) < (s.keeps.length:Int))=false:=zF (by omega);have hm:m=0:=by omega
  subst hm;rw[<- hf];refine goN ?_;simp only[push_cast,seval,↓kw2,hZ,t1,t3,t4,hlen,y1];exact⟨_,rfl,zAa rfl rfl⟩
theorem partsR_is{s:Sta}(hc:s.c.chk=0)(ht:tblE s.c s.jobs=0)(hm:s.marks=true):(decide ((s.parts.length:Int)<=24)&&!anyN (fun i=>s.odd1R i||anyN (s.odd2R i) i 0) s.parts.length 0)=s.partsV:=by
 unfold Sta.partsV
 congr 2
 have h1:∀ i,s.odd1R i=s.odd1 i:=fun i=>by
  unfold Sta.odd1R Sta.odd1;rw[partR_is hc ht hm]
 by_cases hb:∃ i,i < s.parts.length/\s.odd1 i=true
 ·obtain⟨i,hi,ho⟩:=hb;rw[Bool.eq_iff_iff];refine⟨fun _=>anyN_iff.2 ⟨i,by omega,by omega,by rw[ho,Bool.true_or]⟩,fun _=>anyN_iff.2 ⟨i,by omega,by omega,by rw[h1,ho,Bool.true_or]⟩⟩
 ·have hno:∀ i,i < s.parts.length->s.odd1 i=false:=fun i hi=>by
   cases h:s.odd1 i
   ·rfl
   ·exact absurd ⟨i,hi,h⟩ hb
  have hok:∀ i,i < s.parts.length->(s.parts.getD i default).pl.ok s.c.a s.c.b s.c.c:=fun i hi=>by
   have:=hno i hi;unfold Sta.odd1 at this;rw[Bool.or_eq_false_iff,Bool.not_eq_false']at this;rw[<- partR_is hc ht hm]at this;exact partR_ok this.2
  have h2:∀ i,i < s.parts.length->anyN (s.odd2R i) i 0=s.odd2 i:=fun i hi=>by
   unfold Sta.odd2;rw[List.length_take,show min i s.parts.length=i by omega,Bool.eq_iff_iff,anyN_iff,anyN_iff];have key:∀ k,k < i->s.odd2R i k=s.meet (s.parts.getD i default).pl ((s.parts.take i).getD k default).pl:=fun k hk=>by
    unfold Sta.odd2R;rw[meetR_is (hok i hi) (hok k (by omega)),show(s.parts.take i).getD k default=s.parts.getD k default by simp[List.getD,List.getElem?_take,hk]]
   constructor
   ·rintro⟨k,a,b,e⟩
    exact⟨k,a,b,by rw[<- key k (by omega)]; exact e⟩
   ·rintro⟨k,a,b,e⟩
    exact⟨k,a,b,by rw[key k (by omega)]; exact e⟩
  rw[Bool.eq_iff_iff,anyN_iff,anyN_iff]
  constructor
  ·rintro⟨i,a,b,e⟩
   exact⟨i,a,b,by rw[h1,h2 i (by omega)]at e; exact e⟩
  ·rintro⟨i,a,b,e⟩
   exact⟨i,a,b,by rw[h1,h2 i (by omega)]; exact e⟩
theorem chk_of_may{x:Cfg}(h:x.may=true):x.chk=0:=by unfold Cfg.chk; rw[if_pos h]
theorem parts_ok2{s:Sta}(h:s.partsV=true):∀ p∈s.parts,p.pl.ok s.c.a s.c.b s.c.c:=fun p hp=>(part_facts (parts_part h p hp)).2.2.2.2.1
theorem parts_ends2{s:Sta}(h:s.good)(hl:s.lim)(hv:s.partsV=true):∀ p∈s.parts,Pur zP GG 182 [s.av,p.av] (I (s.ends p)):=fun p hm=>by
 have hp:=parts_part hv p hm;unfold Sta.part at hp;simp only[zA,decide_eq_true_eq]at hp;obtain⟨⟨_,hpp⟩,k1,k2,k3,k4⟩:=Cfg.sp_facts hp.1.1.1.1.1.1.2;exact ends21 h hl p (by omega) (by omega) (by omega) k1
theorem e59:Ent zP 59 Tryz.f59 [] 1:=.mk Tryz.func59 rfl
attribute [push_cast] Tryz.f59
theorem may21{s:Sta}(h:s.good)(hl:s.lim)(hl2:s.lim2):Pur zP GG 59 [s.av] (B s.okV):=by
 have hZ:=h.cell;obtain⟨⟨⟨a1,a2,a3⟩,b1,b2,b3⟩,⟨⟨c1,c2,c3⟩,d1,d2,d3⟩,⟨e1,e2,e3⟩,⟨f1,f2,f3⟩,g1,g2,g3⟩:=h.cell;obtain⟨p1,p2,p3,p4,p5,p6,p7⟩:=h.purs;have k1:=may16 s.c h.cs (by have:=hl2.cl; omega);have k2:=mayJobs21 h hl hl2;rw[jobsR_is]at k2;simp only[Sta.av]at k2;show Pur zP GG 59 [ST s.c.a s.c.b s.c.c s.c.boot s.c.free s.c.tries s.c.age s.cs s.now s.next s.js s.ps s.ks s.ds s.hs s.us] _;cases hm:s.c.may
 ·rw[hm]at k1;rw[show s.okV=false by unfold Sta.okV Sta.config Cfg.chk; simp[hm]];refine goQ e59 TOk.nil 0 ?_ (by simp[AV.purL,AV.pur,p1,p2,p3,p4,p5,p6,p7]);simp only[push_cast,seval,↓kw2,hZ];refine AC.pur k1 ?_;refine goN ?_;simp only[push_cast,seval,↓kw2,hZ];exact⟨_,rfl,zAa rfl rfl⟩
 rw[hm]at k1;have hd:=Cfg.may_ok hm;have hchk:=chk_of_may hm
 by_cases z0:s.now < 0
 ·have x0:=zT z0;rw[show s.okV=false by unfold Sta.okV Sta.config; rw[zF (show ¬(0<=s.now) by omega)]; simp];refine goQ e59 TOk.nil 0 ?_ (by simp[AV.purL,AV.pur,p1,p2,p3,p4,p5,p6,p7]);simp only[push_cast,seval,↓kw2,hZ];refine AC.pur k1 ?_;refine goN ?_;simp only[push_cast,seval,↓kw2,hZ,x0,gt_iff_lt];exact⟨_,rfl,zAa rfl rfl⟩
 have x0:=zF z0
 by_cases z1:1099511627776 < s.now
 ·have x1:=zT z1;rw[show s.okV=false by unfold Sta.okV Sta.config; rw[zF (show ¬(s.now<=1099511627776) by omega)]; simp];refine goQ e59 TOk.nil 0 ?_ (by simp[AV.purL,AV.pur,p1,p2,p3,p4,p5,p6,p7]);simp only[push_cast,seval,↓kw2,hZ];refine AC.pur k1 ?_;refine goN ?_;simp only[push_cast,seval,↓kw2,hZ,x0,x1,gt_iff_lt];exact⟨_,rfl,zAa rfl rfl⟩
 have x1:=zF z1
 by_cases z2:s.next < 1
 ·have x2:=zT z2;rw[show s.okV=false by unfold Sta.okV Sta.config; rw[zF (show ¬(1<=s.next) by omega)]; simp];refine goQ e59 TOk.nil 0 ?_ (by simp[AV.purL,AV.pur,p1,p2,p3,p4,p5,p6,p7]);simp only[push_cast,seval,↓kw2,hZ];refine AC.pur k1 ?_;refine goN ?_;simp only[push_cast,seval,↓kw2,hZ,x0,x1,x2,gt_iff_lt];exact⟨_,rfl,zAa rfl rfl⟩
 have x2:=zF z2
 by_cases z3:2147483647 < s.next
 ·have x3:=zT z3;rw[show s.okV=false by unfold Sta.okV Sta.config; rw[zF (show ¬(s.next<=2147483647) by omega)]; simp];refine goQ e59 TOk.nil 0 ?_ (by simp[AV.purL,AV.pur,p1,p2,p3,p4,p5,p6,p7]);simp only[push_cast,seval,↓kw2,hZ];refine AC.pur k1 ?_;refine goN ?_;simp only[push_cast,seval,↓kw2,hZ,x0,x1,x2,x3,gt_iff_lt];exact⟨_,rfl,zAa rfl rfl⟩
 have x3:=zF z3;have hcfg:s.config=true:=by
  unfold Sta.config;simp only[zA,decide_eq_true_eq];omega
 have hV:s.okV=(jobsV s.c s.jobs s.now s.next&&(s.marks&&(s.partsV&&(zDh s.c.cls (zCi s.parts) ([],0) s.jobs&&s.keepsV)))):=by unfold Sta.okV; rw[hcfg,Bool.true_and]
 rw[hV];cases hj:jobsV s.c s.jobs s.now s.next
 ·rw[hj]at k2;rw[Bool.false_and];refine goQ e59 TOk.nil 0 ?_ (by simp[AV.purL,AV.pur,p1,p2,p3,p4,p5,p6,p7]);simp only[push_cast,seval,↓kw2,hZ];refine AC.pur k1 ?_;refine goN ?_;simp only[push_cast,seval,↓kw2,hZ,x0,x1,x2,x3,gt_iff_lt];refine AC.pur k2 ?_;refine goN ?_;simp only[push_cast,seval,↓kw2,hZ];exact⟨_,rfl,zAa rfl rfl⟩
 rw[hj]at k2;rw[Bool.true_and];have ht:=jobs_tbl hj;have k3:=n01 s.c.a s.c.b s.c.c hd;have hN:=okD_pos hd;have w3:=zAh (n:=3*(s.c.a*s.c.b*s.c.c)) (by omega) (by omega);have m1:=marks17 h.ds hl.dl (s.c.a*s.c.b*s.c.c);have m2:=marks17 h.hs hl.hl (s.c.a*s.c.b*s.c.c);have m3:=marks17 h.us hl.ul (3*(s.c.a*s.c.b*s.c.c));have hmk:s.marks=(zCd (s.c.a*s.c.b*s.c.c) s.down&&zCd (s.c.a*s.c.b*s.c.c) s.shut&&zCd (3*(s.c.a*s.c.b*s.c.c)) s.cut):=rfl;cases g1':zCd (s.c.a*s.c.b*s.c.c) s.down
 ·rw[g1']at m1;rw[hmk,g1',Bool.false_and,Bool.false_and,Bool.false_and];refine goQ e59 TOk.nil 0 ?_ (by simp[AV.purL,AV.pur,p1,p2,p3,p4,p5,p6,p7]);simp only[push_cast,seval,↓kw2,hZ];refine AC.pur k1 ?_;refine goN ?_;simp only[push_cast,seval,↓kw2,hZ,x0,x1,x2,x3,gt_iff_lt];refine AC.pur k2 ?_;refine goN ?_;simp only[push_cast,seval,↓kw2,hZ];refine AC.pur k3 ?_;refine goN ?_;simp only[push_cast,seval,↓kw2,hZ];refine AC.pur m1 ?_;refine goN ?_;simp only[push_cast,seval,↓kw2,hZ];exact⟨_,rfl,zAa rfl rfl⟩
 rw[g1']at m1;cases g2':zCd (s.c.a*s.c.b*s.c.c) s.shut
 ·rw[g2']at m2;rw[hmk,g1',g2',Bool.and_false,Bool.false_and,Bool.false_and];refine goQ e59 TOk.nil 0 ?_ (by simp[AV.purL,AV.pur,p1,p2,p3,p4,p5,p6,p7]);simp only[push_cast,seval,↓kw2,hZ];refine AC.pur k1 ?_;refine goN ?_;simp only[push_cast,seval,↓kw2,hZ,x0,x1,x2,x3,gt_iff_lt];refine AC.pur k2 ?_;refine goN ?_;simp only[push_cast,seval,↓kw2,hZ];refine AC.pur k3 ?_;refine goN ?_;simp only[push_cast,seval,↓kw2,hZ];refine AC.pur m1 ?_;refine goN ?_;simp only[push_cast,seval,↓kw2,hZ];refine AC.pur m2 ?_;refine goN ?_;simp only[push_cast,seval,↓kw2,hZ];exact⟨_,rfl,zAa rfl rfl⟩
 rw[g2']at m2;cases g3':zCd (3*(s.c.a*s.c.b*s.c.c)) s.cut
 ·rw[g3']at m3;rw[hmk,g1',g2',g3',Bool.and_false,Bool.false_and];refine goQ e59 TOk.nil 0 ?_ (by simp[AV.purL,AV.pur,p1,p2,p3,p4,p5,p6,p7]);simp only[push_cast,seval,↓kw2,hZ];refine AC.pur k1 ?_;refine goN ?_;simp only[push_cast,seval,↓kw2,hZ,x0,x1,x2,x3,gt_iff_lt];refine AC.pur k2 ?_;refine goN ?_;simp only[push_cast,seval,↓kw2,hZ];refine AC.pur k3 ?_;refine goN ?_;simp only[push_cast,seval,↓kw2,hZ];refine AC.pur m1 ?_;refine goN ?_;simp only[push_cast,seval,↓kw2,hZ];refine AC.pur m2 ?_;refine goN ?_;simp only[push_cast,seval,↓kw2,hZ,w3];refine AC.pur m3 ?_;refine goN ?_;simp only[push_cast,seval,↓kw2,hZ];exact⟨_,rfl,zAa rfl rfl⟩
 rw[g3']at m3;have hmT:s.marks=true:=by rw[hmk,g1',g2',g3']; rfl
 rw[hmT,Bool.true_and];have n1:=mayParts21 h hl hm (by omega) ht hmT;rw[partsR_is hchk ht hmT]at n1;have n2:=mayStarted21 h hl (jobs_cls ht) (by have:=hl2.cl; omega);rw[<- started_ref (by have:=hl2.jl; omega)]at n2;simp only[Sta.av]at n1 n2;cases hpv:s.partsV
 ·rw[hpv]at n1;rw[Bool.false_and];refine goQ e59 TOk.nil 0 ?_ (by simp[AV.purL,AV.pur,p1,p2,p3,p4,p5,p6,p7]);simp only[push_cast,seval,↓kw2,hZ];refine AC.pur k1 ?_;refine goN ?_;simp only[push_cast,seval,↓kw2,hZ,x0,x1,x2,x3,gt_iff_lt];refine AC.pur k2 ?_;refine goN ?_;simp only[push_cast,seval,↓kw2,hZ];refine AC.pur k3 ?_;refine goN ?_;simp only[push_cast,seval,↓kw2,hZ];refine AC.pur m1 ?_;refine goN ?_;simp only[push_cast,seval,↓kw2,hZ];refine AC.pur m2 ?_;refine goN ?_;simp only[push_cast,seval,↓kw2,hZ,w3];refine AC.pur m3 ?_;refine goN ?_;simp only[push_cast,seval,↓kw2,hZ];refine AC.pur n1 ?_;refine goN ?_;simp only[push_cast,seval,↓kw2,hZ];exact⟨_,rfl,zAa rfl rfl⟩
 rw[hpv]at n1;rw[Bool.true_and];have n3:=mayKeeps21 h hl hd (parts_ends2 h hl hpv) (parts_ok2 hpv);rw[keepsR_is hd]at n3;simp only[Sta.av]at n3;cases hst:zDh s.c.cls (zCi s.parts) ([],0) s.jobs
 all_goals
  rw[hst]at n2;refine goQ e59 TOk.nil 0 ?_ (by simp[AV.purL,AV.pur,p1,p2,p3,p4,p5,p6,p7]);simp only[push_cast,seval,↓kw2,hZ];refine AC.pur k1 ?_;refine goN ?_;simp only[push_cast,seval,↓kw2,hZ,x0,x1,x2,x3,gt_iff_lt];refine AC.pur k2 ?_;refine goN ?_;simp only[push_cast,seval,↓kw2,hZ];refine AC.pur k3 ?_;refine goN ?_;simp only[push_cast,seval,↓kw2,hZ];refine AC.pur m1 ?_;refine goN ?_;simp only[push_cast,seval,↓kw2,hZ];refine AC.pur m2 ?_;refine goN ?_;simp only[push_cast,seval,↓kw2,hZ,w3];refine AC.pur m3 ?_;refine goN ?_;simp only[push_cast,seval,↓kw2,hZ];refine AC.pur n1 ?_;refine goN ?_;simp only[push_cast,seval,↓kw2,hZ];refine AC.pur n2 ?_;refine goN ?_;simp only[push_cast,seval,↓kw2,hZ]
 ·exact⟨_,rfl,zAa rfl rfl⟩
 ·refine AC.pur n3 ?_;refine goN ?_;simp only[push_cast,seval,↓kw2,hZ];exact⟨_,rfl,zAa rfl rfl⟩
attribute [push_cast] Tryz.f19
theorem Cls.eqT0(a b c d a' b' c' d':Int):aEqS zP 72 (Cls.av ⟨a,b,c,d⟩) (Cls.av ⟨a',b',c',d'⟩)=some (a==a'&&(b==b'&&(c==c'&&(d==d'&&true)))):=by kernel_rfl
theorem Cls.eqT(x y:Cls):aEqS zP 72 x.av y.av=some (decide (x=y)):=by
 obtain⟨a,b,c,d⟩:=x;obtain⟨a',b',c',d'⟩:=y;rw[Cls.eqT0,Option.some.injEq,Bool.eq_iff_iff,decide_eq_true_iff];simp
theorem Kep.eqT0(i x y z p q r f t i' x' y' z' p' q' r' f' t':Int):aEqS zP 68 (KP i x y z p q r f t) (KP i' x' y' z' p' q' r' f' t') =
  some (i==i'&&(((x==x'&&(y==y'&&(z==z'&&true)))&&((p==p'&&(q==q'&&(r==r'&&true)))&&true))&&((f==f'&&(t==t'&&true))&&true))):=by kernel_rfl
theorem Kep.eqT(a b:Kep):aEqS zP 68 a.av b.av=some (decide (a=b)):=by
 obtain⟨i,x,y,z,p,q,r,f,t⟩:=a;obtain⟨i',x',y',z',p',q',r',f',t'⟩:=b;unfold Kep.av;rw[Kep.eqT0,Option.some.injEq,Bool.eq_iff_iff,decide_eq_true_iff];simp[and_assoc]
theorem Prt.eqT0(j h u n j' h' u' n':Int)(X Y:Plc):aEqS zP 70 (PA j X h u n) (PA j' Y h' u' n') =
  some (j==j'&&(((((X.x==Y.x&&(X.y==Y.y&&(X.z==Y.z&&true)))&&((X.p==Y.p&&(X.q==Y.q&&(X.r==Y.r&&true)))&&true)))&&((X.s==Y.s&&(X.t==Y.t&&(X.u==Y.u&&true)))&&true))&&(h==h'&&(u==u'&&(n==n'&&true))))):=by kernel_rfl
theorem Prt.eqT(a b:Prt):aEqS zP 70 a.av b.av=some (decide (a=b)):=by
 obtain⟨j,⟨x,y,z,p,q,r,s,t,u⟩,h,m,n⟩:=a;obtain⟨j',⟨x',y',z',p',q',r',s',t',u'⟩,h',m',n'⟩:=b;unfold Prt.av;rw[Prt.eqT0,Option.some.injEq,Bool.eq_iff_iff,decide_eq_true_iff];simp[and_assoc]
theorem e65:Ent zP 65 Tryz.f65 [] 2:=.mk Tryz.func65 rfl
attribute [push_cast] Tryz.f65
theorem sameConfig21(x y:Cfg){s r:AV}(hs:IsSl s (x.cls.map Cls.av))(hr:IsSl r (y.cls.map Cls.av))(hl:x.cls.length<=2^20):Pur zP GG 65 [x.av s,y.av r] (B (decide (x.a=y.a/\x.b=y.b/\x.c=y.c)&&(decide (x.boot=y.boot)&&(decide (x.free=y.free)&&(decide (x.tries=y.tries)&&(decide (x.age=y.age)&&decide (x.cls=y.cls))))))):=by
 have p1:=hs.pur (zAc Cls.av _ (fun _=>rfl));have p2:=hr.pur (zAc Cls.av _ (fun _=>rfl));obtain⟨m1,m2,m3⟩:=hs.cell;obtain⟨n1,n2,n3⟩:=hr.cell;have l1:=hs.len (P:=zP) un50;have l2:=hr.len (P:=zP) un50;rw[zM]at l1 l2;have hdq:=dimsEqG x.a x.b x.c y.a y.b y.c;show Pur zP GG 65 [CF x.a x.b x.c x.boot x.free x.tries x.age s,CF y.a y.b y.c y.boot y.free y.tries y.age r] _
 by_cases hd:(x.a=y.a/\x.b=y.b/\x.c=y.c)/\x.boot=y.boot/\x.free=y.free/\x.tries=y.tries/\x.age=y.age/\x.cls.length=y.cls.length
 ·obtain⟨e0,e1,e2,e3,e4,e5⟩:=hd;rw[zT e0]at hdq;rw[zT e0,zT e1,zT e2,zT e3,zT e4,Bool.true_and,Bool.true_and,Bool.true_and,Bool.true_and,Bool.true_and];have q1:decide (x.boot≠y.boot)=false:=by simp[e1]
  have q2:decide (x.free≠y.free)=false:=by simp[e2]
  have q3:decide (x.tries≠y.tries)=false:=by simp[e3]
  have q4:decide (x.age≠y.age)=false:=by simp[e4]
  have q5:decide ((x.cls.length:Int)≠(y.cls.length:Int))=false:=by simp[e5]
  have hix:=fun(i:Nat) (hi:i < x.cls.length) (H:List AO)=>hs.idx (P:=zP) un50 sz72 (i:=(i:Int)) (by rw[zM]; omega) (by omega) H
  have hiy:=fun(i:Nat) (hi:i < y.cls.length) (H:List AO)=>hr.idx (P:=zP) un50 sz72 (i:=(i:Int)) (by rw[zM]; omega) (by omega) H
  refine goQ e65 TOk.nil 0 ?_ (by simp[AV.purL,AV.pur,p1,p2]);simp only[push_cast,seval,↓kw2,m1,m2,m3,n1,n2,n3,l1,l2,List.append_eq,hdq,zAj,q1,q2,q3,q4,q5];refine FW.loopInv (fun m ts H=>∃ i:Nat,i+m=x.cls.length/\x.cls.take i=y.cls.take i/\H=[.cells [I x.a,I x.b,I x.c,I x.boot,I x.free,I x.tries,I x.age,s],.cells [I y.a,I y.b,I y.c,I y.boot,I y.free,I y.tries,I y.age,r]]/\ts 2=.ptr 0 0/\ts 3=.ptr 1 0/\ts 5=I (i:Int)) x.cls.length
   ⟨0,by omega,rfl,rfl,rfl,rfl,rfl⟩ ?_
  rintro m ih ts H ⟨i,hi,hf,rfl,t2,t3,t5⟩
  refine FW.inLoop ?_;have w2:=zAh (n:=(i:Int)+1) (by omega) (by omega)
  by_cases hlt:i < x.cls.length
  ·have d1:decide ((i:Int) < (x.cls.length:Int))=true:=zT (by omega);have ha:=hix i hlt;have hb:=hiy i (by omega);simp only[Int.toNat_natCast]at ha hb;rw[zAe Cls.av x.cls default hlt]at ha;rw[zAe Cls.av y.cls default (by omega)]at hb;have s1:=zAo default hlt;have s2:=zAo (l:=y.cls) (i:=i) default (by omega)
   generalize hu:x.cls.getD i default=u at ha s1
   generalize hv:y.cls.getD i default=v at hb s2
   have hq:=Cls.eqT u v;have c1:=Cls.cells u;have c2:=Cls.cells v;simp only[Cls.av]at hq;have hb1:(0<=(i:Int)/\(i:Int) < ((x.cls.map Cls.av).length:Int)):=⟨by omega,by rw[zM]; omega⟩;have hb2:(0<=(i:Int)/\(i:Int) < ((y.cls.map Cls.av).length:Int)):=⟨by omega,by rw[zM]; omega⟩
   by_cases huv:u=v
   ·rw[zT huv]at hq;refine goN ?_;simp only[push_cast,seval,↓kw2,t2,t3,t5,m1,m2,m3,n1,n2,n3,l1,d1,ha,hb,c1,c2,hq,zAj,w2]
    repeat (first | refine⟨hb1,?_⟩ | refine⟨hb2,?_⟩)
    exact ih (m - 1) (by omega) _ _ ⟨i+1,by omega,by rw[s1,s2,hf,huv],rfl,t2,t3,rfl⟩
   ·rw[zF huv]at hq;refine goN ?_;simp only[push_cast,seval,↓kw2,t2,t3,t5,m1,m2,m3,n1,n2,n3,l1,d1,ha,hb,c1,c2,hq,zAj]
    repeat (first | refine⟨hb1,?_⟩ | refine⟨hb2,?_⟩)
    exact⟨_,rfl,zAa rfl (by rw[zF fun h=>huv (by rw[<- hu,<- hv,h])])⟩
  ·have d1:decide ((i:Int) < (x.cls.length:Int))=false:=zF (by omega);rw[List.take_of_length_le (by omega),List.take_of_length_le (by omega)]at hf;refine goN ?_;simp only[push_cast,seval,↓kw2,t2,t3,t5,m1,m2,m3,n1,n2,n3,l1,d1];exact⟨_,rfl,zAa rfl (by rw[zT hf])⟩
 ·have hF:(decide (x.a=y.a/\x.b=y.b/\x.c=y.c)&&(decide (x.boot=y.boot)&&(decide (x.free=y.free)&&(decide (x.tries=y.tries)&&(decide (x.age=y.age)&&decide (x.cls=y.cls))))))=false:=by
   rw[Bool.eq_false_iff]
   intro h
   simp only[zA,decide_eq_true_eq]at h;exact hd ⟨h.1,h.2.1,h.2.2.1,h.2.2.2.1,h.2.2.2.2.1,by rw[h.2.2.2.2.2]⟩
  rw[hF]
  by_cases he:x.a=y.a/\x.b=y.b/\x.c=y.c
  ·rw[zT he]at hdq;refine goQ e65 TOk.nil 0 ?_ (by simp[AV.purL,AV.pur,p1,p2]);simp only[push_cast,seval,↓kw2,m1,m2,m3,n1,n2,n3,l1,l2,List.append_eq,hdq,zAj]
   repeat' (first | apply And.intro | intro _)
   all_goals first | exact⟨_,rfl,zAa rfl rfl⟩ | (exfalso; exact hd ⟨he,by omega⟩)
  ·rw[zF he]at hdq;refine goQ e65 TOk.nil 0 ?_ (by simp[AV.purL,AV.pur,p1,p2]);simp only[push_cast,seval,↓kw2,m1,m2,m3,n1,n2,n3,l1,l2,List.append_eq,hdq,zAj];exact⟨_,rfl,zAa rfl rfl⟩
theorem e21:Ent zP 21 Tryz.f21 [] 2:=.mk Tryz.func21 rfl
attribute [push_cast] Tryz.f21
theorem same21{s o:Sta}(h:s.good)(ho:o.good)(hl:s.lim)(hl2:s.lim2):Pur zP GG 21 [s.av,o.av] (B (s.same o)):=by
 have hZ:=h.cell;obtain⟨⟨⟨a1,a2,a3⟩,b1,b2,b3⟩,⟨⟨c1,c2,c3⟩,d1,d2,d3⟩,⟨e1,e2,e3⟩,⟨f1,f2,f3⟩,g1,g2,g3⟩:=h.cell;obtain⟨p1,p2,p3,p4,p5,p6,p7⟩:=h.purs;have hY:=ho.cell;obtain⟨⟨⟨A1,A2,A3⟩,B1,B2,B3⟩,⟨⟨C1,C2,C3⟩,D1,D2,D3⟩,⟨EE1,EE2,EE3⟩,⟨F1,F2,F3⟩,G1,G2,G3⟩:=ho.cell;obtain⟨P1,P2,P3,P4,P5,P6,P7⟩:=ho.purs;have hJ:=same18 h.js ho.js hl.jl (fun j hj=>by have:=hl2.al j hj; omega);have hC:=sameConfig21 s.c o.c h.cs ho.cs (by have:=hl2.cl; omega);have hI1:=ints17 h.ds ho.ds hl.dl;have hI2:=ints17 h.hs ho.hs hl.hl;have hI3:=ints17 h.us ho.us hl.ul;rw[show(decide (s.c.a=o.c.a/\s.c.b=o.c.b/\s.c.c=o.c.c)&&(decide (s.c.boot=o.c.boot)&&(decide (s.c.free=o.c.free)&&(decide (s.c.tries=o.c.tries)&&(decide (s.c.age=o.c.age)&&decide (s.c.cls=o.c.cls))))))=s.one o from rfl]at hC;have ll1:=h.ps.len un54;have ll2:=ho.ps.len un54;have lk1:=h.ks.len un55;have lk2:=ho.ks.len un55;rw[zM]at ll1 ll2 lk1 lk2;have hS:s.same o=((s.one o&&(decide (s.now=o.now)&&(decide (s.next=o.next)&&(sameJ s.jobs o.jobs&&(decide (s.parts=o.parts)&&decide (s.keeps=o.keeps))))))&&(decide (s.down=o.down)&&(decide (s.shut=o.shut)&&decide (s.cut=o.cut)))):=rfl
 generalize s.one o=one at hC hS
 generalize sameJ s.jobs o.jobs=jj at hJ hS
 simp only[Cfg.av]at hC;have hip:=fun(i:Nat) (hi:i < s.parts.length) (H:List AO)=>h.ps.idx (P:=zP) un54 sz70 (i:=(i:Int)) (by rw[zM]; omega) (by omega) H
 have hip2:=fun(i:Nat) (hi:i < o.parts.length) (H:List AO)=>ho.ps.idx (P:=zP) un54 sz70 (i:=(i:Int)) (by rw[zM]; omega) (by omega) H
 have hik:=fun(i:Nat) (hi:i < s.keeps.length) (H:List AO)=>h.ks.idx (P:=zP) un55 sz68 (i:=(i:Int)) (by rw[zM]; omega) (by omega) H
 have hik2:=fun(i:Nat) (hi:i < o.keeps.length) (H:List AO)=>ho.ks.idx (P:=zP) un55 sz68 (i:=(i:Int)) (by rw[zM]; omega) (by omega) H
 show Pur zP GG 21 [ST s.c.a s.c.b s.c.c s.c.boot s.c.free s.c.tries s.c.age s.cs s.now s.next s.js s.ps s.ks s.ds s.hs s.us,ST o.c.a o.c.b o.c.c o.c.boot o.c.free o.c.tries o.c.age o.cs o.now o.next o.js o.ps o.ks o.ds o.hs o.us] _;cases one
 ·rw[hS,Bool.false_and,Bool.false_and];refine goQ e21 TOk.nil 0 ?_ (by simp[AV.purL,AV.pur,p1,p2,p3,p4,p5,p6,p7,P1,P2,P3,P4,P5,P6,P7]);simp only[push_cast,seval,↓kw2,hZ,hY];refine AC.pur hC ?_;refine goN ?_;simp only[push_cast,seval,↓kw2,hZ,hY];exact⟨_,rfl,zAa rfl rfl⟩
 by_cases z1:s.now=o.now
 rotate_left
 ·have x1:decide (s.now≠o.now)=true:=by simp[z1]
  rw[show s.same o=false by rw[hS,zF z1]; simp];refine goQ e21 TOk.nil 0 ?_ (by simp[AV.purL,AV.pur,p1,p2,p3,p4,p5,p6,p7,P1,P2,P3,P4,P5,P6,P7]);simp only[push_cast,seval,↓kw2,hZ,hY];refine AC.pur hC ?_;refine goN ?_;simp only[push_cast,seval,↓kw2,hZ,hY,x1];exact⟨_,rfl,zAa rfl rfl⟩
 have x1:decide (s.now≠o.now)=false:=by simp[z1]
 by_cases z2:s.next=o.next
 rotate_left
 ·have x2:decide (s.next≠o.next)=true:=by simp[z2]
  rw[show s.same o=false by rw[hS,zF z2]; simp];refine goQ e21 TOk.nil 0 ?_ (by simp[AV.purL,AV.pur,p1,p2,p3,p4,p5,p6,p7,P1,P2,P3,P4,P5,P6,P7]);simp only[push_cast,seval,↓kw2,hZ,hY];refine AC.pur hC ?_;refine goN ?_;simp only[push_cast,seval,↓kw2,hZ,hY,x1,x2];exact⟨_,rfl,zAa rfl rfl⟩
 have x2:decide (s.next≠o.next)=false:=by simp[z2]
 cases jj
 ·rw[show s.same o=false by rw[hS]; simp];refine goQ e21 TOk.nil 0 ?_ (by simp[AV.purL,AV.pur,p1,p2,p3,p4,p5,p6,p7,P1,P2,P3,P4,P5,P6,P7]);simp only[push_cast,seval,↓kw2,hZ,hY];refine AC.pur hC ?_;refine goN ?_;simp only[push_cast,seval,↓kw2,hZ,hY,x1,x2];refine AC.pur hJ ?_;refine goN ?_;simp only[push_cast,seval,↓kw2,hZ,hY];exact⟨_,rfl,zAa rfl rfl⟩
 by_cases z3:s.parts.length=o.parts.length
 rotate_left
 ·have x3:decide ((s.parts.length:Int)≠(o.parts.length:Int))=true:=by simp; omega
  rw[show s.same o=false by rw[hS,zF (show ¬s.parts=o.parts from fun e=>z3 (by rw[e]))]; simp];refine goQ e21 TOk.nil 0 ?_ (by simp[AV.purL,AV.pur,p1,p2,p3,p4,p5,p6,p7,P1,P2,P3,P4,P5,P6,P7]);simp only[push_cast,seval,↓kw2,hZ,hY];refine AC.pur hC ?_;refine goN ?_;simp only[push_cast,seval,↓kw2,hZ,hY,x1,x2];refine AC.pur hJ ?_;refine goN ?_;simp only[push_cast,seval,↓kw2,hZ,hY,ll1,ll2,lk1,lk2,x3];exact⟨_,rfl,zAa rfl rfl⟩
 have x3:decide ((s.parts.length:Int)≠(o.parts.length:Int))=false:=by simp[z3]
 by_cases z4:s.keeps.length=o.keeps.length
 rotate_left
 ·have x4:decide ((s.keeps.length:Int)≠(o.keeps.length:Int))=true:=by simp; omega
  rw[show s.same o=false by rw[hS,zF (show ¬s.keeps=o.keeps from fun e=>z4 (by rw[e]))]; simp];refine goQ e21 TOk.nil 0 ?_ (by simp[AV.purL,AV.pur,p1,p2,p3,p4,p5,p6,p7,P1,P2,P3,P4,P5,P6,P7]);simp only[push_cast,seval,↓kw2,hZ,hY];refine AC.pur hC ?_;refine goN ?_;simp only[push_cast,seval,↓kw2,hZ,hY,x1,x2];refine AC.pur hJ ?_;refine goN ?_;simp only[push_cast,seval,↓kw2,hZ,hY,ll1,ll2,lk1,lk2,x3,x4];exact⟨_,rfl,zAa rfl rfl⟩
 have x4:decide ((s.keeps.length:Int)≠(o.keeps.length:Int))=false:=by simp[z4]
 refine goQ e21 TOk.nil 0 ?_ (by simp[AV.purL,AV.pur,p1,p2,p3,p4,p5,p6,p7,P1,P2,P3,P4,P5,P6,P7]);simp only[push_cast,seval,↓kw2,hZ,hY];refine AC.pur hC ?_;refine goN ?_;simp only[push_cast,seval,↓kw2,hZ,hY,x1,x2];refine AC.pur hJ ?_;refine goN ?_;simp only[push_cast,seval,↓kw2,hZ,hY,ll1,ll2,lk1,lk2,x3,x4];refine FW.loopInv (fun m ts H=>∃ i:Nat,i+m=s.parts.length/\s.parts.take i=o.parts.take i/\H=[.cells [I s.c.a,I s.c.b,I s.c.c,I s.c.boot,I s.c.free,I s.c.tries,I s.c.age,s.cs,I s.now,I s.next,s.js,s.ps,s.ks,s.ds,s.hs,s.us],.cells [I o.c.a,I o.c.b,I o.c.c,I o.c.boot,I o.c.free,I o.c.tries,I o.c.age,o.cs,I o.now,I o.next,o.js,o.ps,o.ks,o.ds,o.hs,o.us]]/\ts 2=.ptr 0 0/\ts 3=.ptr 1 0/\ts 5=I (i:Int)) s.parts.length
  ⟨0,by omega,rfl,rfl,rfl,rfl,rfl⟩ ?_
 rintro m ih ts H ⟨i,hi,hf,rfl,t2,t3,t5⟩
 refine FW.inLoop ?_;have hb1:=hl.pl;have hb2:=hl.kl;have w2:=zAh (n:=(i:Int)+1) (by omega) (by omega)
 by_cases hlt:i < s.parts.length
 ·have d1':decide ((i:Int) < (s.parts.length:Int))=true:=zT (by omega);have ha:=hip i hlt;have hb:=hip2 i (by omega);simp only[Int.toNat_natCast]at ha hb;rw[zAe Prt.av s.parts default hlt]at ha;rw[zAe Prt.av o.parts default (by omega)]at hb;have s1:=zAo default hlt;have s2:=zAo (l:=o.parts) (i:=i) default (by omega)
  generalize hu:s.parts.getD i default=u at ha s1
  generalize hv:o.parts.getD i default=v at hb s2
  have hq:=Prt.eqT u v;have cc1:=Prt.cells u;have cc2:=Prt.cells v;simp only[Prt.av]at hq;have hb1:(0<=(i:Int)/\(i:Int) < ((s.parts.map Prt.av).length:Int)):=⟨by omega,by rw[zM]; omega⟩;have hb2:(0<=(i:Int)/\(i:Int) < ((o.parts.map Prt.av).length:Int)):=⟨by omega,by rw[zM]; omega⟩
  by_cases huv:u=v
  ·rw[zT huv]at hq;refine goN ?_;simp only[push_cast,seval,↓kw2,hZ,hY,t2,t3,t5,ll1,ll2,lk1,lk2,d1',ha,hb,cc1,cc2,hq,zAj,w2]
   repeat (first | refine⟨hb1,?_⟩ | refine⟨hb2,?_⟩)
   exact ih (m - 1) (by omega) _ _ ⟨i+1,by omega,by rw[s1,s2,hf,huv],rfl,t2,t3,rfl⟩
  ·rw[zF huv]at hq;rw[show s.same o=false by rw[hS,zF (show ¬s.parts=o.parts from fun h=>huv (by rw[<- hu,<- hv,h]))]; simp];refine goN ?_;simp only[push_cast,seval,↓kw2,hZ,hY,t2,t3,t5,ll1,ll2,lk1,lk2,d1',ha,hb,cc1,cc2,hq,zAj,w2]
   repeat (first | refine⟨hb1,?_⟩ | refine⟨hb2,?_⟩)
   exact⟨_,rfl,zAa rfl rfl⟩
 ·have d1':decide ((i:Int) < (s.parts.length:Int))=false:=zF (by omega);rw[List.take_of_length_le (by omega),List.take_of_length_le (by omega)]at hf;have hfp:=hf;refine goN ?_;simp only[push_cast,seval,↓kw2,hZ,hY,t2,t3,t5,ll1,ll2,lk1,lk2,d1'];clear hf ih hi w2 hlt d1';refine FW.loopInv (fun m ts H=>∃ i:Nat,i+m=s.keeps.length/\s.keeps.take i=o.keeps.take i/\H=[.cells [I s.c.a,I s.c.b,I s.c.c,I s.c.boot,I s.c.free,I s.c.tries,I s.c.age,s.cs,I s.now,I s.next,s.js,s.ps,s.ks,s.ds,s.hs,s.us],.cells [I o.c.a,I o.c.b,I o.c.c,I o.c.boot,I o.c.free,I o.c.tries,I o.c.age,o.cs,I o.now,I o.next,o.js,o.ps,o.ks,o.ds,o.hs,o.us]]/\ts 2=.ptr 0 0/\ts 3=.ptr 1 0/\ts 6=I (i:Int)) s.keeps.length
   ⟨0,by omega,rfl,rfl,t2,t3,rfl⟩ ?_
  clear t2 t3 t5 ts i
  rintro m ih ts H ⟨i,hi,hf,rfl,t2,t3,t6⟩
  refine FW.inLoop ?_;have hb1:=hl.pl;have hb2:=hl.kl;have w2:=zAh (n:=(i:Int)+1) (by omega) (by omega)
  by_cases hlt:i < s.keeps.length
  ·have d1':decide ((i:Int) < (s.keeps.length:Int))=true:=zT (by omega);have ha:=hik i hlt;have hb:=hik2 i (by omega);simp only[Int.toNat_natCast]at ha hb;rw[zAe Kep.av s.keeps default hlt]at ha;rw[zAe Kep.av o.keeps default (by omega)]at hb;have s1:=zAo default hlt;have s2:=zAo (l:=o.keeps) (i:=i) default (by omega)
   generalize hu:s.keeps.getD i default=u at ha s1
   generalize hv:o.keeps.getD i default=v at hb s2
   have hq:=Kep.eqT u v;have cc1:=Kep.cells u;have cc2:=Kep.cells v;simp only[Kep.av]at hq;have hb1:(0<=(i:Int)/\(i:Int) < ((s.keeps.map Kep.av).length:Int)):=⟨by omega,by rw[zM]; omega⟩;have hb2:(0<=(i:Int)/\(i:Int) < ((o.keeps.map Kep.av).length:Int)):=⟨by omega,by rw[zM]; omega⟩
   by_cases huv:u=v
   ·rw[zT huv]at hq;refine goN ?_;simp only[push_cast,seval,↓kw2,hZ,hY,t2,t3,t6,ll1,ll2,lk1,lk2,d1',ha,hb,cc1,cc2,hq,zAj,w2]
    repeat (first | refine⟨hb1,?_⟩ | refine⟨hb2,?_⟩)
    exact ih (m - 1) (by omega) _ _ ⟨i+1,by omega,by rw[s1,s2,hf,huv],rfl,t2,t3,rfl⟩
   ·rw[zF huv]at hq;rw[show s.same o=false by rw[hS,zF (show ¬s.keeps=o.keeps from fun h=>huv (by rw[<- hu,<- hv,h]))]; simp];refine goN ?_;simp only[push_cast,seval,↓kw2,hZ,hY,t2,t3,t6,ll1,ll2,lk1,lk2,d1',ha,hb,cc1,cc2,hq,zAj,w2]
    repeat (first | refine⟨hb1,?_⟩ | refine⟨hb2,?_⟩)
    exact⟨_,rfl,zAa rfl rfl⟩
  ·have d1':decide ((i:Int) < (s.keeps.length:Int))=false:=zF (by omega);rw[List.take_of_length_le (by omega),List.take_of_length_le (by omega)]at hf;rw[show s.same o=(decide (s.down=o.down)&&(decide (s.shut=o.shut)&&decide (s.cut=o.cut))) by rw[hS,zT z1,zT z2,zT hfp,zT hf]; simp];cases i1:decide (s.down=o.down)
   ·rw[i1]at hI1;refine goN ?_;simp only[push_cast,seval,↓kw2,hZ,hY,t2,t3,t6,ll1,ll2,lk1,lk2,d1'];refine AC.pur hI1 ?_;refine goN ?_;simp only[push_cast,seval,↓kw2,hZ,hY,t2,t3];exact⟨_,rfl,zAa rfl rfl⟩
   rw[i1]at hI1;cases i2:decide (s.shut=o.shut)
   all_goals
    rw[i2]at hI2;refine goN ?_;simp only[push_cast,seval,↓kw2,hZ,hY,t2,t3,t6,ll1,ll2,lk1,lk2,d1'];refine AC.pur hI1 ?_;refine goN ?_;simp only[push_cast,seval,↓kw2,hZ,hY,t2,t3];refine AC.pur hI2 ?_;refine goN ?_;simp only[push_cast,seval,↓kw2,hZ,hY,t2,t3]
   ·exact⟨_,rfl,zAa rfl rfl⟩
   ·refine AC.pur hI3 ?_;refine goN ?_;simp only[push_cast,seval,↓kw2,hZ,hY,t2,t3];exact⟨_,rfl,zAa rfl rfl⟩
theorem getD_cp(l:List Jb)(i:Nat):(l.map Jb.cp).getD i default=(l.getD i default).cp:=by
 rw[getD_mapcp]
 split
 ·rfl
 ·rename_i h;rw[show l.getD i default=default by simp[List.getD,h]];rfl
theorem isJ_cp(l:List Jb)(id:Int):isJ (l.map Jb.cp) id=isJ l id:=by
 unfold isJ;rw[findN_cp]
theorem chkL_cp(x:Cfg):∀ l:List Jb,chkL x (l.map Jb.cp)=chkL x l
 | []=>rfl
 | j::l=>by
  show(if j.cp.chk x=0 then chkL x (l.map Jb.cp) else j.cp.chk x)=(if j.chk x=0 then chkL x l else j.chk x);rw[chkL_cp x l,show j.cp.chk x=j.chk x from rfl]
theorem risN_cp(l:List Jb):∀ n,risN (l.map Jb.cp) n=risN l n
 | 0=>rfl
 | n+1=>by
  unfold risN;rw[risN_cp l n,getD_cp,getD_cp];rfl
theorem oddT_cp(l:List Jb)(j:Jb):oddT (l.map Jb.cp) j.cp=oddT l j:=by
 unfold oddT;simp only[isJ_cp];rfl
theorem tblE_cp(x:Cfg)(l:List Jb):tblE x (l.map Jb.cp)=tblE x l:=by
 unfold tblE;rw[zM,chkL_cp,risN_cp,List.any_map,show oddT (l.map Jb.cp) ∘ Jb.cp=oddT l from funext fun j=>oddT_cp l j]
theorem stM_cp(l:List Jb):stM (l.map Jb.cp)=stM l:=by
 unfold stM;rw[List.foldl_map];rfl
theorem settle_cp:∀(l:List Jb) (M:MS Int),zAy M (l.map Jb.cp)=(zAy M l).map Jb.cp
 | [],_=>rfl
 | j::l,M=>by
  show(if zFp M j.cp=true then j.cp.off::zAy (putM M j.cp.id 5) (l.map Jb.cp) else j.cp::zAy M (l.map Jb.cp))=(if zFp M j=true then j.off::zAy (putM M j.id 5) l else j::zAy M l).map Jb.cp;rw[show zFp M j.cp=zFp M j from rfl]
  split
  ·rw[settle_cp l]; rfl
  ·rw[settle_cp l]; rfl
theorem sameJ_cp2:∀(l k:List Jb),sameJ (l.map Jb.cp) (k.map Jb.cp)=sameJ l k
 | [],[]=>rfl
 | [],_::_=>rfl
 | _::_,[]=>rfl
 | x::l,y::k=>by
  show(x.cp.same y.cp&&sameJ (l.map Jb.cp) (k.map Jb.cp))=(x.same y&&sameJ l k);rw[sameJ_cp2 l k];rfl
theorem jobsV_cp(x:Cfg)(l:List Jb)(now next:Int):jobsV x (l.map Jb.cp) now next=jobsV x l now next:=by
 unfold jobsV;rw[tblE_cp,stM_cp,settle_cp,sameJ_cp2,zM];simp only[getD_cp];rfl
theorem jobOf_cp(s:Sta)(p:Prt):s.cp.jobOf p=(s.jobOf p).cp:=by
 show(if zBm (s.jobs.map Jb.cp) p.job < 0 then default else (s.jobs.map Jb.cp).getD (zBm (s.jobs.map Jb.cp) p.job).toNat default)=(if zBm s.jobs p.job < 0 then default else s.jobs.getD (zBm s.jobs p.job).toNat default).cp;rw[findN_cp]
 split
 ·rfl
 ·rw[getD_cp]
theorem isJob_cp(s:Sta)(p:Prt):s.cp.isJob p=s.isJob p:=by
 show decide (0<=zBm (s.jobs.map Jb.cp) p.job)=decide (0<=zBm s.jobs p.job);rw[findN_cp]
theorem ends_cp(s:Sta)(p:Prt):s.cp.ends p=s.ends p:=by
 unfold Sta.ends;rw[jobOf_cp];rfl
theorem part_cp(s:Sta)(p:Prt):s.cp.part p=s.part p:=by
 unfold Sta.part;rw[jobOf_cp,isJob_cp,ends_cp];rfl
theorem partsV_cp(s:Sta):s.cp.partsV=s.partsV:=by
 unfold Sta.partsV;have h1:∀ i,s.cp.odd1 i=s.odd1 i:=fun i=>by
  unfold Sta.odd1;rw[part_cp];rfl
 have h2:∀ i,s.cp.odd2 i=s.odd2 i:=fun i=>rfl
 simp only[h1,h2];rfl
theorem startG_cp(cls:List Cls)(P:Int->Bool):∀(l:List Jb) (M:MS (Int × Int)),zDh cls P M (l.map Jb.cp)=zDh cls P M l
 | [],_=>rfl
 | j::l,M=>by
  show(if j.cp.st=2 then !(decide ((cls.getD j.cp.cls.toNat default).d < IntKind.i64.wrap (getM M (j.cp.user,j.cp.cls)+1))||!P j.cp.id)&&zDh cls P (putM M (j.cp.user,j.cp.cls) (IntKind.i64.wrap (getM M (j.cp.user,j.cp.cls)+1))) (l.map Jb.cp) else zDh cls P M (l.map Jb.cp))=_;rw[startG_cp cls P l,startG_cp cls P l];rfl
theorem taken_cp(s:Sta)(l:List Kep)(b:Bx6)(fr till:Int):s.cp.taken l b fr till=s.taken l b fr till:=by
 unfold Sta.taken;have h2:∀ p,tk2 s.cp b fr till p=tk2 s b fr till p:=fun p=>by
  unfold tk2;rw[ends_cp];rfl
 simp only[h2];rfl
theorem keepsV_cp(s:Sta):s.cp.keepsV=s.keepsV:=by
 unfold Sta.keepsV;have h1:∀ k la i,s.cp.okK k la i=s.okK k la i:=fun k la i=>by
  unfold Sta.okK;rw[taken_cp];rfl
 simp only[h1];rfl
theorem okV_cp(s:Sta):s.cp.okV=s.okV:=by
 unfold Sta.okV;rw[show jobsV s.cp.c s.cp.jobs s.cp.now s.cp.next=jobsV s.c s.jobs s.now s.next from jobsV_cp s.c s.jobs s.now s.next,partsV_cp,keepsV_cp,show zDh s.cp.c.cls (zCi s.cp.parts) ([],0) s.cp.jobs=zDh s.c.cls (zCi s.parts) ([],0) s.jobs from startG_cp _ _ _ _];rfl
theorem same_cpL(s o:Sta):s.cp.same o=s.same o:=by
 unfold Sta.same;rw[show s.cp.two o=s.two o by
  unfold Sta.two;rw[show sameJ s.cp.jobs o.jobs=sameJ s.jobs o.jobs from sameJ_cp _ _];rfl]
 rfl
theorem same_cpS(s:Sta):s.cp.same s=true:=by
 rw[same_cpL];unfold Sta.same Sta.one Sta.two;simp[sameJ_refl]
theorem lim_cp{s:Sta}(h:s.lim):s.cp.lim:=⟨by show(s.jobs.map Jb.cp).length<=_; rw[zM]; exact h.jl,h.pl,h.kl,h.dl,h.hl,h.ul⟩
theorem lim2_cp{s:Sta}(h:s.lim2):s.cp.lim2:=⟨h.cl,by show(s.jobs.map Jb.cp).length<=_; rw[zM]; exact h.jl,h.pl,h.kl,h.dl,h.hl,h.ul,fun j hj=>by
 obtain⟨x,hx,rfl⟩:=List.mem_map.1 hj;exact h.al x hx⟩
attribute [push_cast] Tryz.f17
inductive LiveR(k:Nat)(H:List AO):AV->List AV->Prop
 | nil:LiveR k H (.c (.slice none 0 0)) []
 | zs:LiveR k H .zs []
 | row {id:Nat} {l:List AV} (h:H[id]?=some (.arr k l)) (h0:0 < l.length):LiveR k H (.sl id 0 l.length l.length) l
theorem LiveS.toR{k:Nat}{H:List AO}{s r:AV}{l:List AV}(h:LiveS k H s r l):LiveR k H r l:=by
 cases h with
 | nil=>exact .nil
 | zs=>exact .zs
 | row h h0=>exact .row h h0
theorem LiveR.keep{k:Nat}{H H':List AO}{r:AV}{l:List AV}(h:LiveR k H r l)(hk:∀ i,zAl r=some i->H'[i]?=H[i]?):LiveR k H' r l:=by
 cases h with
 | nil=>exact .nil
 | zs=>exact .zs
 | row h h0=>exact .row ((hk _ rfl).trans h) h0
theorem LiveR.lt{k:Nat}{H:List AO}{r:AV}{l:List AV}(h:LiveR k H r l):∀ i,zAl r=some i->i < H.length:=by
 intro i hi
 cases h with
 | nil=>cases hi
 | zs=>cases hi
 | row h h0=>cases hi; exact zAd h
theorem LiveR.cell{k:Nat}{H:List AO}{r:AV}{l:List AV}(h:LiveR k H r l):r.isCell=true/\r.isEl=true/\r.cells=[r]:=by
 cases h <;> exact⟨rfl,rfl,rfl⟩
theorem LiveR.len{k:Nat}{t e:TypeId}(hu:zP.underlying t=some (.slice e)){H:List AO}{r:AV}{l:List AV}(h:LiveR k H r l):aLen zP t r=some (l.length:Int):=by
 cases h with
 | nil=>unfold aLen; simp only[hu]; rfl
 | zs=>unfold aLen; simp only[hu]; rfl
 | row h h0=>unfold aLen; simp only[hu]
theorem e4:Ent zP 4 Tryz.f4 [] 3:=.mk Tryz.func4 rfl
attribute [push_cast] Tryz.f4
end Go.Ab.Pd
