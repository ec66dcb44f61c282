/- A text of this claim. -/
import Derived.Test.YtplmblgihfogjaaGreatDoorEv50
set_option maxHeartbeats 40000000
set_option maxRecDepth 400000
set_option linter.all false
namespace Go.Ab.Pd
open Go.Proofs
open Go.Proofs.Tryz renaming prog->zP
theorem PR.cell{H:List AO}{r:AV}{L:List AV}(h:PR H r L):r.isCell=true/\r.isEl=true/\r.cells=[r]:=by
 rcases h with ⟨rfl,_⟩ | ⟨id,rfl,_⟩ <;> exact⟨rfl,rfl,rfl⟩
theorem PR.keep{H H':List AO}{r:AV}{L:List AV}(h:PR H r L)(hk:∀ i,zAw r=some i->H'[i]?=H[i]?):PR H' r L:=by
 rcases h with ⟨rfl,e⟩ | ⟨id,rfl,h0,hid⟩
 ·exact .inl ⟨rfl,e⟩
 ·exact .inr ⟨id,rfl,h0,(hk id rfl).trans hid⟩
theorem PR.lt{H:List AO}{r:AV}{L:List AV}(h:PR H r L){i:Nat}(e:zAw r=some i):i < H.length:=by
 rcases h with ⟨rfl,_⟩ | ⟨id,rfl,h0,hid⟩
 ·cases e
 ·cases e; exact zAc hid
theorem PR.app{H:List AO}{r:AV}{L:List AV}(h:PR H r L)(X:List AO):PR (H++X) r L:=h.keep fun i hi=>zL (h.lt hi)
theorem PR.live{H:List AO}{r:AV}{l:List Prt}(h:PR H r (l.map Prt.av))(h0:0 < l.length):LiveS 13 H (.isl (l.map Prt.av)) r (l.map Prt.av):=by
 rcases h with ⟨_,e⟩ | ⟨id,rfl,_,hid⟩
 ·rw[List.map_eq_nil_iff.1 e]at h0;simp at h0
 ·rw[zM]; exact LiveS.row' hid h0
theorem elsN{Ha:List AO}(q:Prt):elsOf (Ha++[AO.arr 13 [q.av]]) 13 (.sl Ha.length 0 1 1)=some (True,[q.av]):=by
 unfold elsOf;simp only[zAd,List.getElem?_cons_zero];rw[if_pos (by refine⟨?_,?_⟩ <;> first | trivial | simp)]; rfl
theorem e12:Ent zP 12 Tryz.f12 [] 3:=.mk Tryz.func12 rfl
theorem started_ac{s:Sta}(h:s.good)(hl:s.lim)(hl2:s.lim2)(f:s.fine){id:Int}(hf:¬findN s.jobs id < 0)(p:Plc){H:List AO}{K:AV->List AO->Prop}
  (hK:∀ k rc rj rp rk rd rh ru H',k<=s.parts.length->(∀ q∈s.parts.take k,q.job < id)->(∀ q∈s.parts.drop k,id<=q.job)->H.length<=H'.length->(∀ i,i < H.length->H'[i]?=H[i]?)->LiveS 4 H' s.cs rc (s.c.cls.map Cls.av)->LiveS 16 H' (s.begun (findN s.jobs id).toNat k id p).js rj ((s.begun (findN s.jobs id).toNat k id p).jobs.map Jb.av)->LiveS 13 H' (s.begun (findN s.jobs id).toNat k id p).ps rp ((s.begun (findN s.jobs id).toNat k id p).parts.map Prt.av)->LiveS 9 H' s.ks rk (s.keeps.map Kep.av)->LiveS 1 H' s.ds rd (s.down.map IA)->LiveS 1 H' s.hs rh (s.shut.map IA)->LiveS 1 H' s.us ru (s.cut.map IA) ->
   K (ST s.c.a s.c.b s.c.c s.c.boot s.c.free s.c.tries s.c.age rc s.now s.next rj rp rk rd rh ru) H') :
  AC zP GG 12 [s.av,I id,p.av] H K:=by
 obtain⟨z1,z2,z3⟩:=zEm hf;have hT:=fun {H:List AO} {K:AV->List AO->Prop}=>twinA_ac h hl2 (H:=H) (K:=K)
 simp only[Sta.av]at hT;have hpw:=(partsV_iff.1 f.pa).2.1;have hp24:=(partsV_iff.1 f.pa).1;have hZ:=h.cell;obtain⟨⟨⟨a1,a2,a3⟩,b1,b2,b3⟩,⟨⟨cc1,cc2,cc3⟩,dd1,dd2,dd3⟩,⟨ee1,ee2,ee3⟩,⟨f1,f2,f3⟩,g1,g2,g3⟩:=h.cell;obtain⟨p1,p2,p3,p4,p5,p6,p7⟩:=h.purs;show AC zP GG 12 [ST s.c.a s.c.b s.c.c s.c.boot s.c.free s.c.tries s.c.age s.cs s.now s.next s.js s.ps s.ks s.ds s.hs s.us,I id,PL p.x p.y p.z p.p p.q p.r p.s p.t p.u] H K;refine goE e12 TOk.nil 0 ?_;simp only[push_cast,seval,↓kw2,hZ,zAd,getA,zAe,setA,zAb];refine hT ?_
 intro rc rj rp rk rd rh ru X n1 n2 n3 n4 n5 n6 n7 o1 o2 o3 o4 o5 o6 o7 hn0 r1 r2 r3 r4 r5 r6 r7 hnn
 have hne:0 < (s.jobs.map Jb.av).length:=by rw[zM]; omega
 obtain⟨di,rfl,hid⟩:=o2.row_of hne;have rD:=r2 di rfl;obtain⟨q1,q2,q3,q4,q5,q6,q7⟩:=hnn;obtain⟨l1,l2,l3⟩:=o1.cell;obtain⟨n1x,n2x,n3x⟩:=o3.cell;obtain⟨k1x,k2x,k3x⟩:=o4.cell;obtain⟨m1x,m2x,m3x⟩:=o5.cell;obtain⟨t1x,t2x,t3x⟩:=o6.cell;obtain⟨w1x,w2x,w3x⟩:=o7.cell;have hpl:=o3.len
 generalize hH1:_++X=H1 at hid o1 o3 o4 o5 o6 o7 r7 q7 ⊢
 have c0:H1[H.length]?=some (.cells [I s.c.a,I s.c.b,I s.c.c,I s.c.boot,I s.c.free,I s.c.tries,I s.c.age,s.cs,I s.now,I s.next,s.js,s.ps,s.ks,s.ds,s.hs,s.us]):=by rw[<- hH1]; simp
 have c1:H1[H.length+1]?=some (.cells [I p.x,I p.y,I p.z,I p.p,I p.q,I p.r,B p.s,B p.t,B p.u]):=by rw[<- hH1]; simp
 have c2:H1[H.length+2]?=some (.cells [I 0,I 0,I 0,I 0,I 0,I 0,I 0,NS,I 0,I 0,NS,NS,NS,NS,NS,NS]):=by rw[<- hH1]; simp
 have hlo:∀ i,i < H.length->H1[i]?=H[i]?:=fun i hi=>by rw[<- hH1]; simp[zL,hi]
 have hl1:H1.length=H.length+3+X.length:=by rw[<- hH1]; simp; omega
 have hn0':H.length+3<=n1:=by simpa using hn0
 clear hH1 hn0;refine goN ?_;simp only[push_cast,seval,↓kw2,hZ,zAd,getA,zAe,setA,zAb,c0,c1,zCu,l1,l2,l3,n1x,n2x,n3x,k1x,k2x,k3x,m1x,m2x,m3x,t1x,t2x,t3x,w1x,w2x,w3x];have hdi:=zAc hid;have hjl:=hl.jl;have hpll:=hl.pl;have bP:=h.ps;refine FW.loopInv (fun m ts H'=>∃ i:Nat,i+m=s.jobs.length/\H'.length=H1.length+1/\(∀ k,k≠di->H'[k]?=(H1++[AO.cells [I s.c.a,I s.c.b,I s.c.c,I s.c.boot,I s.c.free,I s.c.tries,I s.c.age,rc,I s.now,I s.next,.sl di 0 (s.jobs.map Jb.av).length (s.jobs.map Jb.av).length,rp,rk,rd,rh,ru]])[k]?)/\H'[di]?=some (.arr 16 ((begI id s.jobs i).map Jb.av))/\ts 1=I id/\ts 3=.ptr H.length 0/\ts 5=.ptr (H.length+1) 0/\ts 6=.ptr (H.length+2) 0/\ts 7=.ptr H1.length 0/\ts 8=I (i:Int)) s.jobs.length ⟨0,by omega,by simp,fun k hk=>rfl,by rw[begI_0,zL hdi]; exact hid,rfl,rfl,rfl,rfl,rfl,rfl⟩ ?_
 rintro m ih ts H' ⟨i,hi,hl',hk',hd',t1,t3,t5,t6,t7,t8⟩
 refine FW.inLoop ?_;have gx:H'[H1.length]?=some (.cells [I s.c.a,I s.c.b,I s.c.c,I s.c.boot,I s.c.free,I s.c.tries,I s.c.age,rc,I s.now,I s.next,.sl di 0 (s.jobs.map Jb.av).length (s.jobs.map Jb.av).length,rp,rk,rd,rh,ru]):=by rw[hk' _ (by omega),List.getElem?_append_right (Nat.le_refl _),Nat.sub_self]; rfl
 have glo:∀ k,k < H1.length->k≠di->H'[k]?=H1[k]?:=fun k h1 h2=>by rw[hk' _ h2,zL h1]
 by_cases hlt:i < s.jobs.length
 ·have hd1:decide ((i:Int) < ((s.jobs.map Jb.av).length:Int))=true:=zT (by rw[zM]; omega);have hgy:((begI id s.jobs i).map Jb.av).getD i .un=(s.jobs.getD i default).av:=by rw[zAj Jb.av _ default (by rw[begI_len]; omega),begI_get _ _ _ _ (Nat.le_refl _)]
  have hst1:=begI_step id s.jobs i hlt;have hst0:=begI_ne (id:=id) hlt;have hjg:=h.js.get i;have hir:i < ((begI id s.jobs i).map Jb.av).length:=by rw[zM,begI_len]; exact hlt
  have hbb:((0:Int)<=(i:Int)/\(i:Int) < ((s.jobs.map Jb.av).length:Int)):=⟨by omega,by rw[zM]; omega⟩
  generalize s.jobs.getD i default=j at hgy hst1 hst0 hjg
  have hcx:=Jb.cells j;obtain⟨u1,u2,u3⟩:=IsSl.cell hjg;have hi1:=zAl (n:=(i:Int)+1) (by omega) (by omega);simp only[Jb.av]at hgy hcx
  by_cases hj:j.id=id
  ·have dj:decide (j.id=id)=true:=zT hj;rw[if_pos hj]at hst1;have hset:((begI id s.jobs i).map Jb.av).set i (.agg [I j.id,I j.user,I j.cls,I j.w.p,I j.w.q,I j.w.r,B j.w.s,B j.w.t,B j.w.u,B j.w.v,I j.wall,I j.prio,B j.held,j.aft,.c (.int .u8 2),I j.came])=(begI id s.jobs (i+1)).map Jb.av:=by
    rw[hst1,List.map_set]; rfl
   refine goN ?_;simp only[push_cast,seval,↓kw2,hZ,zAd,getA,zAe,setA,zAb,t1,t3,t5,t6,t7,t8,gx,hd',hd1,hgy,hcx,u1,u2,u3,hir,dj,Int.toNat_natCast,hi1];refine⟨hbb,hbb,?_⟩;rw[hset];exact ih (m - 1) (by omega) _ _ ⟨i+1,by omega,by rw[List.length_set]; exact hl',fun k hk=>by rw[zQ (Ne.symm hk)]; exact hk' k hk,zS (by omega),t1,t3,t5,t6,t7,rfl⟩
  ·have dj:decide (j.id=id)=false:=zF hj;have hst0':=hst0 hj;refine goN ?_;simp only[push_cast,seval,↓kw2,hZ,zAd,getA,zAe,setA,zAb,t1,t3,t5,t6,t7,t8,gx,hd',hd1,hgy,hcx,u1,u2,u3,hir,dj,Int.toNat_natCast,hi1];exact⟨hbb,ih (m - 1) (by omega) _ _ ⟨i+1,by omega,hl',hk',by rw[hst0']; exact hd',t1,t3,t5,t6,t7,rfl⟩⟩
 ·have hd1:decide ((i:Int) < ((s.jobs.map Jb.av).length:Int))=false:=zF (by rw[zM]; omega);have hin:i=s.jobs.length:=by omega
  clear ih;rw[hin,begI_all (ris_ne (tbl_0 (jobs_tbl f.jb)).2.2.2.1) z2 z3]at hd';refine goN ?_;simp only[push_cast,seval,↓kw2,hZ,zAd,getA,zAe,setA,zAb,t1,t3,t5,t6,t7,t8,gx,hd1];have hlx:∀ i,i < H1.length->i≠di->H'[i]?=H1[i]?:=glo;have g0:H'[H.length]?=some (.cells [I s.c.a,I s.c.b,I s.c.c,I s.c.boot,I s.c.free,I s.c.tries,I s.c.age,s.cs,I s.now,I s.next,s.js,s.ps,s.ks,s.ds,s.hs,s.us]):=(glo _ (by omega) (by omega)).trans c0;have g1':H'[H.length+1]?=_:=(glo _ (by omega) (by omega)).trans c1;have g2':H'[H.length+2]?=_:=(glo _ (by omega) (by omega)).trans c2;have o1':=o1.keep fun i hi=>glo i (o1.lt i hi) (by have:=r1 i hi; omega)
  have o3':=o3.keep fun i hi=>glo i (o3.lt i hi) (by have:=r3 i hi; omega)
  have o4':=o4.keep fun i hi=>glo i (o4.lt i hi) (by have:=r4 i hi; omega)
  have o5':=o5.keep fun i hi=>glo i (o5.lt i hi) (by have:=r5 i hi; omega)
  have o6':=o6.keep fun i hi=>glo i (o6.lt i hi) (by have:=r6 i hi; omega)
  have o7':=o7.keep fun i hi=>glo i (o7.lt i hi) (by have:=r7 i hi; omega)
  have y1:∀ i,zAw rc=some i->i < H1.length/\H.length+3<=i/\i≠di:=fun i hi=>⟨o1.lt i hi,by have:=r1 i hi; omega,by have:=r1 i hi; omega⟩
  have y3:∀ i,zAw rp=some i->i < H1.length/\H.length+3<=i:=fun i hi=>⟨o3.lt i hi,by have:=r3 i hi; omega⟩
  have y4:∀ i,zAw rk=some i->i < H1.length/\H.length+3<=i:=fun i hi=>⟨o4.lt i hi,by have:=r4 i hi; omega⟩
  have y5:∀ i,zAw rd=some i->i < H1.length/\H.length+3<=i:=fun i hi=>⟨o5.lt i hi,by have:=r5 i hi; omega⟩
  have y6:∀ i,zAw rh=some i->i < H1.length/\H.length+3<=i:=fun i hi=>⟨o6.lt i hi,by have:=r6 i hi; omega⟩
  have y7:∀ i,zAw ru=some i->i < H1.length/\H.length+3<=i:=fun i hi=>⟨o7.lt i hi,by have:=r7 i hi; omega⟩
  refine FW.loopInv (fun m ts H''=>∃ k:Nat,k+m=s.parts.length/\H''=H'/\(∀ q∈s.parts.take k,q.job < id)/\ts 1=I id/\ts 3=.ptr H.length 0/\ts 5=.ptr (H.length+1) 0/\ts 6=.ptr (H.length+2) 0/\ts 7=.ptr H1.length 0/\ts 9=I (k:Int)) s.parts.length ⟨0,by omega,rfl,fun q hq=>by simp at hq,t1,t3,t5,t6,t7,rfl⟩ ?_;clear t1 t3 t5 t6 t7 t8
  rintro m ih ts H'' ⟨k,hk,rfl,hk1,t1,t3,t5,t6,t7,t9⟩
  refine FW.inLoop ?_
  by_cases hgo:k < s.parts.length/\(s.parts.getD k default).job < id
  ·obtain⟨hlt,hj⟩:=hgo;have hne':0 < (s.parts.map Prt.av).length:=by rw[zM]; omega
   have hd2:decide ((k:Int) < ((s.parts.map Prt.av).length:Int))=true:=zT (by rw[zM]; omega);have hbb:((0:Int)<=(k:Int)/\(k:Int) < ((s.parts.map Prt.av).length:Int)):=⟨by omega,by rw[zM]; omega⟩;have hgy:(s.parts.map Prt.av).getD k .un=(s.parts.getD k default).av:=zAj Prt.av _ default hlt;have hgk:s.parts.getD k default=s.parts[k]:=by simp[List.getD,hlt]
   have hi1:=zAl (n:=(k:Int)+1) (by omega) (by omega);have hkr:k < (s.parts.map Prt.av).length:=by rw[zM]; omega
   obtain⟨pi,rfl,hpi⟩:=o3'.row_of hne';have dj:decide ((s.parts.getD k default).job < id)=true:=zT hj;have hk1':∀ q∈s.parts.take (k+1),q.job < id:=fun q hq=>by
    rw[List.take_add_one,List.mem_append]at hq
    rcases hq with hq | hq
    ·exact hk1 q hq
    ·rw[List.getElem?_eq_getElem hlt,<- hgk]at hq;simp only[Option.toList_some,List.mem_cons,List.not_mem_nil,or_false]at hq;rw[hq]; exact hj
   generalize s.parts.getD k default=q at hgy hj dj
   have hcx:=Prt.cells q;simp only[Prt.av]at hgy hcx;refine goN ?_;simp only[push_cast,seval,↓kw2,hZ,zAd,getA,zAe,setA,zAb,l1,l2,l3,n1x,n2x,n3x,k1x,k2x,k3x,m1x,m2x,m3x,t1x,t2x,t3x,w1x,w2x,w3x,t1,t3,t5,t6,t7,t9,gx,hd2,hpi,hgy,hcx,hkr,dj,Int.toNat_natCast,hi1];exact⟨hbb,ih (m - 1) (by omega) _ _ ⟨k+1,by omega,rfl,hk1',t1,t3,t5,t6,t7,rfl⟩⟩
  have hk2:∀ q∈s.parts.drop k,id<=q.job:=fun q hq=>by
   by_cases hlt:k < s.parts.length
   ·have hgk:s.parts.getD k default=s.parts[k]:=by simp[List.getD,hlt]
    have hj:¬(s.parts.getD k default).job < id:=fun e=>hgo ⟨hlt,e⟩
    rw[List.drop_eq_getElem_cons hlt,<- hgk]at hq
    rcases List.mem_cons.1 hq with rfl | hq
    ·omega
    ·have h2:=hpw;rw[<- List.take_append_drop k s.parts,List.drop_eq_getElem_cons hlt,<- hgk]at h2;have:=(List.pairwise_cons.1 (List.pairwise_append.1 h2).2.1).1 q hq;omega
   ·rw[List.drop_eq_nil_of_le (by omega)]at hq;cases hq
  have hbb:k < s.parts.length->((0:Int)<=(k:Int)/\(k:Int) < ((s.parts.map Prt.av).length:Int)):=fun e=>⟨by omega,by rw[zM]; omega⟩
  by_cases hlt:k < s.parts.length
  case' pos =>
   have hgy:(s.parts.map Prt.av).getD k .un=(s.parts.getD k default).av:=zAj Prt.av _ default hlt;have hd2:decide ((k:Int) < ((s.parts.map Prt.av).length:Int))=true:=zT (by rw[zM]; omega);obtain⟨pi,rfl,hpi⟩:=o3'.row_of (by rw[zM]; omega);have dj:decide ((s.parts.getD k default).job < id)=false:=zF fun e=>hgo ⟨hlt,e⟩
   have hkr:k < (s.parts.map Prt.av).length:=by rw[zM]; omega
   generalize s.parts.getD k default=q at hgy dj
   have hcx:=Prt.cells q;simp only[Prt.av]at hgy hcx;have hd3:decide ((k:Int) < (s.parts.length:Int))=true:=zT (by omega);have hx:=And.intro hpi (And.intro hgy (And.intro hcx (And.intro hkr (And.intro dj (And.intro hd2 hd3)))))
  case' neg =>
   have hd3:decide ((k:Int) < (s.parts.length:Int))=false:=zF (by omega);have hx:=And.intro hd3 hd3
  all_goals
   clear ih;have hkn:k<=s.parts.length:=by omega
   obtain⟨C1,v1,hs1,hC1,he1⟩:=sliceLo (k:=k) o3' (by rw[zM]; exact hkn) (by rw[zM]; omega);obtain⟨C2,ra,Ha,ha1,hC2,pa,la,ka,wa⟩:=appP (d:=.c (.slice none 0 0)) (L:=[]) (.inl ⟨rfl,rfl⟩) (he1 _ fun _ _=>rfl) (by simp; omega);rw[List.nil_append]at pa;have ka':∀ j,j < H1.length+1->Ha[j]?=_:=fun j hj=>ka j (by omega) (fun e=>by cases e)
   have wa':∀ i,zAw ra=some i->H1.length+1<=i:=fun i hi=>by
    have:=(wa i hi).resolve_right (fun e=>by cases e);omega
   obtain⟨ra1,ra2,ra3⟩:=pa.cell;have xa0:Ha[H.length]?=_:=(ka' _ (by omega)).trans g0;have xa1:Ha[H.length+1]?=_:=(ka' _ (by omega)).trans g1';have xax:Ha[H1.length]?=_:=(ka' _ (by omega)).trans gx;obtain⟨C3,rb,Hb,hb1,hC3,pb,lb,kb,wb⟩:=appP (pa.app [AO.arr 13 [Prt.av ⟨id,p,1,1,s.now⟩]]) (elsN ⟨id,p,1,1,s.now⟩) (by simp; omega);simp only[Prt.av,PA]at hb1;have kb':∀ j,j < H1.length+1->Hb[j]?=_:=fun j hj=>(kb j (by simp; omega) (fun e=>by have:=wa' j e; omega)).trans ((zL (by omega)).trans (ka' j hj))
   have wb':∀ i,zAw rb=some i->H1.length+1<=i:=fun i hi=>by
    rcases wb i hi with e | e
    ·simp at e; omega
    ·exact wa' i e
   obtain⟨rb1,rb2,rb3⟩:=pb.cell;have lb':Ha.length+1<=Hb.length:=by simpa using lb
   have o3b:=o3'.keep (H':=Hb) fun i hi=>kb' i (by have:=o3'.lt i hi; omega)
   obtain⟨C4,v2,hs2,hC4,he2⟩:=sliceHi (k:=k) o3b (by rw[zM]; exact hkn) (by rw[zM]; omega);obtain⟨C5,rz,Hc,hc1,hC5,pc,lc,kc,wc⟩:=appP pb (he2 _ fun _ _=>rfl) (by simp; omega);have kc':∀ j,j < H1.length+1->Hc[j]?=_:=fun j hj=>(kc j (by omega) (fun e=>by have:=wb' j e; omega)).trans (kb' j hj)
   have wc':∀ i,zAw rz=some i->H1.length+1<=i:=fun i hi=>by
    rcases wc i hi with e | e
    ·omega
    ·exact wb' i e
   obtain⟨rz1,rz2,rz3⟩:=pc.cell;have xbx:Hb[H1.length]?=_:=(kb' _ (by omega)).trans gx;have xcx:Hc[H1.length]?=_:=(kc' _ (by omega)).trans gx;have xc2:Hc[H.length+2]?=_:=(kc' _ (by omega)).trans g2';have xcs:∀ A,(Hc.set H1.length A)[H1.length]?=some A:=fun A=>zS (zAc xcx)
   have xc2s:∀ A,(Hc.set H1.length A)[H.length+2]?=_:=fun A=>(zQ (by omega)).trans xc2
   have xf:∀ A D,((Hc.set H1.length A).set (H.length+2) D)[H.length+2]?=some D:=fun A D=>zS (zAc (xc2s A))
   have kf:∀ A D i,i < H1.length->i≠H.length+2->((Hc.set H1.length A).set (H.length+2) D)[i]?=H''[i]?:=fun A D i hi h2=>by rw[zQ (by omega),zQ (by omega)]; exact kc' i (by omega)
   have kg:∀ A D i,H1.length+1<=i->((Hc.set H1.length A).set (H.length+2) D)[i]?=Hc[i]?:=fun A D i hi=>by rw[zQ (by omega),zQ (by omega)]
   have hrow:(s.parts.map Prt.av).take k++[Prt.av ⟨id,p,1,1,s.now⟩]++(s.parts.map Prt.av).drop k=(insP s.parts k ⟨id,p,1,1,s.now⟩).map Prt.av:=by
    unfold insP;rw[List.map_append,List.map_take,List.map_cons,List.map_drop,List.append_assoc]; rfl
   rw[hrow]at pc;have hlen:(s.jobs.map Jb.av).length=(s.begun (findN s.jobs id).toNat k id p).jobs.length:=by rw[zM]; exact(upJ_len _ _ _).symm
   refine goN ?_;simp only[push_cast,seval,↓kw2,hZ,zAd,getA,zAe,setA,zAb,l1,l2,l3,n1x,n2x,n3x,k1x,k2x,k3x,m1x,m2x,m3x,t1x,t2x,t3x,w1x,w2x,w3x,t1,t3,t5,t6,t7,t9,gx,hs1,ha1,xa0,xa1,xax,ra1,ra2,ra3,hb1,rb1,rb2,rb3,xbx,hs2,hc1,rz1,rz2,rz3,xcx,xc2,xcs,xc2s,xf,hpl,hx,Int.toNat_natCast]
   first
    | refine⟨hbb hlt,?_⟩
    | skip
   exact⟨hC1,hC2,hC3,hC4,hC5,_,rfl,hK k rc _ rz rk rd rh ru _ hkn hk1 hk2 (by simp only[List.length_set]; omega) (fun i hi=>(kf _ _ i (by omega) (by omega)).trans ((glo i (by omega) (by omega)).trans (hlo i hi))) (o1'.keep fun i hi=>kf _ _ i (y1 i hi).1 (by have:=y1 i hi; omega)) (by rw[hlen]; exact LiveS.row' ((kf _ _ di hdi (by omega)).trans hd') (by show 0 < (upJ _ _ _).length; rw[upJ_len]; omega)) ((pc.keep fun i hi=>kg _ _ i (wc' i hi)).live (by rw[insP_len hkn]; omega)) (o4'.keep fun i hi=>kf _ _ i (y4 i hi).1 (by have:=y4 i hi; omega)) (o5'.keep fun i hi=>kf _ _ i (y5 i hi).1 (by have:=y5 i hi; omega)) (o6'.keep fun i hi=>kf _ _ i (y6 i hi).1 (by have:=y6 i hi; omega)) (o7'.keep fun i hi=>kf _ _ i (y7 i hi).1 (by have:=y7 i hi; omega))⟩
theorem eqPlR(x y z p q r:Int)(s t u:Bool):aEqS zP 37 (.agg [I x,I y,I z,I p,I q,I r,B s,B t,B u]) (.agg [I x,I y,I z,I p,I q,I r,B s,B t,B u])=some true:=by
 have:=eqPlS x y z p q r x y z p q r s t u s t u;rw[this,zT ⟨rfl,rfl,rfl,rfl,rfl,rfl,rfl,rfl,rfl⟩]
theorem e13:Ent zP 13 Tryz.f13 [] 4:=.mk Tryz.func13 rfl
theorem clear23_pur{s:Sta}(h:s.good)(hl:s.lim)(f:s.fine){p:Plc}(hp:p.ok s.c.a s.c.b s.c.c){fr till:Int}(he:s.spE fr till=false):Pur zP GG 13 [s.av,p.av,I fr,I till] (B (s.clear p fr till)):=by
 have hd:=zFi f;have hn:=nM_eq f;have hm:=many_pur s.c.a s.c.b s.c.c;have hk:=chk_ok.2 hd;have hv:zAf s.c.a s.c.b s.c.c=s.c.a*s.c.b*s.c.c:=by rw[zAf,if_pos hd]
 rw[hk,hv,<- hn]at hm;obtain⟨n1,n2⟩:=nM_rng f;have h33:IntKind.i64.wrap (3*(s.nM:Int))=3*(s.nM:Int):=zAl (by omega) (by omega);have hS:=sets_pur s.c.a s.c.b s.c.c p.x p.y p.z p.p p.q p.r p.s p.t p.u hp;have hB:=sBusy_ok h hl f he;have hcm:=clear_meet f (fr:=fr) (till:=till) hp;obtain⟨c1,c2,u1,u2,_,_⟩:=bus_chk f fr till;obtain⟨o1,o2⟩:=own_chk hp;rw[hv,<- hn]at o1 o2;have v1:=zAt (zAf s.c.a s.c.b s.c.c) (srt (zAo s.c.a s.c.b s.c.c p.x p.y p.z p.p p.q p.r));have v2:=zAt (3*zAf s.c.a s.c.b s.c.c) (zBh s.c.a s.c.b s.c.c p.x p.y p.z p.p p.q p.r p.s p.t p.u);have hM1:=meet_pur v1 u1 o1 c1;have hM2:=meet_pur v2 u2 o2 c2
 change Pur zP GG 33 [I (s.nM:Int),.isl ((ownW s.c.a s.c.b s.c.c p.x p.y p.z p.p p.q p.r).map U),.isl ((s.busN fr till).map U)] (.tup [B (meetV (ownW s.c.a s.c.b s.c.c p.x p.y p.z p.p p.q p.r) (s.busN fr till)),I 0])at hM1
 change Pur zP GG 33 [I (3*(s.nM:Int)),.isl ((zEx s.c.a s.c.b s.c.c p.x p.y p.z p.p p.q p.r p.s p.t p.u).map U),.isl ((s.busL fr till).map U)] (.tup [B (meetV (zEx s.c.a s.c.b s.c.c p.x p.y p.z p.p p.q p.r p.s p.t p.u) (s.busL fr till)),I 0])at hM2
 rw[<- hcm];have hZ:=h.cell;obtain⟨⟨⟨a1,a2,a3⟩,b1,b2,b3⟩,⟨⟨cc1,cc2,cc3⟩,dd1,dd2,dd3⟩,⟨ee1,ee2,ee3⟩,⟨f1,f2,f3⟩,g1,g2,g3⟩:=h.cell;obtain⟨p1,p2,p3,p4,p5,p6,p7⟩:=h.purs;have w1:IsSet (.isl ((ownW s.c.a s.c.b s.c.c p.x p.y p.z p.p p.q p.r).map U)):=.isl v1;have w2:IsSet (.isl ((zEx s.c.a s.c.b s.c.c p.x p.y p.z p.p p.q p.r p.s p.t p.u).map U)):=.isl v2;have w3:IsSet (.isl ((s.busN fr till).map U)):=.isl u1;have w4:IsSet (.isl ((s.busL fr till).map U)):=.isl u2;simp only[Sta.av]at hB
 generalize meetV (ownW s.c.a s.c.b s.c.c p.x p.y p.z p.p p.q p.r) (s.busN fr till)=M1 at *
 generalize meetV (zEx s.c.a s.c.b s.c.c p.x p.y p.z p.p p.q p.r p.s p.t p.u) (s.busL fr till)=M2 at *
 generalize AV.isl ((ownW s.c.a s.c.b s.c.c p.x p.y p.z p.p p.q p.r).map U)=R1 at *
 generalize AV.isl ((zEx s.c.a s.c.b s.c.c p.x p.y p.z p.p p.q p.r p.s p.t p.u).map U)=R2 at *
 generalize AV.isl ((s.busN fr till).map U)=R3 at *
 generalize AV.isl ((s.busL fr till).map U)=R4 at *
 show Pur zP GG 13 [ST s.c.a s.c.b s.c.c s.c.boot s.c.free s.c.tries s.c.age s.cs s.now s.next s.js s.ps s.ks s.ds s.hs s.us,PL p.x p.y p.z p.p p.q p.r p.s p.t p.u,I fr,I till] _;refine goQ e13 TOk.nil 0 ?_ (by simp[AV.purL,AV.pur,p1,p2,p3,p4,p5,p6,p7]);simp only[push_cast,seval,↓kw2,hZ];refine AC.pur hm ?_;refine goN ?_;simp only[push_cast,seval,↓kw2,hZ];refine AC.pur hS ?_;refine goN ?_;simp only[push_cast,seval,↓kw2,hZ];refine AC.pur hB ?_;refine goN ?_;simp only[push_cast,seval,↓kw2];refine AC.pur hM1 ?_;refine goN ?_;simp only[push_cast,seval,↓kw2,h33];refine AC.pur hM2 ?_;cases M1 <;> cases M2
 all_goals
  refine goN ?_;simp only[push_cast,seval,↓kw2];exact⟨_,rfl,zAa rfl rfl⟩
theorem e3:Ent zP 3 Tryz.f3 [10] 3:=.mk Tryz.func3 rfl
theorem kps_great{s:Sta}(h:s.good)(hg:s.great=true)(id:Int)(w:Wt):Pur zP GG 3 [s.av,I id,w.av] (B true):=by
 have hG:=great_pur h;rw[hg]at hG;simp only[Sta.av]at hG;have hZ:=h.cell;obtain⟨⟨⟨a1,a2,a3⟩,b1,b2,b3⟩,⟨⟨cc1,cc2,cc3⟩,dd1,dd2,dd3⟩,⟨ee1,ee2,ee3⟩,⟨f1,f2,f3⟩,g1,g2,g3⟩:=h.cell;obtain⟨p1,p2,p3,p4,p5,p6,p7⟩:=h.purs;show Pur zP GG 3 [ST s.c.a s.c.b s.c.c s.c.boot s.c.free s.c.tries s.c.age s.cs s.now s.next s.js s.ps s.ks s.ds s.hs s.us,I id,WA w.job w.tm w.pl] _;refine goQ e3 TOk.nil 0 ?_ (by simp[AV.purL,AV.pur,p1,p2,p3,p4,p5,p6,p7]);simp only[push_cast,seval,↓kw2,hZ];refine AC.pur alive23 ?_;refine goW TOk.nil [10] 0 ?_;simp only[push_cast,seval,↓kw2,hZ,zAd,getA,zAe,setA,zAb];refine AC.pur hG ?_;refine goW TOk.nil [10] 0 ?_;simp only[push_cast,seval,↓kw2,hZ,zAd,getA,zAe,setA,zAb];exact⟨_,rfl,zAa rfl rfl⟩
theorem kps_err{s:Sta}(h:s.good)(hg:s.great=false){id:Int}{w:Wt}{e:Int}(he:e≠0)(hN:Pur zP GG 10 [s.av,I id,w.av] (.tup [zPc.av,I e])):Pur zP GG 3 [s.av,I id,w.av] (B true):=by
 have hl:=Sta.lim_of hg;have hG:=great_pur h;rw[hg]at hG;have hde:decide (e=0)=false:=zF he;simp only[Sta.av,Wt.av,Plc.av,zPc]at hN hG;have hZ:=h.cell;obtain⟨⟨⟨a1,a2,a3⟩,b1,b2,b3⟩,⟨⟨cc1,cc2,cc3⟩,dd1,dd2,dd3⟩,⟨ee1,ee2,ee3⟩,⟨f1,f2,f3⟩,g1,g2,g3⟩:=h.cell;obtain⟨p1,p2,p3,p4,p5,p6,p7⟩:=h.purs;show Pur zP GG 3 [ST s.c.a s.c.b s.c.c s.c.boot s.c.free s.c.tries s.c.age s.cs s.now s.next s.js s.ps s.ks s.ds s.hs s.us,I id,WA w.job w.tm w.pl] _;refine goQ e3 TOk.nil 0 ?_ (by simp[AV.purL,AV.pur,p1,p2,p3,p4,p5,p6,p7]);simp only[push_cast,seval,↓kw2,hZ];refine AC.pur alive23 ?_;refine goW TOk.nil [10] 0 ?_;simp only[push_cast,seval,↓kw2,hZ,zAd,getA,zAe,setA,zAb];refine AC.pur hG ?_;refine goW TOk.nil [10] 0 ?_;simp only[push_cast,seval,↓kw2,hZ,zAd,getA,zAe,setA,zAb];refine AC.pur hN ?_;refine goW TOk.nil [10] 0 ?_;simp only[push_cast,seval,↓kw2,hZ,zAd,getA,zAe,setA,zAb,hde,eqPlR,zAn];exact⟨_,rfl,zAa rfl rfl⟩
def impK:Nat->Bool:=fun i=>i==17
def ordK:List (Nat × Bool):=[(0,true),(1,true),(2,true),(3,true),(4,true),(5,true),(6,true),(7,true),(8,true),(9,true),(10,true),(11,true),(12,true),(13,true),(14,true),(15,true),(16,true),(17,false)]
theorem keeps_to{s:Sta}{id:Int}{w:Wt}(h0:¬w.job=0)(h:s.prom id w=true):¬findN s.jobs w.job < 0/\¬w.job=id/\s.now<=w.tm/\w.tm<=1099511627776/\w.pl.ok s.c.a s.c.b s.c.c:=by
 unfold Sta.prom at h;rw[if_neg h0]at h;simp only[zA,Bool.not_eq_true',decide_eq_false_iff_not,decide_eq_true_eq]at h;obtain⟨h1,h2,h3,h4,h5,h6⟩:=h;unfold Sta.waits at h1;simp only[zA,Bool.not_eq_true',decide_eq_false_iff_not]at h1;exact⟨h1.1,h2,by omega,by omega,isE_ok h5⟩
theorem wide_j{s:Sta}(f:s.fine){id:Int}(hf:¬findN s.jobs id < 0){j:Jb}(hj:s.jobs.getD (findN s.jobs id).toNat default=j):1<=s.c.boot/\1<=j.wall/\1<=s.c.free/\s.c.boot+j.wall+s.c.free<=3145728:=by
 obtain⟨y1,y2,y3,hjm⟩:=wide_fine f hf hj;unfold Sta.wide at y2 y3;have hcf:=f.cf;unfold Sta.config at hcf;simp only[zA,decide_eq_true_eq]at hcf;have hmay:=Cfg.chk_may hcf.1.1.1.1;unfold Cfg.may at hmay;simp only[zA,witV_t]at hmay;have hk:=tbl_chk (jobs_tbl f.jb) j hjm;have hp:j.plain s.c=true:=by
  unfold Jb.chk at hk
  split at hk
  ·assumption
  ·cases hk
 unfold Jb.plain at hp;simp only[zA,witV_t]at hp;refine⟨by omega,by omega,by omega,y3⟩
theorem kps_yes{s:Sta}(h:s.good)(hg:s.great=false)(f:s.fine){id:Int}(hf:¬findN s.jobs id < 0){j:Jb}(hj:s.jobs.getD (findN s.jobs id).toNat default=j){w:Wt}(hpr:s.prom id w=true)(hel:s.eligV j=true)(hend:s.endJ j<=1099511627776)(hcap:s.capped j w=false){p:Plc}(hp:p∈s.freeW j w)(hN:Pur zP GG 10 [s.av,I id,w.av] (.tup [p.av,I 0])):Pur zP GG 3 [s.av,I id,w.av] (B true):=by
 have hl:=Sta.lim_of hg;have hG:=great_pur h;rw[hg]at hG;have hl2:=Sta.lim2_of hg;have m0:=fun {k:Nat}=>may_of f hf hj hel hend hp (k:=k)
 have hcl0:s.clear p s.now (s.endJ j)=true:=by
  have:=(List.mem_filter.1 hp).2;rw[zA]at this;exact this.1
 have hpo:p.ok s.c.a s.c.b s.c.c:=((wholeL_mem (zFi f)).1 (List.mem_filter.1 hp).1).1;have hp24:=(partsV_iff.1 f.pa).1;have hF:=zFc h.js hl.jl id;rw[if_neg hf,if_neg hf]at hF;obtain⟨z1,z2,z3⟩:=zEm hf;have hjx:=h.js.1.idx (P:=zP) un27 sz50 (i:=findN s.jobs id) (by rw[zM]; omega) (by have:=hl.jl; omega);rw[zAj Jb.av s.jobs default z2,hj]at hjx;have hjl:=hl.jl;have hLn:=h.js.1.len (P:=zP) un27;have hjg:j.good:=by rw[<- hj]; exact h.js.get _
 obtain⟨m1,m2,m3⟩:=IsSl.cell hjg;have hjc:=Jb.cells j;have hbj:(0<=findN s.jobs id/\findN s.jobs id < ((s.jobs.map Jb.av).length:Int)):=⟨by omega,by rw[zM]; omega⟩;obtain⟨y1,y2,y3,y4⟩:=wide_j f hf hj;have hn1:=fine_now f;have wr1:IntKind.i64.wrap (s.now+s.c.boot)=s.now+s.c.boot:=zAl (by omega) (by omega);have wr2:IntKind.i64.wrap (s.now+s.c.boot+j.wall)=s.now+s.c.boot+j.wall:=zAl (by omega) (by omega);have wr3:IntKind.i64.wrap (s.now+s.c.boot+j.wall+s.c.free)=s.endJ j:=by
  rw[zAl (by omega) (by omega)]; unfold Sta.endJ; omega
 have hS:=fun {H:List AO} {K:AV->List AO->Prop}=>started_ac h hl hl2 f hf p (H:=H) (K:=K)
 have hC:=clear23_pur h hl f hpo (fr:=s.now) (till:=s.endJ j) (spE_of (Int.le_refl _) (by unfold Sta.endJ; omega) hend);rw[hcl0]at hC;simp only[Sta.av,Wt.av,Plc.av]at hN hG hS hC;have hZ:=h.cell;obtain⟨⟨⟨a1,a2,a3⟩,b1,b2,b3⟩,⟨⟨cc1,cc2,cc3⟩,dd1,dd2,dd3⟩,⟨ee1,ee2,ee3⟩,⟨f1,f2,f3⟩,g1,g2,g3⟩:=h.cell;obtain⟨p1,p2,p3,p4,p5,p6,p7⟩:=h.purs;show Pur zP GG 3 [ST s.c.a s.c.b s.c.c s.c.boot s.c.free s.c.tries s.c.age s.cs s.now s.next s.js s.ps s.ks s.ds s.hs s.us,I id,WA w.job w.tm w.pl] _;refine goQ e3 TOk.nil 0 ?_ (by simp[AV.purL,AV.pur,p1,p2,p3,p4,p5,p6,p7]);simp only[push_cast,seval,↓kw2,hZ];refine AC.pur alive23 ?_;refine goW TOk.nil [10] 0 ?_;simp only[push_cast,seval,↓kw2,hZ,zAd,getA,zAe,setA,zAb];refine AC.pur hG ?_;refine goW TOk.nil [10] 0 ?_;simp only[push_cast,seval,↓kw2,hZ,zAd,getA,zAe,setA,zAb];refine AC.pur hN ?_;refine goW TOk.nil [10] 0 ?_;simp only[push_cast,seval,↓kw2,hZ,zAd,getA,zAe,setA,zAb];refine AC.pur hF ?_;refine goW TOk.nil [10] 0 ?_;simp only[push_cast,seval,↓kw2,hZ,zAd,getA,zAe,setA,zAb,List.contains_cons,Bool.true_or,Bool.false_or,Bool.or_true];refine FW.walkG hmix (imp:=impK) (l:=ordK) (by kernel_rfl) (by kernel_rfl) ?_;simp only[ordK];simp only[push_cast,seval,↓kw2,zBn,zBm,zAr,↓zAq,impK,Bool.or_false,Bool.or_true,Bool.true_or,Bool.false_or,Bool.or_self,Nat.add_assoc,zAx,zCq,wat,clOf,hZ,hjx,hjc,m1,m2,m3,wr1,wr2,wr3,zAd,getA,zAe,setA,hbj,and_self,implies_true,true_and];refine goW TOk.nil [10] 0 ?_;simp only[push_cast,seval,↓kw2,hZ,zAd,getA,zAe,setA,zAb,m1,m2,m3];refine hS ?_
 intro k rc rj rp rk rd rh ru H1 hk k1 k2 hH1 hlo o1 o2 o3 o4 o5 o6 o7
 have m:=m0 hk k1 k2;have bg:(s.begun (findN s.jobs id).toNat k id p).good:=begun_good h _ _ _ _;have bl:(s.begun (findN s.jobs id).toNat k id p).lim:=begun_lim hl (by omega) hk _ _;have bf:=m.fine;have hChk:=holdc_pur bg bl;rw[okV_iff.2 bf]at hChk;rw[if_pos rfl]at hChk;have c0:H1[0]?=some (.cells [I s.c.a,I s.c.b,I s.c.c,I s.c.boot,I s.c.free,I s.c.tries,I s.c.age,s.cs,I s.now,I s.next,s.js,s.ps,s.ks,s.ds,s.hs,s.us]):=(hlo 0 (by simp)).trans rfl;have c1:H1[1]?=some (.cells [I w.job,I w.tm,I w.pl.x,I w.pl.y,I w.pl.z,I w.pl.p,I w.pl.q,I w.pl.r,B w.pl.s,B w.pl.t,B w.pl.u]):=(hlo 1 (by simp)).trans rfl;have c2:H1[2]?=some (.cells [I p.x,I p.y,I p.z,I p.p,I p.q,I p.r,B p.s,B p.t,B p.u]):=(hlo 2 (by simp)).trans rfl;have e0:∀ Y,(H1++Y)[0]?=_:=fun Y=>(zL (zAc c0)).trans c0
 have e1:∀ Y,(H1++Y)[1]?=_:=fun Y=>(zL (zAc c1)).trans c1
 have e2:∀ Y,(H1++Y)[2]?=_:=fun Y=>(zL (zAc c2)).trans c2
 clear hlo hH1 hS;refine goW TOk.nil [10] 0 ?_;simp only[push_cast,seval,↓kw2,hZ,zAd,getA,zAe,setA,zAb,c0,c1,c2,e0,e1,e2];refine AC.pur hC ?_;refine goW TOk.nil [10] 0 ?_;simp only[push_cast,seval,↓kw2,hZ,zAd,getA,zAe,setA,zAb,c0,c1,c2,e0,e1,e2];refine liveA_view (s:=s.begun (findN s.jobs id).toNat k id p) bg (o1.app _) (o2.app _) (o3.app _) (o4.app _) (o5.app _) (o6.app _) (o7.app _) rfl rfl hChk ?_
 by_cases h0:w.job=0
 ·have dw:decide (w.job=0)=true:=zT h0;refine goW TOk.nil [10] 0 ?_;simp only[push_cast,seval,↓kw2,hZ,zAd,getA,zAe,setA,zAb,c0,c1,c2,e0,e1,e2,dw];exact⟨_,rfl,zAa rfl rfl⟩
 have dw:decide (w.job=0)=false:=zF h0;obtain⟨hto,hne,ht1,ht2,hwo⟩:=keeps_to h0 hpr;have hF2:=zFc h.js hl.jl w.job;rw[if_neg hto,if_neg hto]at hF2;obtain⟨v1,v2,v3⟩:=zEm hto;have hox:=h.js.1.idx (P:=zP) un27 sz50 (i:=findN s.jobs w.job) (by rw[zM]; omega) (by omega);rw[zAj Jb.av s.jobs default v2,<- jobN_get hto]at hox;have hog:=job_get h (id:=w.job);have hbo:(0<=findN s.jobs w.job/\findN s.jobs w.job < ((s.jobs.map Jb.av).length:Int)):=⟨by omega,by rw[zM]; omega⟩;obtain⟨x1,x2,x3,x4⟩:=wide_j f hto (jobN_get hto).symm;have hE2:=elig_ok h hl f hto (jobN_get hto).symm;have hX2:=elig_ok bg bl bf (id:=w.job) (by show ¬findN (upJ Jb.std s.jobs _) w.job < 0; rw[upJ_find (g:=Jb.std) (fun _=>rfl)]; exact hto) rfl;have hxj:(s.begun (findN s.jobs id).toNat k id p).jobs.getD (findN (s.begun (findN s.jobs id).toNat k id p).jobs w.job).toNat default=(s.begun (findN s.jobs id).toNat k id p).jobN w.job:=(jobN_get (by show ¬findN (upJ Jb.std s.jobs _) w.job < 0; rw[upJ_find (g:=Jb.std) (fun _=>rfl)]; exact hto)).symm;rw[hxj]at hX2;have hb:=m.behind h0 hne hcap
 generalize hlt:w.tm+s.c.boot+(s.jobN w.job).wall+s.c.free=lt
 have hC2:=fun hle=>clear23_pur h hl f hwo (fr:=w.tm) (till:=lt) (spE_of ht1 (by omega) hle)
 have hC3:=fun hle=>clear23_pur bg bl bf (p:=w.pl) hwo (fr:=w.tm) (till:=lt) (spE_of (s:=s.begun (findN s.jobs id).toNat k id p) ht1 (by omega) hle)
 have hst:=fun hc=>m.still hp h0 (t:=lt) (by omega) hwo hc
 generalize s.eligV (s.jobN w.job)=V1 at hE2 hb
 generalize (s.begun (findN s.jobs id).toNat k id p).eligV ((s.begun (findN s.jobs id).toNat k id p).jobN w.job)=V2 at hX2 hb
 generalize s.jobN w.job=o at *
 obtain⟨n1,n2,n3⟩:=IsSl.cell hog;have hoc:=Jb.cells o;have wl1:IntKind.i64.wrap (w.tm+s.c.boot)=w.tm+s.c.boot:=zAl (by omega) (by omega);have wl2:IntKind.i64.wrap (w.tm+s.c.boot+o.wall)=w.tm+s.c.boot+o.wall:=zAl (by omega) (by omega);have wl3:IntKind.i64.wrap (w.tm+s.c.boot+o.wall+s.c.free)=lt:=by rw[zAl (by omega) (by omega)]; exact hlt
 simp only[Sta.av,Plc.av]at hE2 hC2;refine goW TOk.nil [10] 0 ?_;simp only[push_cast,seval,↓kw2,hZ,zAd,getA,zAe,setA,zAb,c0,c1,c2,e0,e1,e2,dw]
 by_cases hle:lt<=1099511627776
 ·have dle:decide (lt<=1099511627776)=true:=zT hle;have hC2:=hC2 hle;have hC3:=hC3 hle;refine AC.pur hF2 ?_;refine goW TOk.nil [10] 0 ?_;simp only[push_cast,seval,↓kw2,hZ,zAd,getA,zAe,setA,zAb,c0,c1,c2,e0,e1,e2,hox,hoc,n1,n2,n3,wl1,wl2,wl3,dle];refine⟨hbo,?_⟩;refine AC.pur hC2 ?_;cases hcl:s.clear w.pl w.tm lt
  ·skip
   refine goW TOk.nil [10] 0 ?_;simp only[push_cast,seval,↓kw2,hZ,zAd,getA,zAe,setA,zAb,c0,c1,c2,e0,e1,e2];refine AC.pur hE2 ?_;refine goW TOk.nil [10] 0 ?_;simp only[push_cast,seval,↓kw2,hZ,zAd,getA,zAe,setA,zAb,c0,c1,c2,e0,e1,e2];cases V1
   ·skip
    refine liveA_view (s:=s.begun (findN s.jobs id).toNat k id p) bg (o1.app _) (o2.app _) (o3.app _) (o4.app _) (o5.app _) (o6.app _) (o7.app _) rfl rfl hX2 ?_;refine goW TOk.nil [10] 0 ?_;simp only[push_cast,seval,↓kw2,hZ,zAd,getA,zAe,setA,zAb,c0,c1,c2,e0,e1,e2];exact⟨_,rfl,zAa rfl rfl⟩
   ·have hv:=hb rfl;subst hv;refine liveA_view (s:=s.begun (findN s.jobs id).toNat k id p) bg (o1.app _) (o2.app _) (o3.app _) (o4.app _) (o5.app _) (o6.app _) (o7.app _) rfl rfl hX2 ?_;refine goW TOk.nil [10] 0 ?_;simp only[push_cast,seval,↓kw2,hZ,zAd,getA,zAe,setA,zAb,c0,c1,c2,e0,e1,e2];exact⟨_,rfl,zAa rfl rfl⟩
  ·rw[hst hcl]at hC3;refine goW TOk.nil [10] 0 ?_;simp only[push_cast,seval,↓kw2,hZ,zAd,getA,zAe,setA,zAb,c0,c1,c2,e0,e1,e2];refine liveA_view (s:=s.begun (findN s.jobs id).toNat k id p) bg (o1.app _) (o2.app _) (o3.app _) (o4.app _) (o5.app _) (o6.app _) (o7.app _) rfl rfl hC3 ?_;refine goW TOk.nil [10] 0 ?_;simp only[push_cast,seval,↓kw2,hZ,zAd,getA,zAe,setA,zAb,c0,c1,c2,e0,e1,e2];refine AC.pur hE2 ?_;refine goW TOk.nil [10] 0 ?_;simp only[push_cast,seval,↓kw2,hZ,zAd,getA,zAe,setA,zAb,c0,c1,c2,e0,e1,e2];cases V1
   ·skip
    refine liveA_view (s:=s.begun (findN s.jobs id).toNat k id p) bg (o1.app _) (o2.app _) (o3.app _) (o4.app _) (o5.app _) (o6.app _) (o7.app _) rfl rfl hX2 ?_;refine goW TOk.nil [10] 0 ?_;simp only[push_cast,seval,↓kw2,hZ,zAd,getA,zAe,setA,zAb,c0,c1,c2,e0,e1,e2];exact⟨_,rfl,zAa rfl rfl⟩
   ·have hv:=hb rfl;subst hv;refine liveA_view (s:=s.begun (findN s.jobs id).toNat k id p) bg (o1.app _) (o2.app _) (o3.app _) (o4.app _) (o5.app _) (o6.app _) (o7.app _) rfl rfl hX2 ?_;refine goW TOk.nil [10] 0 ?_;simp only[push_cast,seval,↓kw2,hZ,zAd,getA,zAe,setA,zAb,c0,c1,c2,e0,e1,e2];exact⟨_,rfl,zAa rfl rfl⟩
 ·have dle:decide (lt<=1099511627776)=false:=zF hle;refine AC.pur hF2 ?_;refine goW TOk.nil [10] 0 ?_;simp only[push_cast,seval,↓kw2,hZ,zAd,getA,zAe,setA,zAb,c0,c1,c2,e0,e1,e2,hox,hoc,n1,n2,n3,wl1,wl2,wl3,dle];refine⟨hbo,?_⟩;refine AC.pur hE2 ?_;refine goW TOk.nil [10] 0 ?_;simp only[push_cast,seval,↓kw2,hZ,zAd,getA,zAe,setA,zAb,c0,c1,c2,e0,e1,e2];cases V1
  ·skip
   refine liveA_view (s:=s.begun (findN s.jobs id).toNat k id p) bg (o1.app _) (o2.app _) (o3.app _) (o4.app _) (o5.app _) (o6.app _) (o7.app _) rfl rfl hX2 ?_;refine goW TOk.nil [10] 0 ?_;simp only[push_cast,seval,↓kw2,hZ,zAd,getA,zAe,setA,zAb,c0,c1,c2,e0,e1,e2];exact⟨_,rfl,zAa rfl rfl⟩
  ·have hv:=hb rfl;subst hv;refine liveA_view (s:=s.begun (findN s.jobs id).toNat k id p) bg (o1.app _) (o2.app _) (o3.app _) (o4.app _) (o5.app _) (o6.app _) (o7.app _) rfl rfl hX2 ?_;refine goW TOk.nil [10] 0 ?_;simp only[push_cast,seval,↓kw2,hZ,zAd,getA,zAe,setA,zAb,c0,c1,c2,e0,e1,e2];exact⟨_,rfl,zAa rfl rfl⟩
theorem fillKeeps_law{s:Sta}(h:s.good)(id:Int)(w:Wt):Pur zP GG 3 [s.av,I id,w.av] (B true):=by
 cases hg:s.great
 ·have hl:=Sta.lim_of hg;cases hok:s.okV
  ·obtain⟨g,hg0,hN⟩:=now_no h hl id w (.inl hok);exact kps_err h hg hg0 hN
  ·have f:=okV_iff.1 hok
   by_cases hf:findN s.jobs id < 0
   ·obtain⟨g,hg0,hN⟩:=now_no h hl id w (.inr ⟨f,.inl hf⟩);exact kps_err h hg hg0 hN
   ·have hj:=jobN_get hf
    generalize hjj:s.jobN id=j at hj
    by_cases hst:j.st=1
    ·cases hpr:s.prom id w
     ·obtain⟨g,hg0,hN⟩:=now_no h hl id w (.inr ⟨f,.inr ⟨hf,.inr (.inl hpr)⟩⟩);exact kps_err h hg hg0 hN
     ·cases hel:s.eligV j
      ·obtain⟨g,hg0,hN⟩:=now_no h hl id w (.inr ⟨f,.inr ⟨hf,.inr (.inr (by rw[hjj]; exact hel))⟩⟩);exact kps_err h hg hg0 hN
      ·obtain⟨p,e,hN,hq⟩:=now_yes h hl f hf hjj hpr hel
       rcases hq with ⟨rfl,rfl,_⟩ | ⟨rfl,r1,r2,r3,_⟩
       ·exact kps_err h hg (by decide) hN
       ·exact kps_yes h hg f hf hj.symm hpr hel r1 r2 r3 hN
    ·obtain⟨g,hg0,hN⟩:=now_no h hl id w (.inr ⟨f,.inr ⟨hf,.inl (by rw[hjj]; exact hst)⟩⟩);exact kps_err h hg hg0 hN
 ·exact kps_great h hg id w
end Go.Ab.Pd
