/- A text of this claim. -/
import Derived.Test.YtplmblgihfogjaaGreatDoorEv45
set_option maxHeartbeats 40000000
set_option maxRecDepth 400000
set_option linter.all false
namespace Go.Ab
theorem FW.freezeTmp{P:Program}{G:Gl}{rd:Option Nat}{n:Nat}{todo:List Item}{ts:Nat->AV}{H:List AO}{Q:Lv->(Nat->AV)->List AO->Prop}{id k sz m cap:Nat}{es:List AV}
  (hid:H[id]?=some (.arr sz es)) (hne:0 < m) (hme:m<=es.length) (hpure:AV.purL (es.take m)=true) (hk:k < n) (hks:ts k=.sl id 0 m cap)
  (h:FW P G rd n todo (upd ts k (.isl (es.take m))) (H.set id .dead) Q):FW P G rd n todo ts H Q:=by
 intro hok E w tmps hH hT b0 D fs hrd
 obtain⟨l,hl,hszl,c,t,hcell,hs,hr⟩:=hH.obj id _ hid rfl
 let E':En:={ loc:=E.loc,fro:=fun b=>E.fro b\/b=l.b }
 have hlv:Live H E l.b:=⟨id,_,l,hid,rfl,hl,rfl⟩;have hm:Mono w E w E':=⟨fun b hb=>.inl hb,fun _ _=>rfl,fun _ _ h=>h,fun _ _ h=>h⟩;have hidl:=(List.getElem?_eq_some_iff.1 hid).1;have hget:∀(j:Nat) (oj:AO),(H.set id .dead)[j]?=some oj->oj.live=true->j≠id/\H[j]?=some oj:=by
  intro j oj hj hoj
  by_cases e2:j=id
  ·subst e2;rw[zS hidl]at hj;cases hj; simp[AO.live]at hoj
  ·rw[zQ (fun h=>e2 h.symm)]at hj;exact⟨e2,hj⟩
 have hsub:∀ b,Live (H.set id .dead) E' b->Live H E b/\b≠l.b:=by
  rintro b ⟨j,oj,lj,hj,hoj,hlj,rfl⟩
  obtain⟨h1,h2⟩:=hget j oj hj hoj;exact⟨⟨j,oj,lj,h2,hoj,hlj,rfl⟩,fun e=>h1 (hH.inj j id oj _ lj l h2 hoj hid rfl hlj hl e)⟩
 have hR:RelH G w E' (H.set id .dead):=by
  refine⟨fun j oj hj hoj=>?_,fun j j' o1 o2 l1 l2 h1 ho1 h2 ho2 hl1 hl2 hb=>?_,fun b hb=>?_,fun b hb hl'=>?_,fun j lj hlj=>by rw[List.length_set]; exact hH.dom j lj hlj,fun g cs hg=>(hH.gl g cs hg).mono hm⟩
  ·obtain⟨h1,h2⟩:=hget j oj hj hoj;obtain⟨lj,hlj,hrj⟩:=hH.obj j oj h2 hoj;exact⟨lj,hlj,hrj.mono hm rfl⟩
  ·obtain⟨_,g1⟩:=hget _ _ h1 ho1;obtain⟨_,g2⟩:=hget _ _ h2 ho2;exact hH.inj j j' o1 o2 l1 l2 g1 ho1 g2 ho2 hl1 hl2 hb
  ·rcases hb with hb | rfl
   ·exact hH.frob b hb
   ·exact⟨c,t,_,hcell⟩
  ·obtain⟨h1,h2⟩:=hsub b hl'
   rcases hb with hb | hb
   ·exact hH.sep b hb h1
   ·exact h2 hb
 have hT':RepT w E' n (upd ts k (.isl (es.take m))) tmps:=by
  refine⟨hT.1,fun i hi=>?_⟩;have h1:=hT.2 i hi
  by_cases hik:i=k
  ·subst hik;rw[show upd ts i (.isl (es.take m)) i=.isl (es.take m) by simp[upd]];rw[hks]at h1
   generalize tmps.getD i undef=x at h1
   cases h1 with
   | sl hloc g1 g2 g3 =>
    rename_i l' ad cc;rw[hl]at hloc; cases hloc;obtain⟨rfl,n',hrow,hle⟩:=g3 (by omega);have htl:(es.take m).length=m:=by rw[List.length_take]; omega
    have hgd:∀ i,i < m->(es.take m).getD i .un=es.getD i .un:=fun i hi=>by simp[List.getD,List.getElem?_take,hi]
    have:RepV w E' (.isl (es.take m)) (.slice (some ⟨l.b,l.base+0*l.sz,none⟩) (es.take m).length cc):=by
     refine RepV.isl (sz:=sz) (f:=fun i j=>c.getD (l.base+0*l.sz+i*sz+j) undef) (fun _=>⟨.inr rfl,rfl⟩) (by omega) (fun i hi=>by rw[hgd i (by omega)]; exact⟨(hr i (by omega)).1,(hr i (by omega)).2.1⟩) (fun i j hi hj=>?_) (fun i j hi hj=>by rw[hgd i (by omega)]; exact((hr i (by omega)).2.2 j hj).1) (fun i j hi hj=>?_)
     ·have h4:=Nat.mul_le_mul_right sz (show i+1<=es.length by omega);rw[Nat.add_mul,Nat.one_mul]at h4;show w.cell? ⟨l.b,l.base+0*l.sz+i*sz+j,none⟩=_;exact cell?_row' hcell (by omega)
     ·have h3:=((hr i (by omega)).2.2 j hj).2;rw[hgd i (by omega),show l.base+0*l.sz+i*sz+j=l.base+i*sz+j by omega];exact h3.mono hm
    rw[htl]at this;exact this
  ·rw[show upd ts k (.isl (es.take m)) i=ts i by simp[upd,hik]];exact h1.mono hm
 obtain⟨L,ts',H',E2,w',tmps',D',todo',hQ,k1,k2,k3,k4,k5,k6⟩:=h hok E' w tmps hR hT' b0 D fs (hrd.mono hm);refine⟨L,ts',H',E2,w',tmps',D',todo',hQ,k1,⟨hm.trans k2.mono,k2.size,fun b hb hnl=>k2.same b hb (fun hl'=>hnl (hsub b hl').1),fun b hb=>?_,fun b hb=>?_,k2.os,k2.tape,k2.output⟩,k3,k4,k5,k6⟩
 ·rcases k2.newfro b hb with (h1 | h1) | h1 | h1
  ·exact .inl h1
  ·exact .inr (.inr (h1 ▸ hlv))
  ·exact .inr (.inl h1)
  ·exact .inr (.inr (hsub b h1).1)
 ·rcases k2.newlive b hb with h1 | h1
  ·exact .inl (hsub b h1).1
  ·exact .inr h1
end Go.Ab
namespace Go.Ab.Pd
open Go.Proofs
open Go.Proofs.Tryz renaming prog->zP
def Sta.moms(s:Sta):List Int:=s.now::s.slots.map Sl4.till
def Sta.momL(s:Sta):List Int:=zCz 0 (srt s.moms) (srt s.moms).length
theorem slot_now{s:Sta}(f:s.fine):∀ x∈s.slots,s.now<=x.fr/\s.now < x.till:=fun x hx=>by
 unfold Sta.slots at hx
 rcases List.mem_append.1 hx with hx | hx
 ·obtain⟨p,hp,rfl⟩:=List.mem_map.1 hx;have h:=(part_may f hp).1;exact⟨Int.le_refl _,by simp only; omega⟩
 ·obtain⟨k,hk,rfl⟩:=List.mem_map.1 hx;obtain⟨i,hi,rfl⟩:=List.getElem_of_mem hk;have h:=(keep_may f hi).1;rw[show s.keeps.getD i default=s.keeps[i] by simp[List.getD,hi]]at h;simp only;omega
theorem frz_ptr{n:Nat}{H:List AO}{id:Nat}{cs:List AV}(h:H[id]?=some (.cells cs))(hp:AV.purL cs=true):frz (n+2) H (.ptr id 0)=some (.iptr cs 0):=by
 unfold Go.Ab.frz;rw[if_neg (by simp[AV.pur])];simp only[h,zFo hp,Option.map_some]
theorem frz_fn1{n:Nat}{H:List AO}{f:FuncId}{a a':AV}(ha:a.pur=false)(h:frz (n+1) H a=some a'):frz (n+2) H (.fn f [] [a])=some (.fn f [] [a']):=by
 unfold Go.Ab.frz;rw[if_neg (by simp[AV.pur,AV.purL,ha])];simp only[mapO,h]
theorem e47:Ent zP 47 Tryz.f47 [] 1:=.mk Tryz.func47 rfl
theorem moments_pur{s:Sta}(h:s.good):Pur zP GG 47 [s.av] (.fn 86 [] [.iptr s.cel 0]):=by
 have hZ:=h.cell;obtain⟨⟨⟨a1,a2,a3⟩,b1,b2,b3⟩,⟨⟨c1,c2,c3⟩,d1,d2,d3⟩,⟨ee1,ee2,ee3⟩,⟨f1,f2,f3⟩,g1,g2,g3⟩:=h.cell;obtain⟨p1,p2,p3,p4,p5,p6,p7⟩:=h.purs;unfold Sta.cel;show Pur zP GG 47 [ST s.c.a s.c.b s.c.c s.c.boot s.c.free s.c.tries s.c.age s.cs s.now s.next s.js s.ps s.ks s.ds s.hs s.us] _;refine goQ e47 TOk.nil 0 ?_ (by simp[AV.purL,AV.pur,p1,p2,p3,p4,p5,p6,p7]);simp only[push_cast,seval,↓kw2,hZ];exact⟨_,rfl,3,frz_fn1 rfl (frz_ptr rfl (by simp[AV.pur,AV.purL,p1,p2,p3,p4,p5,p6,p7]))⟩
theorem e86:Ent zP 86 Tryz.f86 [] 2:=.mk Tryz.func86 rfl
theorem moments1_ac{s:Sta}(h:s.good)(hl:s.lim)(f:s.fine){id:Nat}{H:List AO}{K:AV->List AO->Prop}(hk:∀ H',(∀ j,j < H.length->H'[j]?=H[j]?)->H.length<=H'.length->afterL zP GG id K s.momL H') :
  AC zP GG 86 [.yld id,.iptr s.cel 0] H K:=by
 have hZ:=h.cell;obtain⟨⟨⟨a1,a2,a3⟩,b1,b2,b3⟩,⟨⟨c1,c2,c3⟩,d1,d2,d3⟩,⟨ee1,ee2,ee3⟩,⟨f1,f2,f3⟩,g1,g2,g3⟩:=h.cell;obtain⟨p1,p2,p3,p4,p5,p6,p7⟩:=h.purs;have hS:=slots_pur h hl f;have hsn:=slot_now f;have hll:=slots_len f;have hplen:=h.ps.len un28;rw[zM]at hplen;have hs:=frS_sl (s.slots.map Sl4.av);have hslen:=hs.len un151;rw[zM]at hslen;have hsidx:=fun(i:Nat) (hi:i < s.slots.length) (H:List AO)=>hs.idx (P:=zP) un151 sz154 (i:=(i:Int)) (by rw[zM]; omega) (by omega) H
 simp only[Sta.av]at hS
 generalize frS (s.slots.map Sl4.av)=S at *
 unfold Sta.cel;refine goE e86 TOk.nil 0 ?_;simp only[push_cast,seval,↓kw2,hZ];refine AC.pur hS ?_;refine goN ?_;simp only[push_cast,seval,↓kw2,hslen];refine FW.loopInv (fun m ts H'=>∃(i:Nat) (sl:AV),i+m=s.slots.length/\Own H' sl ((s.now::(s.slots.take i).map Sl4.till).map IA)/\(∀ j,zAw sl=some j->H.length<=j)/\(∀ j,j < H.length->H'[j]?=H[j]?)/\H.length<=H'.length/\ts 0=.yld id/\ts 1=.iptr [I s.c.a,I s.c.b,I s.c.c,I s.c.boot,I s.c.free,I s.c.tries,I s.c.age,s.cs,I s.now,I s.next,s.js,s.ps,s.ks,s.ds,s.hs,s.us] 0/\ts 3=sl/\ts 12=S/\ts 13=I (s.slots.length:Int)/\ts 14=I (i:Int)) s.slots.length
  ⟨0,.sl H.length 0 1 1,by omega,Own.row (es:=[I s.now]) (by rw[zAd]; rfl) (by simp),fun j hj=>(by cases hj; exact Nat.le_refl _),fun j hj=>zL hj,by simp,rfl,rfl,rfl,rfl,rfl,rfl⟩ ?_
 rintro m ih ts H1 ⟨i,sl,hi,hown,hid0,hold,hHl,t0,t1,t3,t12,t13,t14⟩
 refine FW.inLoop ?_
 by_cases hlt:i < s.slots.length
 ·have hd1:=natlt hlt;have hx:=hsidx i hlt;have hgy:=zAj Sl4.av s.slots default hlt;simp only[Int.toNat_natCast]at hx;rw[hgy]at hx;have htn:=take_next hlt;have hxn:=(hsn _ (slots_mem hlt)).2
  generalize s.slots.getD i default=x at hx htn hxn
  have hcx:=Sl4.cells x;have hbb:(0<=(i:Int)/\(i:Int) < ((s.slots.map Sl4.av).length:Int)):=⟨by omega,by rw[zM]; omega⟩;have hi1:=zAl (n:=(i:Int)+1) (by omega) (by omega);have hgt:decide (s.now < x.till)=true:=zT hxn;obtain⟨E,hE⟩:∃ E:List Int,E=s.now::(s.slots.take i).map Sl4.till:=⟨_,rfl⟩;have hEl:E.length<=2^10:=by rw[hE]; simp; omega
  have hE1:s.now::(s.slots.take (i+1)).map Sl4.till=E++[x.till]:=by rw[htn,hE]; simp
  rw[<- hE]at hown;have hO1:=hown.append [AO.cells [I x.own,I x.pl.x,I x.pl.y,I x.pl.z,I x.pl.p,I x.pl.q,I x.pl.r,B x.pl.s,B x.pl.t,B x.pl.u,I x.fr,I x.till]];have hap:=aApp1 (P:=zP) un30 un30 ze3 rfl by3 hO1 (IA x.till);have hC:=apC_of (n:=(E.map IA).length) (by':=8) (by rw[zM]; omega) (by decide);have hA:=apI (H:=H1++[AO.cells [I x.own,I x.pl.x,I x.pl.y,I x.pl.z,I x.pl.p,I x.pl.q,I x.pl.r,B x.pl.s,B x.pl.t,B x.pl.u,I x.fr,I x.till]]) (s:=sl) (es:=E) (v:=x.till);have hAg:∀ j,j < H.length->(apH (H1++[AO.cells [I x.own,I x.pl.x,I x.pl.y,I x.pl.z,I x.pl.p,I x.pl.q,I x.pl.r,B x.pl.s,B x.pl.t,B x.pl.u,I x.fr,I x.till]]) sl (E.map IA) (IA x.till))[j]?=H[j]?:=fun j hj=>by
   rw[apH_get (by simp; omega) (fun e=>by have:=hid0 _ e; omega),zL (by omega)];exact hold j hj
  have hAl:=apH_length (H:=H1++[AO.cells [I x.own,I x.pl.x,I x.pl.y,I x.pl.z,I x.pl.p,I x.pl.q,I x.pl.r,B x.pl.s,B x.pl.t,B x.pl.u,I x.fr,I x.till]]) (s:=sl) (es:=E.map IA) (v:=IA x.till);simp only[List.append_assoc,List.length_append,List.length_cons,List.length_nil,List.cons_append,List.nil_append]at hap hA hAl
  by_cases hpi:i < s.parts.length
  all_goals
   have hdp:decide ((i:Int) < (s.parts.length:Int))=decide (i < s.parts.length):=by simp
   simp only[hpi,decide_true,decide_false]at hdp;refine goN ?_;simp only[push_cast,seval,↓kw2,t0,t1,t3,t12,t13,t14,hd1,hx,hcx,zAd,getA,zAe,setA,zAb,hZ,hplen,hdp,hgt,hap,hi1];refine⟨hbb,hC,ih (m - 1) (by omega) _ _ ⟨i+1,_,by omega,by rw[hE1]; exact hA,?_,hAg,?_,t0,t1,rfl,t12,t13,rfl⟩⟩
   ·intro j hj
    cases hj;omega
   ·omega
 ·have hd1:=natge hlt;rw[List.take_of_length_le (by omega)]at hown;clear ih;refine goN ?_;simp only[push_cast,seval,↓kw2,t0,t1,t3,t12,t13,t14,hd1];refine Own.sort callable81 sorts81 hown (by simp) (by simp; omega) ?_
  intro H2 ho2 hk2
  have hml:s.moms.length<=2^10:=by unfold Sta.moms; simp; omega
  have hm0:0 < s.moms.length:=by unfold Sta.moms; simp
  have hsl:(srt s.moms).length=s.moms.length:=zCw _;have hown2:Own H2 sl ((srt s.moms).map IA):=ho2;have hL2:H.length<=H2.length:=by
   rcases Nat.lt_or_ge H2.length H.length with q | q
   ·have q1:=hk2 H2.length (fun e=>by have:=hid0 _ e; omega);rw[List.getElem?_eq_none (Nat.le_refl _),List.getElem?_eq_getElem (by omega)]at q1;cases q1
   ·exact q
  obtain⟨rid,hrid,hrow⟩:∃ rid,sl=.sl rid 0 (srt s.moms).length (srt s.moms).length/\H2[rid]?=some (.arr 1 ((srt s.moms).map IA)):=by
   generalize hL:(srt s.moms).map IA=L at hown2
   have hlen:L.length=(srt s.moms).length:=by rw[<- hL,zM]
   cases hown2 with
   | nil=>simp at hlen; omega
   | row h h0 =>
    rename_i rid;exact⟨rid,by rw[<- hlen],h⟩
  have hr0:=hid0 rid (by rw[hrid]; rfl);refine goN ?_;simp only[push_cast,seval,↓kw2,t0,t1,t3];rw[hrid];refine compactI hrow (by omega) (by omega) ?_
  intro H3 rs n cap hr3 hrl hn htk hcap hoth
  have hml2:n=s.momL.length:=hn;have htk2:rs.take n=s.momL.map IA:=htk;have hn0:0 < n:=by
   rw[hml2];have:s.now∈s.momL:=by
    unfold Sta.momL;rw[compL_mem 0 _ _ (Nat.le_refl _),List.take_length];exact srt_mem.2 (by unfold Sta.moms; simp)
   exact List.length_pos_of_mem this
  have hnl:n<=s.moms.length:=by
   rw[hml2];have:=compL_le 0 (srt s.moms) (srt s.moms).length;unfold Sta.momL;omega
  have lens:∀(id n cap:Nat),aLen zP 30 (.sl id 0 n cap)=some (n:Int):=fun _ _ _=>ls30 _ _ _ _
  refine goN ?_;simp only[push_cast,seval,↓kw2,t0,t1,lens];refine FW.freezeTmp (k:=42) (m:=n) (cap:=cap) hr3 hn0 (by omega) (by rw[htk2]; exact zAi IA _ (fun _=>rfl)) (by decide) (by simp[upd]) ?_;have hkeep:∀ j,j < H.length->(H3.set rid .dead)[j]?=H[j]?:=fun j hj=>by
   rw[zQ (by omega),hoth j (by omega),hk2 j (fun e=>by have:=hid0 _ e; omega)];exact hold j hj
  have hL3:H.length<=(H3.set rid .dead).length:=by
   rw[List.length_set];have:=zAc hr3;omega
  have hyl:=hk _ hkeep hL3;rw[htk2]
  generalize H3.set rid .dead=H4 at hyl ⊢
  refine FW.loopInv (fun m ts H'=>∃ i:Nat,i+m=n/\afterL zP GG id K (s.momL.drop i) H'/\ts 0=.yld id/\ts 42=.isl (s.momL.map IA)/\ts 43=I (n:Int)/\ts 44=I (i:Int)) n
   ⟨0,by omega,hyl,t0,by simp[upd],by simp[upd],by simp[upd]⟩ ?_
  have hidx:=fun(i:Nat) (hi:i < s.momL.length) (H:List AO)=>(show IsSl (.isl (s.momL.map IA)) (s.momL.map IA) from .inl rfl).idx (P:=zP) un30 sz3 (i:=(i:Int)) (by rw[zM]; omega) (by omega) H
  clear t0 t1 t3 t12 t13 t14 hd1 hi hyl hkeep hL3
  rintro m ih ts H5 ⟨i,hi,hyl,t0,t42,t43,t44⟩
  refine FW.inLoop ?_
  by_cases hlt:i < n
  ·have hd1:=natlt hlt;have hx:=hidx i (by omega);have hgy:=zAj IA s.momL 0 (show i < s.momL.length by omega);simp only[Int.toNat_natCast]at hx;rw[hgy]at hx;rw[zBa 0 (show i < s.momL.length by omega)]at hyl
   generalize s.momL.getD i 0=x at hx hyl
   have hi1:=zAl (n:=(i:Int)+1) (by omega) (by omega);have hbb:(0<=(i:Int)/\(i:Int) < ((s.momL.map IA).length:Int)):=⟨by omega,by rw[zM]; omega⟩;have hcx:(IA x).cells=[IA x]:=rfl;refine goN ?_;simp only[push_cast,seval,↓kw2,t0,t42,t43,t44,hd1,hx,hcx]
   first
    | refine⟨hbb,?_⟩
    | refine⟨⟨hbb,rfl⟩,?_⟩
   refine ACV.mono (callee:=.yld id) hyl ?_
   rintro v H6 ⟨hf,ht,q,rfl⟩
   cases q
   ·have hK:=hf rfl;refine goN ?_;simp only[push_cast,seval,↓kw2];exact⟨_,rfl,hK⟩
   ·have hn:=ht rfl;refine goN ?_;simp only[push_cast,seval,↓kw2,t44,hi1];exact ih (m - 1) (by omega) _ _ ⟨i+1,by omega,hn,t0,t42,t43,rfl⟩
  ·have hd1:=natge hlt;rw[List.drop_eq_nil_of_le (by omega)]at hyl;refine goN ?_;simp only[push_cast,seval,↓kw2,t0,t42,t43,t44,hd1];exact⟨_,rfl,hyl⟩
abbrev WA(id t:Int)(x:Plc):AV:=.agg [I id,I t,I x.x,I x.y,I x.z,I x.p,I x.q,I x.r,B x.s,B x.t,B x.u]
def Sta.freeP(s:Sta)(w:Wnt)(fr till:Int):List Plc:=(wholeL s.c.a s.c.b s.c.c w).filter (holdV s.c.a s.c.b s.c.c (s.busN fr till) (s.busL fr till))
def Sta.bestP(s:Sta)(w:Wnt)(fr till:Int):Plc:=minF s.c.a s.c.b s.c.c (scV s.c.a s.c.b s.c.c (s.busN fr till)) (s.freeP w fr till)
def Sta.scan(s:Sta)(w:Wnt)(wide:Int):List Int->Option (Int × Plc)
 | []=>none
 | t::l=>if 1099511627776 < t+wide then none else if s.freeP w t (t+wide)=[] then s.scan w wide l else some (t,s.bestP w t (t+wide))
def zPc:Plc:=⟨0,0,0,0,0,0,false,false,false⟩
def whenA(id:Int):Option (Int × Plc)->AV
 | none=>.tup [WA 0 0 zPc,I 9]
 | some (t,p)=>.tup [WA id t p,I 0]
structure WhB(s:Sta)(id:Int)(j:Jb)(GN GL:AV)(lo:AO)(H:List AO):Prop where
 w0:H[0]?=some (.cells [I s.c.a,I s.c.b,I s.c.c,I s.c.boot,I s.c.free,I s.c.tries,I s.c.age,s.cs,I s.now,I s.next,s.js,s.ps,s.ks,s.ds,s.hs,s.us])
 w1:H[1]?=some (.cells [I id])
 w2:H[2]?=some (.cells [I 0,I 0,I 0,I 0,I 0,I 0,I 0,I 0,B false,B false,B false])
 w3:H[3]?=some (.cells [I 0])
 w4:H[4]?=some (.cells [I s.c.a,I s.c.b,I s.c.c,GN,GL])
 w5:H[5]?=some (.cells [I j.id,I j.user,I j.cls,I j.w.p,I j.w.q,I j.w.r,B j.w.s,B j.w.t,B j.w.u,B j.w.v,I j.wall,I j.prio,B j.held,j.aft,.c (.int .u8 j.st),I j.came])
 w6:H[6]?=some lo
theorem moms_rng{s:Sta}(f:s.fine):∀ x∈s.momL,s.now<=x/\x<=1099511627776:=fun x hx=>by
 unfold Sta.momL at hx;rw[compL_mem 0 _ _ (Nat.le_refl _),List.take_length]at hx;have hm:=srt_mem.1 hx;have hc:=f.cf;unfold Sta.config at hc;simp only[zA,decide_eq_true_eq]at hc;unfold Sta.moms at hm
 rcases List.mem_cons.1 hm with rfl | hm
 ·omega
 ·obtain⟨y,hy,rfl⟩:=List.mem_map.1 hm;have h1:=(slot_now f y hy).2;have h2:=(slot_may f y hy).1;unfold Slt.may Sl4.slt at h2;simp only at h2;omega
theorem e17:Ent zP 17 Tryz.f17 [] 2:=.mk Tryz.func17 rfl
theorem when_pur{s:Sta}(h:s.good)(hl:s.lim)(f:s.fine){id:Int}(hf:¬findN s.jobs id < 0){j:Jb}(hj:s.jobs.getD (findN s.jobs id).toNat default=j)(hst:j.st=1) :
  Pur zP GG 17 [s.av,I id] (whenA id (s.scan j.w (s.c.boot+j.wall+s.c.free) s.momL)):=by
 have hY:=yard_pur h hl f;have hF:=zFc h.js hl.jl id;rw[if_neg hf,if_neg hf]at hF;obtain⟨z1,z2,z3⟩:=zEm hf;have hjm:j∈s.jobs:=by
  rw[<- hj,show s.jobs.getD (findN s.jobs id).toNat default=s.jobs[(findN s.jobs id).toNat] by simp[List.getD,z2]];exact List.getElem_mem z2
 have hjx:=h.js.1.idx (P:=zP) un27 sz50 (i:=findN s.jobs id) (by rw[zM]; omega) (by have:=hl.jl; omega);rw[zAj Jb.av s.jobs default z2,hj]at hjx;have hjg:j.good:=by rw[<- hj]; exact h.js.get _
 obtain⟨m1,m2,m3⟩:=IsSl.cell hjg;have hjc:=Jb.cells j;have hbj:(0<=findN s.jobs id/\findN s.jobs id < ((s.jobs.map Jb.av).length:Int)):=⟨by omega,by rw[zM]; omega⟩;obtain⟨jp,_,jw,_⟩:=Jb.chk_facts (tbl_chk (jobs_tbl f.jb) j hjm);have hM:=moments_pur h;have hZ:=h.cell;obtain⟨⟨⟨a1,a2,a3⟩,b1,b2,b3⟩,⟨⟨c1,c2,c3⟩,d1,d2,d3⟩,⟨ee1,ee2,ee3⟩,⟨f1,f2,f3⟩,g1,g2,g3⟩:=h.cell;obtain⟨p1,p2,p3,p4,p5,p6,p7⟩:=h.purs;obtain⟨k1,k2,k3⟩:=zBs (rowA s.nM s.calN);obtain⟨j1,j2,j3⟩:=zBs (rowA (3*s.nM) s.calL);have hdst:decide (j.st=1)=true:=zT hst;simp only[Sta.av]at hY hM
 generalize findN s.jobs id=at_ at *
 unfold Sta.yard ydA at hY
 generalize hGN:AV.isl (rowA s.nM s.calN)=GN at *
 generalize hGL:AV.isl (rowA (3*s.nM) s.calL)=GL at *
 show Pur zP GG 17 [ST s.c.a s.c.b s.c.c s.c.boot s.c.free s.c.tries s.c.age s.cs s.now s.next s.js s.ps s.ks s.ds s.hs s.us,I id] _;refine goQ e17 TOk.nil 0 ?_ (by simp[AV.purL,AV.pur,p1,p2,p3,p4,p5,p6,p7]);simp only[push_cast,seval,↓kw2,hZ];refine AC.pur hY ?_;refine goN ?_;simp only[push_cast,seval,↓kw2,hZ,k1,k2,k3,j1,j2,j3];refine AC.pur hF ?_;refine goN ?_;simp only[push_cast,seval,↓kw2,hZ,k1,k2,k3,j1,j2,j3,hjx,hjc,m1,m2,m3,hdst];refine⟨hbj,hbj,AC.pur hM ?_⟩;refine goN ?_;simp only[push_cast,seval,↓kw2];refine(?_:∀(ts:Nat->AV),ts 2=.ptr 0 0/\ts 3=.ptr 1 0/\ts 4=.ptr 2 0/\ts 5=.ptr 3 0/\ts 6=.ptr 4 0/\ts 9=.ptr 5 0/\ts 51=.fn 86 [] [.iptr s.cel 0]->FW zP GG none 99 _ ts _ _) _ ⟨rfl,rfl,rfl,rfl,rfl,rfl,rfl⟩
 rintro ts ⟨t2,t3,t4,t5,t6,t9,t51⟩
 refine FW.rangeFunc ?_;simp only[push_cast,seval,↓kw2,ACV,t51];refine moments1_ac h hl f ?_
 intro H1 hold hlen
 simp only[List.length_append,List.length_cons,List.length_nil]at hold hlen
 generalize hal:AO.loop _=lo at hold
 have hB:WhB s id j GN GL lo H1:=⟨(hold 0 (by omega)).trans rfl,(hold 1 (by omega)).trans rfl,(hold 2 (by omega)).trans rfl,(hold 3 (by omega)).trans rfl,(hold 4 (by omega)).trans rfl,(hold 5 (by omega)).trans rfl,(hold 6 (by omega)).trans rfl⟩;have hmr:=moms_rng f;have hd:=zFi f;have hmv:zAf s.c.a s.c.b s.c.c=s.c.a*s.c.b*s.c.c:=by rw[zAf,if_pos hd]
 have hnm:=nM_eq f;have hbk:=fun fr till=>bus_chk f fr till
 have hdw:dwchk s.c.a s.c.b s.c.c j.w.p j.w.q j.w.r=0:=dwchk_ok.2 ⟨hd,jw⟩;have hbz:=fun {fr till:Int} (hft:spC fr till=0)=>sbusy_pur h hl f hft
 have hbest:=fun fr till=>best_is (a:=s.c.a) (b:=s.c.b) (c:=s.c.c) j.w (xs:=s.busN fr till) (ys:=s.busL fr till) (hbk fr till).2.2.1 (hbk fr till).2.2.2.1 (by rw[hmv,<- hnm]; exact(hbk fr till).1) (by rw[hmv,<- hnm]; exact(hbk fr till).2.1) hdw
 have hcf:=f.cf;unfold Sta.config at hcf;simp only[zA,decide_eq_true_eq]at hcf;have hmay:=Cfg.chk_may hcf.1.1.1.1;unfold Cfg.may at hmay;unfold Jb.plain at jp;simp only[zA,witV_t]at hmay jp;obtain⟨⟨⟨⟨_,hbo⟩,hfr⟩,_⟩,_⟩:=hmay;have hwl:1<=j.wall/\j.wall<=1048576:=jp.1.1.1.1.2;have hnow:0<=s.now:=hcf.1.1.1.2;clear hcf jp hold hlen hY hF hM;simp only[Sta.av]at hbz;unfold Sta.yard ydA at hbz;rw[hGN,hGL]at hbz
 generalize hW:s.c.boot+j.wall+s.c.free=wide
 generalize hR:whenA id (s.scan j.w wide s.momL)=R
 refine(?_:∀(L:List Int) (H':List AO),(whenA id (s.scan j.w wide L)=R/\(∀ x∈L,s.now<=x/\x<=1099511627776)/\WhB s id j GN GL lo H')->afterL zP GG 6 _ L H') _ _ ⟨hR,hmr,hB⟩;clear hR hmr hB
 intro L
 induction L with
 | nil =>
  rintro H2 ⟨hR,_,w0,w1,w2,w3,w4,w5,w6⟩
  rw[<- hal]at w6;refine⟨_,w6,by simp,?_⟩;have s2:(H2.set 6 AO.dead)[2]?=_:=(zQ (by omega)).trans w2;have s3:(H2.set 6 AO.dead)[3]?=_:=(zQ (by omega)).trans w3
  generalize H2.set 6 AO.dead=H3 at s2 s3 ⊢
  have q2:=zS (v:=AO.cells [I 0,I 0,I 0,I 0,I 0,I 0,I 0,I 0,B false,B false,B false]) (zAc s2);have q3:∀ A,(H3.set 2 A)[3]?=_:=fun A=>(zQ (by omega)).trans s3
  have q4:∀ A C,((H3.set 2 A).set 3 C)[2]?=_:=fun A C=>(zQ (by omega)).trans (zS (zAc s2))
  have q5:∀ A C,((H3.set 2 A).set 3 C)[3]?=_:=fun A C=>zS (by rw[List.length_set]; exact zAc s3)
  refine goN ?_;simp only[push_cast,seval,↓kw2,t2,t3,t4,t5,t6,t9,s2,s3,q2,q3,q4,q5];exact⟨_,rfl,zAa rfl hR⟩
 | cons x L ih =>
  rintro H2 ⟨hR,hxm,hB⟩
  obtain⟨w0,w1,w2,w3,w4,w5,w6⟩:=hB;rw[<- hal]at w6;obtain⟨hx1,hx2⟩:=hxm x (by simp);refine AY.of_loop w6 rfl ?_;have hl6:=zAc w6;refine goN ?_;simp only[push_cast,seval,↓kw2,parTs];refine FW.beginRound w6 rfl ?_
  generalize hH3:H2.set 6 _=H3
  obtain⟨al2,hb2,hal2⟩:∃ al2,H3[6]?=some (.loop al2)/\AO.loop { al2 with st:=.ready,pending:=none }=lo:=⟨_,by rw[<- hH3,zS hl6],hal⟩;have hk:∀ j,j < 6->H3[j]?=H2[j]?:=fun j hj=>by rw[<- hH3,zQ (by omega)]
  have v0:=(hk 0 (by omega)).trans w0;have v1:=(hk 1 (by omega)).trans w1;have v2:=(hk 2 (by omega)).trans w2;have v3:=(hk 3 (by omega)).trans w3;have v4:=(hk 4 (by omega)).trans w4;have v5:=(hk 5 (by omega)).trans w5;have hl3:=zAc hb2;clear hH3 hk w6;have u1:=zAl (n:=x+s.c.boot) (by omega) (by omega);have u2:=zAl (n:=x+s.c.boot+j.wall) (by omega) (by omega);have u3:=zAl (n:=x+wide) (by omega) (by omega);have u4:x+s.c.boot+j.wall+s.c.free=x+wide:=by omega
  rw[Sta.scan]at hR
  by_cases htm:1099511627776 < x+wide
  ·rw[if_pos htm]at hR;have hdt:decide (1099511627776 < x+wide)=true:=zT htm;refine goN ?_;simp only[push_cast,seval,↓kw2,t2,t3,t4,t5,t6,t9,v0,v1,v2,v3,v4,v5,u1,u2,u3,u4,hdt,m1,m2,m3];refine⟨rfl,al2,hb2,⟨fun _=>?_,fun h0=>(by cases h0),_,rfl⟩⟩;refine⟨_,zS hl3,by simp[zCh],?_⟩;simp only[zCh,List.set_set];have s2:(H3.set 6 AO.dead)[2]?=_:=(zQ (by omega)).trans v2;have s3:(H3.set 6 AO.dead)[3]?=_:=(zQ (by omega)).trans v3
   generalize H3.set 6 AO.dead=H4 at s2 s3 ⊢
   have q2:=zS (v:=AO.cells [I 0,I 0,I 0,I 0,I 0,I 0,I 0,I 0,B false,B false,B false]) (zAc s2);have q3:∀ A,(H4.set 2 A)[3]?=_:=fun A=>(zQ (by omega)).trans s3
   have q4:∀ A C,((H4.set 2 A).set 3 C)[2]?=_:=fun A C=>(zQ (by omega)).trans (zS (zAc s2))
   have q5:∀ A C,((H4.set 2 A).set 3 C)[3]?=_:=fun A C=>zS (by rw[List.length_set]; exact zAc s3)
   refine goN ?_;simp only[push_cast,seval,↓kw2,t2,t3,t4,t5,t6,t9,s2,s3,q2,q3,q4,q5];exact⟨_,rfl,zAa rfl hR⟩
  ·rw[if_neg htm]at hR;have hdt:decide (1099511627776 < x+wide)=false:=zF htm;have hB1:=hbz (fr:=x) (till:=x+wide) (spC_0.2 ⟨by omega,by omega,by omega⟩);have hB2:=hbest x (x+wide);have r1:IsSet (.isl ((s.busN x (x+wide)).map U)):=.isl (zCo zEl _ _);have r2:IsSet (.isl ((s.busL x (x+wide)).map U)):=.isl (zCo zEl _ _);obtain⟨x1,x2,x3⟩:=r1.cell;obtain⟨y1,y2,y3⟩:=r2.cell
   generalize AV.isl ((s.busN x (x+wide)).map U)=R1 at *
   generalize AV.isl ((s.busL x (x+wide)).map U)=R2 at *
   change Pur zP GG 30 [.agg [I s.c.a,I s.c.b,I s.c.c],j.w.av,R1,R2] (.tup [(if s.freeP j.w x (x+wide)=[] then ⟨0,0,0,0,0,0,false,false,false⟩ else s.bestP j.w x (x+wide):Plc).av,I (if s.freeP j.w x (x+wide)=[] then 6 else 0)])at hB2
   have e1:∀ X,(H3++X)[1]?=_:=fun X=>(zL (zAc v1)).trans v1
   have e2:∀ X,(H3++X)[2]?=_:=fun X=>(zL (zAc v2)).trans v2
   have e3:∀ X,(H3++X)[3]?=_:=fun X=>(zL (zAc v3)).trans v3
   have q3:∀ X A,((H3++X).set 2 A)[3]?=_:=fun X A=>(zQ (by omega)).trans (e3 X)
   have e6:∀ X,(H3++X)[6]?=_:=fun X=>(zL (zAc hb2)).trans hb2
   have ej:∀ X j,j < 6->(H3++X)[j]?=H3[j]?:=fun X j hj=>zL (by omega)
   refine goN ?_;simp only[push_cast,seval,↓kw2,t2,t3,t4,t5,t6,t9,v0,v1,v2,v3,v4,v5,u1,u2,u3,u4,hdt,m1,m2,m3,hZ,k1,k2,k3,j1,j2,j3];refine AC.pur hB1 ?_
   by_cases he:s.freeP j.w x (x+wide)=[]
   ·rw[if_pos he]at hR;rw[if_pos he,if_pos he]at hB2;simp only[Plc.av,Wnt.av]at hB2;refine goN ?_;simp only[push_cast,seval,↓kw2,t2,t3,t4,t5,t6,t9,v0,v1,v2,v3,v4,v5,m1,m2,m3,x1,x2,x3,y1,y2,y3];refine AC.pur hB2 ?_;refine goN ?_;simp only[push_cast,seval,↓kw2,t2,t3,t4,t5,t6,t9,v0,v1,v2,v3,v4,v5,m1,m2,m3,x1,x2,x3,y1,y2,y3,zAd,getA,zAe,setA];refine⟨rfl,al2,e6 _,⟨fun h0=>(by cases h0),fun _=>?_,_,rfl⟩⟩;refine ih _ ⟨hR,fun y hy=>hxm y (List.mem_cons_of_mem _ hy),?_⟩;exact⟨(zQ (by omega)).trans ((ej _ 0 (by omega)).trans v0),(zQ (by omega)).trans ((ej _ 1 (by omega)).trans v1),(zQ (by omega)).trans ((ej _ 2 (by omega)).trans v2),(zQ (by omega)).trans ((ej _ 3 (by omega)).trans v3),
     (zQ (by omega)).trans ((ej _ 4 (by omega)).trans v4),(zQ (by omega)).trans ((ej _ 5 (by omega)).trans v5),by rw[zS (by simp; omega)]; exact congrArg some hal2⟩
   ·rw[if_neg he]at hR;rw[if_neg he,if_neg he]at hB2
    generalize s.bestP j.w x (x+wide)=p at hR hB2
    simp only[Plc.av,Wnt.av]at hB2;refine goN ?_;simp only[push_cast,seval,↓kw2,t2,t3,t4,t5,t6,t9,v0,v1,v2,v3,v4,v5,m1,m2,m3,x1,x2,x3,y1,y2,y3];refine AC.pur hB2 ?_;refine goN ?_;simp only[push_cast,seval,↓kw2,t2,t3,t4,t5,t6,t9,v0,v1,v2,v3,v4,v5,m1,m2,m3,x1,x2,x3,y1,y2,y3,zAd,getA,zAe,setA,e1,e2,e3,q3];refine⟨rfl,al2,(zQ (by omega)).trans ((zQ (by omega)).trans (e6 _)),⟨fun _=>?_,fun h0=>(by cases h0),_,rfl⟩⟩;refine⟨_,zS (by simp; omega),by simp[zCh],?_⟩;simp only[zCh,List.set_set];have l2:=zAc v2;have o2:∀ A C D,((((H3++[AO.cells [I p.x,I p.y,I p.z,I p.p,I p.q,I p.r,B p.s,B p.t,B p.u]]).set 2 A).set 3 C).set 6 D)[2]?=some A:=fun A C D=>(zQ (by omega)).trans ((zQ (by omega)).trans (zS (by simp; omega)))
    have o3:∀ A C D,((((H3++[AO.cells [I p.x,I p.y,I p.z,I p.p,I p.q,I p.r,B p.s,B p.t,B p.u]]).set 2 A).set 3 C).set 6 D)[3]?=some C:=fun A C D=>(zQ (by omega)).trans (zS (by simp; omega))
    refine goN ?_;simp only[push_cast,seval,↓kw2,t2,t3,t4,t5,t6,t9,o2,o3];exact⟨_,rfl,zAa rfl hR⟩
theorem when_bad{s:Sta}(h:s.good)(hl:s.lim)(f:s.okV=false)(id:Int):Pur zP GG 17 [s.av,I id] (.tup [WA 0 0 zPc,I 8]):=by
 have hC:=yard_bad h hl f;have hZ:=h.cell;obtain⟨⟨⟨a1,a2,a3⟩,b1,b2,b3⟩,⟨⟨c1,c2,c3⟩,d1,d2,d3⟩,⟨ee1,ee2,ee3⟩,⟨f1,f2,f3⟩,g1,g2,g3⟩:=h.cell;obtain⟨p1,p2,p3,p4,p5,p6,p7⟩:=h.purs;simp only[Sta.av]at hC;show Pur zP GG 17 [ST s.c.a s.c.b s.c.c s.c.boot s.c.free s.c.tries s.c.age s.cs s.now s.next s.js s.ps s.ks s.ds s.hs s.us,I id] _;refine goQ e17 TOk.nil 0 ?_ (by simp[AV.purL,AV.pur,p1,p2,p3,p4,p5,p6,p7]);simp only[push_cast,seval,↓kw2,hZ];refine AC.pur hC ?_;refine goN ?_;simp only[push_cast,seval,↓kw2];exact⟨_,rfl,zAa rfl rfl⟩
theorem when_none{s:Sta}(h:s.good)(hl:s.lim)(f:s.fine){id:Int}(hn:findN s.jobs id < 0\/¬(s.jobs.getD (findN s.jobs id).toNat default).st=1):Pur zP GG 17 [s.av,I id] (.tup [WA 0 0 zPc,I 6]):=by
 have hY:=yard_pur h hl f;have hF:=zFc h.js hl.jl id;have hZ:=h.cell;obtain⟨⟨⟨a1,a2,a3⟩,b1,b2,b3⟩,⟨⟨c1,c2,c3⟩,d1,d2,d3⟩,⟨ee1,ee2,ee3⟩,⟨f1,f2,f3⟩,g1,g2,g3⟩:=h.cell;obtain⟨p1,p2,p3,p4,p5,p6,p7⟩:=h.purs;obtain⟨k1,k2,k3⟩:=zBs (rowA s.nM s.calN);obtain⟨j1,j2,j3⟩:=zBs (rowA (3*s.nM) s.calL);simp only[Sta.av]at hY;unfold Sta.yard ydA at hY
 generalize AV.isl (rowA s.nM s.calN)=GN at *
 generalize AV.isl (rowA (3*s.nM) s.calL)=GL at *
 show Pur zP GG 17 [ST s.c.a s.c.b s.c.c s.c.boot s.c.free s.c.tries s.c.age s.cs s.now s.next s.js s.ps s.ks s.ds s.hs s.us,I id] _
 by_cases hf:findN s.jobs id < 0
 ·rw[if_pos hf,if_pos hf]at hF;refine goQ e17 TOk.nil 0 ?_ (by simp[AV.purL,AV.pur,p1,p2,p3,p4,p5,p6,p7]);simp only[push_cast,seval,↓kw2,hZ];refine AC.pur hY ?_;refine goN ?_;simp only[push_cast,seval,↓kw2,hZ,k1,k2,k3,j1,j2,j3];refine AC.pur hF ?_;refine goN ?_;simp only[push_cast,seval,↓kw2];exact⟨_,rfl,zAa rfl rfl⟩
 ·rw[if_neg hf,if_neg hf]at hF;have hst:¬(s.jobs.getD (findN s.jobs id).toNat default).st=1:=hn.resolve_left hf;obtain⟨z1,z2,z3⟩:=zEm hf;have hjx:=h.js.1.idx (P:=zP) un27 sz50 (i:=findN s.jobs id) (by rw[zM]; omega) (by have:=hl.jl; omega);rw[zAj Jb.av s.jobs default z2]at hjx;have hjg:(s.jobs.getD (findN s.jobs id).toNat default).good:=h.js.get _
  generalize s.jobs.getD (findN s.jobs id).toNat default=j at hjx hst hjg
  obtain⟨m1,m2,m3⟩:=IsSl.cell hjg;have hjc:=Jb.cells j;have hbj:(0<=findN s.jobs id/\findN s.jobs id < ((s.jobs.map Jb.av).length:Int)):=⟨by omega,by rw[zM]; omega⟩;have hdst:decide (j.st=1)=false:=zF hst
  generalize findN s.jobs id=at_ at *
  refine goQ e17 TOk.nil 0 ?_ (by simp[AV.purL,AV.pur,p1,p2,p3,p4,p5,p6,p7]);simp only[push_cast,seval,↓kw2,hZ];refine AC.pur hY ?_;refine goN ?_;simp only[push_cast,seval,↓kw2,hZ,k1,k2,k3,j1,j2,j3];refine AC.pur hF ?_;refine goN ?_;simp only[push_cast,seval,↓kw2,hZ,k1,k2,k3,j1,j2,j3,hjx,hjc,m1,m2,m3,hdst];refine⟨hbj,?_⟩;exact⟨_,rfl,zAa rfl rfl⟩
def Sta.clear(s:Sta)(p:Plc)(fr till:Int):Bool:=holdV s.c.a s.c.b s.c.c (s.busN fr till) (s.busL fr till) p
theorem momL_mem{s:Sta}{y:Int}:y∈s.momL ↔ y=s.now\/∃ x∈s.slots,x.till=y:=by
 unfold Sta.momL;rw[compL_mem 0 _ _ (Nat.le_refl _),List.take_length,srt_mem];unfold Sta.moms;rw[List.mem_cons,List.mem_map]
theorem srt_sorted(zs:List Int):(srt zs).Pairwise (fun x y=>x<=y):=by
 have h:=List.pairwise_mergeSort (le:=fun x y:Int=>decide (x<=y)) (fun a b c h1 h2=>by simp only[decide_eq_true_eq]at *; omega) (fun a b=>by simp only[Bool.or_eq_true,decide_eq_true_eq]; omega) zs;exact h.imp fun h=>of_decide_eq_true h
theorem momL_sorted(s:Sta):s.momL.Pairwise (fun x y=>x < y):=by
 unfold Sta.momL;refine(compL_sorted 0 (srt s.moms) (fun x y=>x < y) ?_ ?_ ?_ _ (Nat.le_refl _)).1
 ·intro i j hij hj h
  have hs:=List.pairwise_iff_getElem.1 (srt_sorted s.moms) i j (by omega) hj hij;simp only[List.getD,List.getElem?_eq_getElem hj,List.getElem?_eq_getElem (show i < (srt s.moms).length by omega),Option.getD_some]at h;omega
 ·intro x _ y _ h1 h2
  omega
 ·intro x _ y _ z _ h1 h2
  omega
theorem scan_some{s:Sta}{w:Wnt}{wide t:Int}{p:Plc}:∀ {L:List Int},s.scan w wide L=some (t,p)->t∈L/\t+wide<=1099511627776/\s.freeP w t (t+wide)≠[]/\p=s.bestP w t (t+wide)
 | [],h=>by cases h
 | x::L,h=>by
  unfold Sta.scan at h
  split at h
  ·cases h
  ·split at h
   ·obtain⟨h1,h2⟩:=scan_some h;exact⟨List.mem_cons_of_mem _ h1,h2⟩
   ·rename_i h1 h2;cases h;exact⟨by simp,by omega,h2,rfl⟩
def pLn:Prt:=⟨1,⟨0,0,0,2,1,1,false,false,false⟩,2,1,10⟩
theorem line_whole(x:Plc):x∈wholeL 4 1 1 wOne ↔ x∈plL 4 1 1 wOne:=by
 rw[whole_mem,rawL,show wOne.turns=[wOne] from rfl,List.mem_flatMap];simp
def Sta.wideV(s:Sta)(j:Jb):Int:=IntKind.i64.wrap (IntKind.i64.wrap (s.c.boot+j.wall)+s.c.free)
def Sta.wide(s:Sta)(j:Jb):Int:=s.c.boot+j.wall+s.c.free
theorem wide_fine{s:Sta}(f:s.fine){id:Int}(hf:¬findN s.jobs id < 0){j:Jb}(hj:s.jobs.getD (findN s.jobs id).toNat default=j):s.wideV j=s.wide j/\3<=s.wide j/\s.wide j<=3145728/\j∈s.jobs:=by
 obtain⟨z1,z2,z3⟩:=zEm hf;have hjm:j∈s.jobs:=by
  rw[<- hj,show s.jobs.getD (findN s.jobs id).toNat default=s.jobs[(findN s.jobs id).toNat] by simp[List.getD,z2]];exact List.getElem_mem z2
 obtain⟨jp,_,_,_⟩:=Jb.chk_facts (tbl_chk (jobs_tbl f.jb) j hjm);have hcf:=f.cf;unfold Sta.config at hcf;simp only[zA,decide_eq_true_eq]at hcf;have hmay:=Cfg.chk_may hcf.1.1.1.1;unfold Cfg.may at hmay;unfold Jb.plain at jp;simp only[zA,witV_t]at hmay jp;obtain⟨⟨⟨⟨_,hbo⟩,hfr⟩,_⟩,_⟩:=hmay;have hwl:1<=j.wall/\j.wall<=1048576:=jp.1.1.1.1.2;unfold Sta.wideV Sta.wide;rw[zAl (n:=s.c.boot+j.wall) (by omega) (by omega),zAl (by omega) (by omega)];exact⟨rfl,by omega,by omega,hjm⟩
theorem spE_of{s:Sta}{fr till:Int}(h1:s.now<=fr)(h2:fr < till)(h3:till<=1099511627776):s.spE fr till=false:=by
 unfold Sta.spE;simp only[Bool.or_eq_false_iff,decide_eq_false_iff_not];omega
end Go.Ab.Pd
