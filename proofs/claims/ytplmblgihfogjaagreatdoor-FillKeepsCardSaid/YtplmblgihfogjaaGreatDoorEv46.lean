/- A text of this claim. -/
import Derived.Test.YtplmblgihfogjaaGreatDoorEv45
set_option maxHeartbeats 40000000
set_option maxRecDepth 400000
set_option linter.all false
namespace Go.Ab.Pd
open Go.Proofs
abbrev WA(id t:Int)(x:Plc):AV:=.agg [I id,I t,I x.x,I x.y,I x.z,I x.p,I x.q,I x.r,B x.s,B x.t,B x.u]
def Sta.freeP(s:Sta)(w:Wnt)(fr till:Int):List Plc:=(wholeL s.c.a s.c.b s.c.c w).filter (holdV s.c.a s.c.b s.c.c (s.busN fr till) (s.busL fr till))
def Sta.bestP(s:Sta)(w:Wnt)(fr till:Int):Plc:=minF s.c.a s.c.b s.c.c (scV s.c.a s.c.b s.c.c (s.busN fr till)) (s.freeP w fr till)
def zPc:Plc:=⟨0,0,0,0,0,0,false,false,false⟩
def Sta.clear(s:Sta)(p:Plc)(fr till:Int):Bool:=holdV s.c.a s.c.b s.c.c (s.busN fr till) (s.busL fr till) p
theorem tak_bit{n:Nat}(h1:1<=n)(h2:n<=12288)(g:Nat->List Slt)(fr till:Int)(i:Nat):zAy (takN n g fr till) i=(decide (i < n)&&!zFm fr till (g i)):=by
 unfold takN;rw[zEb (by omega) (fun k hk=>thL_rng k hk),Bool.eq_iff_iff,decide_eq_true_iff,thL_mem];simp
theorem calN_hit{s:Sta}(f:s.fine){fr till:Int}(hft:fr < till)(i:Nat):zFm fr till (s.calN i)=true ↔ ∀ x∈s.slots,inN s.c.a s.c.b s.c.c x i=true->¬x.slt.hits fr till:=by
 have hok:=(slots_okG f s.slots.length (i+1)).1 i (by omega);rw[List.take_length]at hok;unfold Sta.calN;rw[free_iff hft hok.1]
 constructor
 ·intro h x hx hi
  exact h _ (calF_mem.2 ⟨x,hx,hi,rfl⟩)
 ·intro h y hy
  obtain⟨x,hx,hi,rfl⟩:=calF_mem.1 hy;exact h x hx hi
theorem calL_hit{s:Sta}(f:s.fine){fr till:Int}(hft:fr < till)(i:Nat):zFm fr till (s.calL i)=true ↔ ∀ x∈s.slots,inL s.c.a s.c.b s.c.c x i=true->¬x.slt.hits fr till:=by
 have hok:=(slots_okG f s.slots.length (i+1)).2 i (by omega);rw[List.take_length]at hok;unfold Sta.calL;rw[free_iff hft hok.1]
 constructor
 ·intro h x hx hi
  exact h _ (calF_mem.2 ⟨x,hx,hi,rfl⟩)
 ·intro h y hy
  obtain⟨x,hx,hi,rfl⟩:=calF_mem.1 hy;exact h x hx hi
theorem clear_iff{s:Sta}(f:s.fine){fr till:Int}(hft:fr < till){p:Plc}(hp:p.ok s.c.a s.c.b s.c.c):s.clear p fr till=true ↔
  ((∀ k∈zAo s.c.a s.c.b s.c.c p.x p.y p.z p.p p.q p.r,¬k∈s.down++s.shut)/\∀ k∈zBh s.c.a s.c.b s.c.c p.x p.y p.z p.p p.q p.r p.s p.t p.u,¬k∈s.cut)/\∀ x∈s.slots,x.slt.hits fr till->zEu s.c.a s.c.b s.c.c p x.pl=true:=by
 obtain⟨n1,n2⟩:=nM_rng f;have hn:=nM_eq f;obtain⟨_,_,_,_,bN,bL⟩:=bus_chk f fr till;obtain⟨dn,dc⟩:=down_in f;have tN:=fun i=>tak_bit n1 (by omega) s.calN fr till i
 have tL:=fun i=>tak_bit (n:=3*s.nM) (by omega) (by omega) s.calL fr till i
 have oN:∀ k∈zAo s.c.a s.c.b s.c.c p.x p.y p.z p.p p.q p.r,0<=k/\k < (s.nM:Int):=fun k hk=>by rw[hn]; exact(zDc hp.1 hp.2.1 hk).2
 have oL:∀ k∈zBh s.c.a s.c.b s.c.c p.x p.y p.z p.p p.q p.r p.s p.t p.u,0<=k/\k < 3*(s.nM:Int):=fun k hk=>by rw[hn]; exact zDx hp.1 hp.2.1 k hk
 have hN:∀ k∈zAo s.c.a s.c.b s.c.c p.x p.y p.z p.p p.q p.r,(zAy (s.busN fr till) k.toNat=false ↔ ¬k∈s.down++s.shut/\∀ x∈s.slots,x.slt.hits fr till->¬k∈zAo s.c.a s.c.b s.c.c x.pl.x x.pl.y x.pl.z x.pl.p x.pl.q x.pl.r):=fun k hk=>by
  obtain⟨k0,k1⟩:=oN k hk;have hkk:((k.toNat:Nat):Int)=k:=by omega
  rw[bN,Bool.or_eq_false_iff,tN,zT (by omega),Bool.true_and,Bool.not_eq_false',calN_hit f hft];unfold Sta.downW;rw[zEb (by omega) dn,hkk,decide_eq_false_iff_not]
  constructor
  ·rintro⟨h1,h2⟩
   exact⟨h2,fun x hx hh hm=>h1 x hx (by unfold inN; rw[hkk]; exact zT hm) hh⟩
  ·rintro⟨h1,h2⟩
   exact⟨fun x hx hi hh=>h2 x hx hh (by unfold inN at hi; rw[hkk]at hi; exact of_decide_eq_true hi),h1⟩
 have hL:∀ k∈zBh s.c.a s.c.b s.c.c p.x p.y p.z p.p p.q p.r p.s p.t p.u,(zAy (s.busL fr till) k.toNat=false ↔ ¬k∈s.cut/\∀ x∈s.slots,x.slt.hits fr till->¬k∈zBh s.c.a s.c.b s.c.c x.pl.x x.pl.y x.pl.z x.pl.p x.pl.q x.pl.r x.pl.s x.pl.t x.pl.u):=fun k hk=>by
  obtain⟨k0,k1⟩:=oL k hk;have hkk:((k.toNat:Nat):Int)=k:=by omega
  rw[bL,Bool.or_eq_false_iff,tL,zT (by omega),Bool.true_and,Bool.not_eq_false',calL_hit f hft];unfold Sta.cutW;rw[zEb (by omega) dc,hkk,decide_eq_false_iff_not]
  constructor
  ·rintro⟨h1,h2⟩
   exact⟨h2,fun x hx hh hm=>h1 x hx (by unfold inL; rw[hkk]; exact zT hm) hh⟩
  ·rintro⟨h1,h2⟩
   exact⟨fun x hx hi hh=>h2 x hx hh (by unfold inL at hi; rw[hkk]at hi; exact of_decide_eq_true hi),h1⟩
 unfold Sta.clear holdV;rw[zA,List.all_eq_true,List.all_eq_true]
 constructor
 ·rintro⟨h1,h2⟩
  have e1:=fun k hk=>(hN k hk).1 (by simpa using h1 k hk)
  have e2:=fun k hk=>(hL k hk).1 (by simpa using h2 k hk)
  refine⟨⟨fun k hk=>(e1 k hk).1,fun k hk=>(e2 k hk).1⟩,fun x hx hh=>apart_iff.2 ⟨fun k hk=>(e1 k hk).2 x hx hh,fun k hk=>(e2 k hk).2 x hx hh⟩⟩
 ·rintro⟨⟨h1,h2⟩,h3⟩
  refine⟨fun k hk=>?_,fun k hk=>?_⟩
  ·have:=(hN k hk).2 ⟨h1 k hk,fun x hx hh=>(apart_iff.1 (h3 x hx hh)).1 k hk⟩;simpa using this
  ·have:=(hL k hk).2 ⟨h2 k hk,fun x hx hh=>(apart_iff.1 (h3 x hx hh)).2 k hk⟩;simpa using this
def pLn:Prt:=⟨1,⟨0,0,0,2,1,1,false,false,false⟩,2,1,10⟩
theorem line_whole(x:Plc):x∈wholeL 4 1 1 wOne ↔ x∈plL 4 1 1 wOne:=by
 rw[whole_mem,rawL,show wOne.turns=[wOne] from rfl,List.mem_flatMap];simp
theorem clear_meet{s:Sta}(f:s.fine){fr till:Int}{p:Plc}(hp:p.ok s.c.a s.c.b s.c.c) :
  (!meetV (ownW s.c.a s.c.b s.c.c p.x p.y p.z p.p p.q p.r) (s.busN fr till)&&!meetV (zEx s.c.a s.c.b s.c.c p.x p.y p.z p.p p.q p.r p.s p.t p.u) (s.busL fr till))=s.clear p fr till:=by
 obtain⟨c1,c2,u1,u2,_,_⟩:=bus_chk f fr till;have hn:=nM_eq f;have hmv:zAf s.c.a s.c.b s.c.c=s.c.a*s.c.b*s.c.c:=by rw[zAf,if_pos (zFi f)]
 obtain⟨o1,o2⟩:=own_chk hp;rw[hmv,<- hn]at o1 o2;have v1:=zAt (zAf s.c.a s.c.b s.c.c) (srt (zAo s.c.a s.c.b s.c.c p.x p.y p.z p.p p.q p.r));have v2:=zAt (3*zAf s.c.a s.c.b s.c.c) (zBh s.c.a s.c.b s.c.c p.x p.y p.z p.p p.q p.r p.s p.t p.u);obtain⟨_,l1,_⟩:=(zBt u1).1 c1;obtain⟨_,l2,_⟩:=(zBt u2).1 c2;obtain⟨r1,l3,_⟩:=(zBt v1).1 o1;obtain⟨r2,l4,_⟩:=(zBt v2).1 o2;have b1:=own_bit hp;have b2:=link_bit hp;have m1:=meetV_bits v1 u1 (by omega) (by omega);have m2:=meetV_bits v2 u2 (by omega) (by omega);have oN:∀ k∈zAo s.c.a s.c.b s.c.c p.x p.y p.z p.p p.q p.r,0<=k:=fun k hk=>(zDc hp.1 hp.2.1 hk).2.1
 have oL:∀ k∈zBh s.c.a s.c.b s.c.c p.x p.y p.z p.p p.q p.r p.s p.t p.u,0<=k:=fun k hk=>(zDx hp.1 hp.2.1 k hk).1
 have e1:(meetV (ownW s.c.a s.c.b s.c.c p.x p.y p.z p.p p.q p.r) (s.busN fr till)=false) ↔ ∀ k∈zAo s.c.a s.c.b s.c.c p.x p.y p.z p.p p.q p.r,zAy (s.busN fr till) k.toNat=false:=by
  refine m1.trans ⟨fun h k hk=>?_,fun h m hm=>?_⟩
  ·cases hb:zAy (s.busN fr till) k.toNat
   ·rfl
   ·refine absurd ⟨?_,hb⟩ (h k.toNat);have:=b1 k.toNat;have h0:=oN k hk;rw[show((k.toNat:Nat):Int)=k by omega,zT hk]at this;exact this
  ·have h1:zAy (ownW s.c.a s.c.b s.c.c p.x p.y p.z p.p p.q p.r) m=true:=hm.1;rw[b1,decide_eq_true_iff]at h1;have:=h _ h1;rw[Int.toNat_natCast,hm.2]at this;cases this
 have e2:(meetV (zEx s.c.a s.c.b s.c.c p.x p.y p.z p.p p.q p.r p.s p.t p.u) (s.busL fr till)=false) ↔ ∀ k∈zBh s.c.a s.c.b s.c.c p.x p.y p.z p.p p.q p.r p.s p.t p.u,zAy (s.busL fr till) k.toNat=false:=by
  refine m2.trans ⟨fun h k hk=>?_,fun h m hm=>?_⟩
  ·cases hb:zAy (s.busL fr till) k.toNat
   ·rfl
   ·refine absurd ⟨?_,hb⟩ (h k.toNat);have:=b2 k.toNat;have h0:=oL k hk;rw[show((k.toNat:Nat):Int)=k by omega,zT hk]at this;exact this
  ·have h1:zAy (zEx s.c.a s.c.b s.c.c p.x p.y p.z p.p p.q p.r p.s p.t p.u) m=true:=hm.1;rw[b2,decide_eq_true_iff]at h1;have:=h _ h1;rw[Int.toNat_natCast,hm.2]at this;cases this
 unfold Sta.clear holdV;rw[Bool.eq_iff_iff,zA,Bool.not_eq_true',Bool.not_eq_true',e1,e2,zA,List.all_eq_true,List.all_eq_true];simp only[Bool.not_eq_true']
def Sta.wideV(s:Sta)(j:Jb):Int:=IntKind.i64.wrap (IntKind.i64.wrap (s.c.boot+j.wall)+s.c.free)
def Sta.wide(s:Sta)(j:Jb):Int:=s.c.boot+j.wall+s.c.free
theorem wide_fine{s:Sta}(f:s.fine){id:Int}(hf:¬findN s.jobs id < 0){j:Jb}(hj:s.jobs.getD (findN s.jobs id).toNat default=j):s.wideV j=s.wide j/\3<=s.wide j/\s.wide j<=3145728/\j∈s.jobs:=by
 obtain⟨z1,z2,z3⟩:=zEm hf;have hjm:j∈s.jobs:=by
  rw[<- hj,show s.jobs.getD (findN s.jobs id).toNat default=s.jobs[(findN s.jobs id).toNat] by simp[List.getD,z2]];exact List.getElem_mem z2
 obtain⟨jp,_,_,_⟩:=Jb.chk_facts (tbl_chk (jobs_tbl f.jb) j hjm);have hcf:=f.cf;unfold Sta.config at hcf;simp only[zA,decide_eq_true_eq]at hcf;have hmay:=Cfg.chk_may hcf.1.1.1.1;unfold Cfg.may at hmay;unfold Jb.plain at jp;simp only[zA,witV_t]at hmay jp;obtain⟨⟨⟨⟨_,hbo⟩,hfr⟩,_⟩,_⟩:=hmay;have hwl:1<=j.wall/\j.wall<=1048576:=jp.1.1.1.1.2;unfold Sta.wideV Sta.wide;rw[zAl (n:=s.c.boot+j.wall) (by omega) (by omega),zAl (by omega) (by omega)];exact⟨rfl,by omega,by omega,hjm⟩
theorem spE_of{s:Sta}{fr till:Int}(h1:s.now<=fr)(h2:fr < till)(h3:till<=1099511627776):s.spE fr till=false:=by
 unfold Sta.spE;simp only[Bool.or_eq_false_iff,decide_eq_false_iff_not];omega
theorem fine_now{s:Sta}(f:s.fine):0<=s.now/\s.now<=1099511627776:=by
 have hc:=f.cf;unfold Sta.config at hc;simp only[zA,decide_eq_true_eq]at hc;omega
theorem whole_is{s:Sta}(f:s.fine){w:Wnt}(hw:okW w.p w.q w.r){p:Plc}(h:p∈wholeL s.c.a s.c.b s.c.c w):isE s.c.a s.c.b s.c.c w p=0/\isV s.c.a s.c.b s.c.c w p=true:=by
 obtain⟨hok,hT⟩:=(wholeL_mem (zFi f)).1 h;have h0:isE s.c.a s.c.b s.c.c w p=0:=by
  rw[isE,if_pos (dwchk_ok.2 ⟨zFi f,hw⟩)];exact ok_pchk hok
 exact⟨h0,by rw[isV,if_pos h0]; exact hT⟩
theorem chkL_0{x:Cfg}:∀ {l:List Jb},(∀ j∈l,j.chk x=0)->chkL x l=0
 | [],_=>rfl
 | j::l,h=>by
  unfold chkL;rw[if_pos (h j (by simp))];exact chkL_0 fun k hk=>h k (List.mem_cons_of_mem _ hk)
theorem anyN_congr{f g:Nat->Bool}{n:Nat}(h:∀ i,i < n->f i=g i):anyN f n 0=anyN g n 0:=by
 rw[Bool.eq_iff_iff,anyN_iff,anyN_iff];exact⟨fun⟨i,a,b,c⟩=>⟨i,a,b,(h i (by omega)).symm.trans c⟩,fun⟨i,a,b,c⟩=>⟨i,a,b,(h i (by omega)).trans c⟩⟩
theorem ST_frz7{H:List AO}{a b c p q r t now next:Int}{cs js ps ks ds hs us cs' js' ps' ks' ds' hs' us':AV}(f1:frz 2 H cs=some cs')(f2:frz 2 H js=some js')(f3:frz 2 H ps=some ps')(f4:frz 2 H ks=some ks')(f5:frz 2 H ds=some ds')(f6:frz 2 H hs=some hs')(f7:frz 2 H us=some us') :
  frz 3 H (ST a b c p q r t cs now next js ps ks ds hs us)=some (ST a b c p q r t cs' now next js' ps' ks' ds' hs' us'):=by
 have hpu:∀ {a a':AV},a.pur=true->frz 2 H a=some a'->a'=a:=fun h e=>by rw[zDr h]at e; exact(Option.some.inj e).symm
 unfold Go.Ab.frz
 split
 ·rename_i hq;simp[AV.pur,AV.purL]at hq;obtain⟨h1,h2,h3,h4,h5,h6,h7⟩:=hq;rw[hpu h1 f1,hpu h2 f2,hpu h3 f3,hpu h4 f4,hpu h5 f5,hpu h6 f6,hpu h7 f7]
 ·simp only[mapO,f1,f2,f3,f4,f5,f6,f7,zDr (a:=I a) rfl,zDr (a:=I b) rfl,zDr (a:=I c) rfl,zDr (a:=I p) rfl,zDr (a:=I q) rfl,zDr (a:=I r) rfl,zDr (a:=I t) rfl,zDr (a:=I now) rfl,zDr (a:=I next) rfl];rfl
theorem ST_le7{a b c p q r t now next:Int}{cs js ps ks ds hs us rc rj rp rk rd rh ru:AV}(x1:cs.isCell=true)(x2:js.isCell=true)(x3:ds.isCell=true)(x4:hs.isCell=true)(x5:us.isCell=true)(x6:ps.isCell=true)(x7:ks.isCell=true)(h1:Le rc cs)(h2:Le rj js)(h3:Le rp ps)(h4:Le rk ks)(h5:Le rd ds)(h6:Le rh hs)(h7:Le ru us) :
  Le (ST a b c p q r t rc now next rj rp rk rd rh ru) (ST a b c p q r t cs now next js ps ks ds hs us):=by
 refine Le.agg rfl (fun i hi=>?_) fun i hi=>?_
 ·match i,hi with
  | 0,_ | 1,_ | 2,_ | 3,_ | 4,_ | 5,_ | 6,_ | 8,_ | 9,_=>rfl
  | 7,_ | 10,_ | 11,_ | 12,_ | 13,_ | 14,_ | 15,_=>assumption
  | n+16,hi=>exact absurd hi (by simp)
 ·match i,hi with
  | 0,_ | 1,_ | 2,_ | 3,_ | 4,_ | 5,_ | 6,_ | 8,_ | 9,_=>exact Le.refl _
  | 7,_=>exact h1
  | 10,_=>exact h2
  | 11,_=>exact h3
  | 12,_=>exact h4
  | 13,_=>exact h5
  | 14,_=>exact h6
  | 15,_=>exact h7
  | n+16,hi=>exact absurd hi (by simp)
theorem live_frz{s:Sta}(hg:s.good){H:List AO}{rc rj rp rk rd rh ru:AV}(o1:LiveS 4 H s.cs rc (s.c.cls.map Cls.av))(o2:LiveS 16 H s.js rj (s.jobs.map Jb.av))(o3:LiveS 13 H s.ps rp (s.parts.map Prt.av))(o4:LiveS 9 H s.ks rk (s.keeps.map Kep.av))(o5:LiveS 1 H s.ds rd (s.down.map IA))(o6:LiveS 1 H s.hs rh (s.shut.map IA))(o7:LiveS 1 H s.us ru (s.cut.map IA)) :
  ∃ x,frz 3 H (ST s.c.a s.c.b s.c.c s.c.boot s.c.free s.c.tries s.c.age rc s.now s.next rj rp rk rd rh ru)=some x/\x.pur=true/\Le x s.av:=by
 have hZ:=hg.cell;obtain⟨⟨⟨a1,a2,a3⟩,b1,b2,b3⟩,⟨⟨c1,c2,c3⟩,d1,d2,d3⟩,⟨e1,e2,e3⟩,⟨f1,f2,f3⟩,g1,g2,g3⟩:=hg.cell;obtain⟨_,q1,q2,q3,_⟩:=o1.froz (zAi Cls.av _ (fun _=>rfl));obtain⟨_,t1,t2,t3,_⟩:=o2.froz (purL_jobs hg.js.2);obtain⟨_,u1,u2,u3,_⟩:=o3.froz (zAi Prt.av _ (fun _=>rfl));obtain⟨_,v1,v2,v3,_⟩:=o4.froz (zAi Kep.av _ (fun _=>rfl));obtain⟨_,w1,w2,w3,_⟩:=o5.froz (zAi IA _ (fun _=>rfl));obtain⟨_,x1,x2,x3,_⟩:=o6.froz (zAi IA _ (fun _=>rfl));obtain⟨_,y1,y2,y3,_⟩:=o7.froz (zAi IA _ (fun _=>rfl));exact⟨_,ST_frz7 q1 t1 u1 v1 w1 x1 y1,by simp[AV.pur,AV.purL,q2,t2,u2,v2,w2,x2,y2],ST_le7 a1 b1 e1 f1 g1 c1 d1 q3 t3 u3 v3 w3 x3 y3⟩
theorem liveA_view{f:FuncId}{s:Sta}(hg:s.good){H:List AO}{rc rj rp rk rd rh ru:AV}(o1:LiveS 4 H s.cs rc (s.c.cls.map Cls.av))(o2:LiveS 16 H s.js rj (s.jobs.map Jb.av))(o3:LiveS 13 H s.ps rp (s.parts.map Prt.av))(o4:LiveS 9 H s.ks rk (s.keeps.map Kep.av))(o5:LiveS 1 H s.ds rd (s.down.map IA))(o6:LiveS 1 H s.hs rh (s.shut.map IA))(o7:LiveS 1 H s.us ru (s.cut.map IA))
  {rest:List AV} (hr:AV.purL rest=true) {v:AV} (hv:v.scal=true) (h:Pur Tryz.prog GG f (s.av::rest) v) {K:AV->List AO->Prop} (hK:K v H):AC Tryz.prog GG f (ST s.c.a s.c.b s.c.c s.c.boot s.c.free s.c.tries s.c.age rc s.now s.next rj rp rk rd rh ru::rest) H K:=by
 obtain⟨x,hf,hx,hle⟩:=live_frz hg o1 o2 o3 o4 o5 o6 o7;refine AC.view ggp (n:=3) (args':=x::rest) ?_ ?_ hv (Pur.args (args':=s.av::rest) rfl (fun i hi=>?_) h) hK
 ·rw[show ∀ a l,mapO (frz 3 H) (a::l)=(match frz 3 H a,mapO (frz 3 H) l with | some b,some m=>some (b::m) | _,_=>none) from fun _ _=>rfl,hf,zFo hr]
 ·simp only[AV.purL,zA];exact⟨hx,hr⟩
 ·cases i with
  | zero=>exact hle
  | succ i=>exact Le.refl _
theorem LiveS.row_of{k:Nat}{H:List AO}{s r:AV}{l:List AV}(h:LiveS k H s r l)(h0:0 < l.length):∃ di,r=.sl di 0 l.length l.length/\H[di]?=some (.arr k l):=by
 cases h with
 | nil=>simp at h0
 | zs=>simp at h0
 | row h _=>exact⟨_,rfl,h⟩
end Go.Ab.Pd
