/- A text of this claim. -/
import Derived.Test.YtplmblgihfogjaaGreatDoorEv45
set_option maxHeartbeats 40000000
set_option maxRecDepth 400000
set_option linter.all false
namespace Go.Ab.Pd
open Go.Proofs
abbrev WA(id t:Int)(x:Plc):AV:=.agg [I id,I t,I x.x,I x.y,I x.z,I x.p,I x.q,I x.r,B x.s,B x.t,B x.u]
def Sta.freeP(s:Sta)(w:Wnt)(fr till:Int):List Plc:=(wholeL s.c.a s.c.b s.c.c w).filter (holdV s.c.a s.c.b s.c.c (s.busN fr till) (s.busL fr till))
def Sta.bestP(s:Sta)(w:Wnt)(fr till:Int):Plc:=minF s.c.a s.c.b s.c.c (scV s.c.a s.c.b s.c.c (s.busN fr till)) (s.freeP w fr till)
def zPc:Plc:=⟨0,0,0,0,0,0,false,false,false⟩
def Sta.clear(s:Sta)(p:Plc)(fr till:Int):Bool:=holdV s.c.a s.c.b s.c.c (s.busN fr till) (s.busL fr till) p
def pLn:Prt:=⟨1,⟨0,0,0,2,1,1,false,false,false⟩,2,1,10⟩
theorem line_whole(x:Plc):x∈wholeL 4 1 1 wOne ↔ x∈plL 4 1 1 wOne:=by
 rw[whole_mem,rawL,show wOne.turns=[wOne] from rfl,List.mem_flatMap];simp
theorem spE_of{s:Sta}{fr till:Int}(h1:s.now<=fr)(h2:fr < till)(h3:till<=1099511627776):s.spE fr till=false:=by
 unfold Sta.spE;simp only[Bool.or_eq_false_iff,decide_eq_false_iff_not];omega
theorem chkL_0{x:Cfg}:∀ {l:List Jb},(∀ j∈l,j.chk x=0)->chkL x l=0
 | [],_=>rfl
 | j::l,h=>by
  unfold chkL;rw[if_pos (h j (by simp))];exact chkL_0 fun k hk=>h k (List.mem_cons_of_mem _ hk)
theorem anyN_congr{f g:Nat->Bool}{n:Nat}(h:∀ i,i < n->f i=g i):anyN f n 0=anyN g n 0:=by
 rw[Bool.eq_iff_iff,anyN_iff,anyN_iff];exact⟨fun⟨i,a,b,c⟩=>⟨i,a,b,(h i (by omega)).symm.trans c⟩,fun⟨i,a,b,c⟩=>⟨i,a,b,(h i (by omega)).trans c⟩⟩
theorem part_at{s:Sta}(h:s.partsV=true){i:Nat}(hi:i < s.parts.length):s.part (s.parts.getD i default)=true :=
 zFd h _ (by rw[show s.parts.getD i default=s.parts[i] by simp[List.getD,hi]]; exact List.getElem_mem hi)
theorem ST_frz7{H:List AO}{a b c p q r t now next:Int}{cs js ps ks ds hs us cs' js' ps' ks' ds' hs' us':AV}(f1:frz 2 H cs=some cs')(f2:frz 2 H js=some js')(f3:frz 2 H ps=some ps')(f4:frz 2 H ks=some ks')(f5:frz 2 H ds=some ds')(f6:frz 2 H hs=some hs')(f7:frz 2 H us=some us') :
  frz 3 H (ST a b c p q r t cs now next js ps ks ds hs us)=some (ST a b c p q r t cs' now next js' ps' ks' ds' hs' us'):=by
 have hpu:∀ {a a':AV},a.pur=true->frz 2 H a=some a'->a'=a:=fun h e=>by rw[zDr h]at e; exact(Option.some.inj e).symm
 unfold Go.Ab.frz
 split
 ·rename_i hq;simp[AV.pur,AV.purL]at hq;obtain⟨h1,h2,h3,h4,h5,h6,h7⟩:=hq;rw[hpu h1 f1,hpu h2 f2,hpu h3 f3,hpu h4 f4,hpu h5 f5,hpu h6 f6,hpu h7 f7]
 ·simp only[mapO,f1,f2,f3,f4,f5,f6,f7,zDr (a:=I a) rfl,zDr (a:=I b) rfl,zDr (a:=I c) rfl,zDr (a:=I p) rfl,zDr (a:=I q) rfl,zDr (a:=I r) rfl,zDr (a:=I t) rfl,zDr (a:=I now) rfl,zDr (a:=I next) rfl];rfl
theorem ST_le7{a b c p q r t now next:Int}{cs js ps ks ds hs us rc rj rp rk rd rh ru:AV}(x1:cs.isCell=true)(x2:js.isCell=true)(x3:ds.isCell=true)(x4:hs.isCell=true)(x5:us.isCell=true)(x6:ps.isCell=true)(x7:ks.isCell=true)(h1:Le rc cs)(h2:Le rj js)(h3:Le rp ps)(h4:Le rk ks)(h5:Le rd ds)(h6:Le rh hs)(h7:Le ru us) :
  Le (ST a b c p q r t rc now next rj rp rk rd rh ru) (ST a b c p q r t cs now next js ps ks ds hs us):=by
 refine Le.agg rfl (fun i hi=>?_) fun i hi=>?_
 ·match i,hi with
  | 0,_ | 1,_ | 2,_ | 3,_ | 4,_ | 5,_ | 6,_ | 8,_ | 9,_=>rfl
  | 7,_ | 10,_ | 11,_ | 12,_ | 13,_ | 14,_ | 15,_=>assumption
  | n+16,hi=>exact absurd hi (by simp)
 ·match i,hi with
  | 0,_ | 1,_ | 2,_ | 3,_ | 4,_ | 5,_ | 6,_ | 8,_ | 9,_=>exact Le.refl _
  | 7,_=>exact h1
  | 10,_=>exact h2
  | 11,_=>exact h3
  | 12,_=>exact h4
  | 13,_=>exact h5
  | 14,_=>exact h6
  | 15,_=>exact h7
  | n+16,hi=>exact absurd hi (by simp)
theorem live_frz{s:Sta}(hg:s.good){H:List AO}{rc rj rp rk rd rh ru:AV}(o1:LiveS 4 H s.cs rc (s.c.cls.map Cls.av))(o2:LiveS 16 H s.js rj (s.jobs.map Jb.av))(o3:LiveS 13 H s.ps rp (s.parts.map Prt.av))(o4:LiveS 9 H s.ks rk (s.keeps.map Kep.av))(o5:LiveS 1 H s.ds rd (s.down.map IA))(o6:LiveS 1 H s.hs rh (s.shut.map IA))(o7:LiveS 1 H s.us ru (s.cut.map IA)) :
  ∃ x,frz 3 H (ST s.c.a s.c.b s.c.c s.c.boot s.c.free s.c.tries s.c.age rc s.now s.next rj rp rk rd rh ru)=some x/\x.pur=true/\Le x s.av:=by
 have hZ:=hg.cell;obtain⟨⟨⟨a1,a2,a3⟩,b1,b2,b3⟩,⟨⟨c1,c2,c3⟩,d1,d2,d3⟩,⟨e1,e2,e3⟩,⟨f1,f2,f3⟩,g1,g2,g3⟩:=hg.cell;obtain⟨_,q1,q2,q3,_⟩:=o1.froz (zAi Cls.av _ (fun _=>rfl));obtain⟨_,t1,t2,t3,_⟩:=o2.froz (purL_jobs hg.js.2);obtain⟨_,u1,u2,u3,_⟩:=o3.froz (zAi Prt.av _ (fun _=>rfl));obtain⟨_,v1,v2,v3,_⟩:=o4.froz (zAi Kep.av _ (fun _=>rfl));obtain⟨_,w1,w2,w3,_⟩:=o5.froz (zAi IA _ (fun _=>rfl));obtain⟨_,x1,x2,x3,_⟩:=o6.froz (zAi IA _ (fun _=>rfl));obtain⟨_,y1,y2,y3,_⟩:=o7.froz (zAi IA _ (fun _=>rfl));exact⟨_,ST_frz7 q1 t1 u1 v1 w1 x1 y1,by simp[AV.pur,AV.purL,q2,t2,u2,v2,w2,x2,y2],ST_le7 a1 b1 e1 f1 g1 c1 d1 q3 t3 u3 v3 w3 x3 y3⟩
theorem liveA_view{f:FuncId}{s:Sta}(hg:s.good){H:List AO}{rc rj rp rk rd rh ru:AV}(o1:LiveS 4 H s.cs rc (s.c.cls.map Cls.av))(o2:LiveS 16 H s.js rj (s.jobs.map Jb.av))(o3:LiveS 13 H s.ps rp (s.parts.map Prt.av))(o4:LiveS 9 H s.ks rk (s.keeps.map Kep.av))(o5:LiveS 1 H s.ds rd (s.down.map IA))(o6:LiveS 1 H s.hs rh (s.shut.map IA))(o7:LiveS 1 H s.us ru (s.cut.map IA))
  {rest:List AV} (hr:AV.purL rest=true) {v:AV} (hv:v.scal=true) (h:Pur Tryz.prog GG f (s.av::rest) v) {K:AV->List AO->Prop} (hK:K v H):AC Tryz.prog GG f (ST s.c.a s.c.b s.c.c s.c.boot s.c.free s.c.tries s.c.age rc s.now s.next rj rp rk rd rh ru::rest) H K:=by
 obtain⟨x,hf,hx,hle⟩:=live_frz hg o1 o2 o3 o4 o5 o6 o7;refine AC.view ggp (n:=3) (args':=x::rest) ?_ ?_ hv (Pur.args (args':=s.av::rest) rfl (fun i hi=>?_) h) hK
 ·rw[show ∀ a l,mapO (frz 3 H) (a::l)=(match frz 3 H a,mapO (frz 3 H) l with | some b,some m=>some (b::m) | _,_=>none) from fun _ _=>rfl,hf,zFo hr]
 ·simp only[AV.purL,zA];exact⟨hx,hr⟩
 ·cases i with
  | zero=>exact hle
  | succ i=>exact Le.refl _
theorem LiveS.row_of{k:Nat}{H:List AO}{s r:AV}{l:List AV}(h:LiveS k H s r l)(h0:0 < l.length):∃ di,r=.sl di 0 l.length l.length/\H[di]?=some (.arr k l):=by
 cases h with
 | nil=>simp at h0
 | zs=>simp at h0
 | row h _=>exact⟨_,rfl,h⟩
end Go.Ab.Pd
