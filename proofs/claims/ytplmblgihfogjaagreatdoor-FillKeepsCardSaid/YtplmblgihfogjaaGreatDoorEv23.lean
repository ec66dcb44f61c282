/- A text of this claim. -/
import Derived.Test.YtplmblgihfogjaaGreatDoorEv22
set_option maxHeartbeats 40000000
set_option maxRecDepth 400000
set_option linter.all false
namespace Go.Ab
variable {P:Program} {G:Gl}
def Fresh(P:Program)(G:Gl)(f:FuncId)(args es:List AV):Prop:=∀(H:List AO) (K:AV->List AO->Prop),K (.sl H.length 0 es.length es.length) (H++[.arr 1 es])->AC P G f args H K
theorem Fresh.of_alone(hG:GPure G){f:FuncId}{args es:List AV}(hp:AV.purL args=true)(hes:AV.purL es=true)(hne:0 < es.length)(h:AC P G f args [] fun v0 H0=>Own H0 v0 es):Fresh P G f args es:=by
 intro H K hK
 refine⟨h.1,fun E w vargs hH hA cs=>?_⟩
 let E0:En:={ loc:=fun _=>none,fro:=E.fro }
 have hH0:RelH G w E0 []:=⟨fun id o ho=>by simp at ho,fun id id' o o' l l' ho=>by simp at ho,hH.frob,fun b hb hl=>by
  obtain⟨id,o,l,ho,_⟩:=hl;simp at ho,fun id l hl=>by simp[E0]at hl,fun g cs hg=>RepV.pure (E:=E) (E':=E0) (fun _ h=>h) (hH.gl g cs hg) (by simpa[AV.pur]using hG g cs hg)⟩
 obtain⟨v0,H0,E',w',r,fr,hown,g1,g2,g3,g4,g5,g6⟩:=h.2 E0 w vargs hH0 (RepL.pure (E:=E) (E':=E0) (fun _ h=>h) hA hp) cs;have hnl:∀ b,¬ Live [] E0 b:=by rintro b ⟨id,o,l,ho,_⟩; simp at ho
 cases hown with
 | nil=>simp at hne
 | row hid h0 =>
  rename_i id;cases g3 with
  | sl hloc k1 k2 k3 =>
   rename_i l ad cc
   let E2:En:={ loc:=fun j=>if j=H.length then some l else E.loc j,fro:=E'.fro }
   have hsame:∀ b,b < w.heap.size->w'.heap[b]?=w.heap[b]?:=fun b hb=>g2.same b hb (hnl b)
   have hlv:Live H0 E' l.b:=⟨id,_,l,hid,rfl,hloc,rfl⟩;have hnew:w.heap.size<=l.b:=by
    rcases g2.newlive l.b hlv with h1 | h1
    ·exact absurd h1 (hnl _)
    ·exact h1
   have hE2:∀ j lj,E.loc j=some lj->E2.loc j=some lj:=fun j lj hj=>by
    have:=hH.dom j lj hj;show(if j=H.length then some l else E.loc j)=some lj;rw[if_neg (by omega)]; exact hj
   have hE2':∀ j,j < H.length->E2.loc j=E.loc j:=fun j hj=>by
    show(if j=H.length then some l else E.loc j)=_;rw[if_neg (by omega)]
   have hE2n:E2.loc H.length=some l:=by show(if H.length=H.length then some l else _)=_; rw[if_pos rfl]
   have hf2:∀ b,E2.fro b->E.fro b\/w.heap.size<=b:=by
    intro b hb
    rcases g2.newfro b hb with h1 | h1 | h1
    ·exact .inl h1
    ·exact .inr h1
    ·exact absurd h1 (hnl b)
   have hm:Mono w E w' E2:=⟨fun b hb=>g2.mono.fro b hb,fun b hb=>by
    obtain⟨c,t,fz,hc⟩:=hH.frob b hb;exact hsame b (zBg hc),hE2,g2.mono.row⟩
   obtain⟨l',hl',hszl,c,t,hcell,hs,hr⟩:=g1.obj id _ hid rfl;rw[hloc]at hl'; cases hl';have hget:∀(j:Nat) (oj:AO),(H++[.arr 1 es])[j]?=some oj->(j < H.length/\H[j]?=some oj)\/(j=H.length/\oj=.arr 1 es):=by
    intro j oj hj
    rcases Nat.lt_trichotomy j H.length with h1 | h1 | h1
    ·rw[zL h1]at hj; exact .inl ⟨h1,hj⟩
    ·subst h1; simp at hj; exact .inr ⟨rfl,hj.symm⟩
    ·rw[List.getElem?_append_right (by omega)]at hj;simp[List.getElem?_eq_none (show([AO.arr 1 es]:List AO).length<=j - H.length by simp; omega)]at hj
   have hR:RelH G w' E2 (H++[.arr 1 es]):=by
    refine⟨fun j o ho hlv'=>?_,?_,fun b hb=>g1.frob b hb,fun b hb hl=>?_,fun j lj hj=>?_,fun g cs hg=>(hH.gl g cs hg).mono hm⟩
    ·rcases hget j o ho with ⟨h1,h2⟩ | ⟨h1,h2⟩
     ·obtain⟨lj,hlj,hrj⟩:=hH.obj j o h2 hlv';exact⟨lj,hE2 _ _ hlj,hrj.mono hm (hsame _ (Live.lt hH ⟨j,o,lj,h2,hlv',hlj,rfl⟩))⟩
     ·subst h1; subst h2;refine⟨l,hE2n,hszl,c,t,hcell,hs,fun i hi=>⟨(hr i hi).1,(hr i hi).2.1,fun q hq=>⟨((hr i hi).2.2 q hq).1,?_⟩⟩⟩;exact RepV.pure (E:=E') (E':=E2) (fun _ h=>h) ((hr i hi).2.2 q hq).2 (pur_cells (zDt hes i) q)
    ·intro j j' o1 o2 l1 l2 hH1 ho1 hH2 ho2 hl1 hl2 hb
     rcases hget j o1 hH1 with ⟨h1,h1'⟩ | ⟨h1,h1'⟩ <;> rcases hget j' o2 hH2 with ⟨h2,h2'⟩ | ⟨h2,h2'⟩
     ·rw[hE2' j h1]at hl1; rw[hE2' j' h2]at hl2;exact hH.inj j j' o1 o2 l1 l2 h1' ho1 h2' ho2 hl1 hl2 hb
     ·rw[hE2' j h1]at hl1; subst h2; rw[hE2n]at hl2; cases hl2;have:=Live.lt hH ⟨j,o1,l1,h1',ho1,hl1,rfl⟩;omega
     ·rw[hE2' j' h2]at hl2; subst h1; rw[hE2n]at hl1; cases hl1;have:=Live.lt hH ⟨j',o2,l2,h2',ho2,hl2,rfl⟩;omega
     ·omega
    ·obtain⟨j,o,lj,ho,hlv',hlj,rfl⟩:=hl
     rcases hget j o ho with ⟨h1,h2⟩ | ⟨h1,h2⟩
     ·rw[hE2' j h1]at hlj
      rcases hf2 _ hb with h3 | h3
      ·exact hH.sep _ h3 ⟨j,o,lj,h2,hlv',hlj,rfl⟩
      ·have:=Live.lt hH ⟨j,o,lj,h2,hlv',hlj,rfl⟩; omega
     ·subst h1; rw[hE2n]at hlj; cases hlj;exact g1.sep _ hb hlv
    ·rw[List.length_append]
     by_cases h1:j=H.length
     ·simp[h1]
     ·have h2:(if j=H.length then some l else E.loc j)=some lj:=hj;rw[if_neg h1]at h2;have:=hH.dom j lj h2;simp; omega
   refine⟨_,_,E2,w',_,fr,hK,hR,⟨hm,g2.size,fun b hb _=>hsame b hb,fun b hb=>(hf2 b hb).imp (fun h=>h) .inl,fun b hb=>?_,g2.os,g2.tape,g2.output⟩,.sl hE2n k1 k2 k3,g4,g5,g6⟩;obtain⟨j,o,lj,ho,hlv',hlj,rfl⟩:=hb
   rcases hget j o ho with ⟨h1,h2⟩ | ⟨h1,h2⟩
   ·rw[hE2' j h1]at hlj;exact .inl ⟨j,o,lj,h2,hlv',hlj,rfl⟩
   ·subst h1; rw[hE2n]at hlj; cases hlj;exact .inr hnew
def afterL(P:Program)(G:Gl)(id:Nat)(K:AV->List AO->Prop):List Int->List AO->Prop
 | [],H=>K (.tup []) H
 | x::l,H=>AY P G id [IA x] H fun v H1=>(v=.c (.bool false)->K (.tup []) H1)/\(v=.c (.bool true)->afterL P G id K l H1)/\∃ b,v=.c (.bool b)
theorem afterL_rounds{id:Nat}{K:AV->List AO->Prop}(I:List Int->List AO->Prop)(hend:∀ H,I [] H->K (.tup []) H)
  (hstep:∀ x l H,I (x::l) H->AY P G id [IA x] H fun v H1=>v=.c (.bool true)/\I l H1):∀ l H,I l H->afterL P G id K l H
 | [],H,h=>hend H h
 | x::l,H,h=>by
  refine ACV.mono (callee:=.yld id) (hstep x l H h) ?_
  intro v H1 hv
  exact⟨fun e=>(by rw[hv.1]at e; cases e),fun _=>afterL_rounds I hend hstep l H1 hv.2,true,hv.1⟩
end Go.Ab
namespace Go.Ab.Pd
open Go.Proofs
open Go.Proofs.Tryz renaming prog->zP
theorem at_range{a b c x y z:Int}(h:okD a b c)(hp:okP a b c x y z):atE a b c x y z=0/\0<=atV a b c x y z/\atV a b c x y z < a*b*c:=by
 have hb:=at_bound h hp;have hm:=zBx h;rw[atE,atV,if_pos h,if_pos hp,if_pos ⟨h,hp⟩];unfold okD at h;unfold okP at hp;have m1:a*y<=a*(b - 1):=Int.mul_le_mul_of_nonneg_left (by omega) (by omega);have m2:a*b*z<=a*b*(c - 1):=Int.mul_le_mul_of_nonneg_left (by omega) (by omega);rw[Int.mul_sub,Int.mul_one]at m1 m2;exact⟨rfl,by omega,by omega⟩
theorem stp_range{x n s:Int}(h1:0<=x)(h2:x < n):0<=stp x n s/\stp x n s < n:=by
 have h4:s.tmod n < n:=Int.tmod_lt_of_pos s (by omega);have h5:-n < s.tmod n:=Int.lt_tmod_of_pos s (by omega);unfold stp;rw[Int.tmod_eq_emod_of_nonneg (by omega)];exact⟨Int.emod_nonneg _ (by omega),Int.emod_lt_of_pos _ (by omega)⟩
theorem inM_ofE{a b c m:Int}(h:inM a b c m):ofE a b c m=0:=by rw[ofE,if_pos h.1,if_pos h.2]
theorem step_ok{a b c m k s:Int}(hk:0<=k/\k<=2)(hm:inM a b c m):stE a b c m k s=0/\0<=stV a b c m k s/\stV a b c m k s < a*b*c:=by
 have hb:=of_bounds hm;have he:=inM_ofE hm;unfold stE stV
 by_cases h0:k=0
 ·rw[if_pos h0,if_pos h0,stE0,stV0,if_pos he,if_pos he];have:=stp_range (x:=ofX a b c m) (n:=a) (s:=s) (by omega) (by omega);exact at_range hm.1 (by unfold okP; omega)
 ·rw[if_neg h0,if_neg h0]
  by_cases h1:k=1
  ·rw[if_pos h1,if_pos h1,stE1,stV1,if_pos he,if_pos he];have:=stp_range (x:=ofY a b c m) (n:=b) (s:=s) (by omega) (by omega);exact at_range hm.1 (by unfold okP; omega)
  ·rw[if_neg h1,if_neg h1,if_pos (by omega),if_pos (by omega),stE2,stV2,if_pos he,if_pos he];have:=stp_range (x:=ofZ a b c m) (n:=c) (s:=s) (by omega) (by omega);exact at_range hm.1 (by unfold okP; omega)
theorem ask_ok{a b c m k:Int}(hk:0<=k/\k<=2)(hm:inM a b c m):askE a b c k m=0:=by
 have hc:=chk_ok.2 hm.1;have:zAf a b c=a*b*c:=by rw[zAf,if_pos hm.1]
 rw[askE,if_pos hc,if_pos ⟨hk,hm.2.1,by rw[this]; exact hm.2.2⟩]
theorem link_ok{a b c m k:Int}(hk:0<=k/\k<=2)(hm:inM a b c m)(hn:¬dimV a b c k=1):linkE (dimV a b c k) a b c k m=0/\0<=linkV (dimV a b c k) a b c k m/\linkV (dimV a b c k) a b c k m < 3*(a*b*c):=by
 have ha:=ask_ok hk hm;have:zAf a b c=a*b*c:=by rw[zAf,if_pos hm.1]
 rw[linkE,linkV,if_pos ha,if_neg hn,if_pos ⟨ha,hn⟩,this];have h1:=hm.2;have hmu:=zBx hm.1;have h2:0<=k*(a*b*c):=Int.mul_nonneg (by omega) (by omega);have h3:k*(a*b*c)<=2*(a*b*c):=Int.mul_le_mul_of_nonneg_right (by omega) (by omega);exact⟨rfl,by omega,by omega⟩
def runV(a b c k m i:Int):Int:=linkV (dimV a b c k) a b c k (stV a b c m k i)
def runL(a b c k m many:Int):List Int:=upto (fun i=>[runV a b c k m i]) 0 many.toNat
theorem run_ok{a b c k m i:Int}(hk:0<=k/\k<=2)(hm:inM a b c m)(hn:¬dimV a b c k=1):linkE (dimV a b c k) a b c k (stV a b c m k i)=0/\0<=runV a b c k m i/\runV a b c k m i < 3*(a*b*c):=by
 have hs:=step_ok (s:=i) hk hm;exact link_ok hk ⟨hm.1,hs.2⟩ hn
theorem e172:Ent zP 172 Tryz.f172 [] 4:=.mk Tryz.func172 rfl
theorem on_pur(a b c k m n:Int):Pur zP GG 172 [.agg [I a,I b,I c],I k,I m,I n] (.fn 232 [] [.iptr [I n] 0,.iptr [I a,I b,I c] 0,.iptr [I m] 0,.iptr [I k] 0]):=by
 refine goQ e172 T17_ok 0 ?_;simp only[push_cast,seval,↓kw2];exact⟨_,rfl,3,rfl⟩
@[push_cast] def g172:List AV->Option (Prop × AV)
 | [.agg [(.c (.int .i64 a)),(.c (.int .i64 b)),(.c (.int .i64 c))],(.c (.int .i64 k)),(.c (.int .i64 m)),(.c (.int .i64 n))]=>some (True,.fn 232 [] [.iptr [I n] 0,.iptr [I a,I b,I c] 0,.iptr [I m] 0,.iptr [I k] 0])
 | _=>none
theorem g172_ok:∀ args p,g172 args=some p->p.1->Pur zP GG 172 args p.2:=by
 intro args p hp hc
 unfold g172 at hp
 split at hp
 ·cases hp;exact on_pur _ _ _ _ _ _
 ·cases hp
@[push_cast] def T18:Tab:=Tab.ext T17 172 g172
theorem zEv:TOk zP GG T18:=TOk.ext T17_ok g172_ok
theorem e232:Ent zP 232 Tryz.f232 [] 5:=.mk Tryz.func232 rfl
theorem on1{a b c k m n:Int}(hk:0<=k/\k<=2)(hm:inM a b c m)(hd:¬dimV a b c k=1)(hn0:0<=n)(hn1:n<=1000){id:Nat}{H:List AO}{K:AV->List AO->Prop}(h:afterL zP GG id K (runL a b c k m n) H) :
  AC zP GG 232 [.yld id,.iptr [I n] 0,.iptr [I a,I b,I c] 0,.iptr [I m] 0,.iptr [I k] 0] H K:=by
 refine goE e232 zEv 0 ?_;simp only[push_cast,seval,↓kw2];refine FW.loopInv (fun l ts H=>∃ i,i+(l:Int)=n/\0<=i/\afterL zP GG id K (upto (fun i=>[runV a b c k m i]) i l) H/\ts 0=.yld id/\ts 2=.iptr [I a,I b,I c] 0/\ts 3=.iptr [I m] 0/\ts 4=.iptr [I k] 0/\ts 11=I n/\ts 12=I i) n.toNat
  ⟨0,by omega,by omega,h,rfl,rfl,rfl,rfl,rfl,rfl⟩ ?_
 clear h
 rintro l ih ts H ⟨i,hi,hi0,h,t0,t2,t3,t4,t11,t12⟩
 refine FW.inLoop ?_;have he:=(run_ok (i:=i) hk hm hd).1;refine goW zEv [] 0 ?_;simp only[push_cast,seval,↓kw2,t0,t2,t3,t4,t11,t12,he];refine⟨fun hlt=>?_,fun hge=>?_⟩
 ·obtain⟨l,rfl⟩:∃ l',l=l'+1:=⟨l - 1,by omega⟩;refine ACV.mono (callee:=.yld id) h ?_
  rintro v H1 ⟨hf,ht,q,rfl⟩
  cases q
  ·have hK:=hf rfl;refine goW zEv [] 0 ?_;simp only[push_cast,seval,↓kw2];exact⟨_,rfl,hK⟩
  ·have hn:=ht rfl;refine goW zEv [] 0 ?_;simp only[push_cast,seval,↓kw2,t12];rw[zAl (n:=i+1) (by omega) (by omega)];exact ih l (by omega) _ _ ⟨i+1,by omega,by omega,hn,t0,t2,t3,t4,t11,rfl⟩
 ·have hl:l=0:=by omega
  subst hl;exact⟨_,rfl,h⟩
theorem e273:Ent zP 273 Tryz.f273 [] 2:=.mk Tryz.func273 rfl
theorem appendSeq_fresh{g:Nat}{caps:List AV}{l:List Int}(h0:0 < l.length)(hl:l.length<=2^16)(hp:AV.purL caps=true)(hf:∀(id:Nat) (H:List AO) (K:AV->List AO->Prop),afterL zP GG id K l H->AC zP GG g (.yld id::caps) H K) :
  Fresh zP GG 273 [.c (.slice none 0 0),.fn g [] caps] (l.map IA):=by
 refine Fresh.of_alone ggp (by simp[AV.purL,AV.pur,hp]) (zAi IA _ (fun _=>rfl)) (by simpa using h0) ?_;refine goE e273 zEv 0 ?_;simp only[push_cast,seval,↓kw2];refine FW.rangeFunc ?_;simp only[push_cast,seval,↓kw2,ACV];refine hf _ _ _ ?_
 generalize hal:AO.loop _=lo
 refine afterL_rounds (fun l' H=>∃ es s,es++l'=l/\H[1]?=some lo/\H[0]?=some (.cells [s])/\Own H s (es.map IA)/\zAw s≠some 0/\zAw s≠some 1) ?_ ?_ _ _ ⟨[],_,rfl,rfl,rfl,.nil,by simp[zAw],by simp[zAw]⟩
 ·rintro H ⟨es,s,hes,h1,hc,hown,hs0,hs1⟩
  rw[<- hal]at h1;refine⟨_,h1,by simp,?_⟩;have hl0:=zAc hc;have hc2:(H.set 1 .dead)[0]?=some (.cells [s]):=(zQ (by omega)).trans hc;refine goW zEv [] 0 ?_;simp only[push_cast,seval,↓kw2,hc2];rw[List.append_nil]at hes;subst hes;exact⟨_,rfl,hown.keep fun j hj=>zQ (fun e=>hs1 (by rw[hj,e]))⟩
 ·rintro x l' H ⟨es,s,hes,h1,hc,hown,hs0,hs1⟩
  rw[<- hal]at h1;refine AY.of_loop h1 rfl ?_;have hl1:=zAc h1;refine goW zEv [] 0 ?_;simp only[push_cast,seval,↓kw2,parTs];refine FW.beginRound h1 rfl ?_
  generalize hH2:H.set 1 _=H2
  have hlen:H2.length=H.length:=by rw[<- hH2,List.length_set]
  obtain⟨al2,hb,hal2⟩:∃ al2,H2[1]?=some (.loop al2)/\AO.loop { al2 with st:=.ready,pending:=none }=lo:=⟨_,by rw[<- hH2,zS hl1],hal⟩;have hk:∀ j,j≠1->H2[j]?=H[j]?:=fun j hj=>by rw[<- hH2,zQ (fun e=>hj e.symm)]
  have hc2:H2[0]?=some (.cells [s]):=(hk 0 (by decide)).trans hc;have hown2:Own H2 s (es.map IA):=hown.keep fun j hj=>hk j (fun e=>hs1 (by rw[hj,e]))
  have hap:=fun v=>aApp1 (P:=zP) un30 un30 ze3 rfl by3 hown2 v
  have h30:(apH H2 s (es.map IA) (I x))[0]?=some (.cells [s]):=(apH_get (by omega) hs0).trans hc2;have h31:(apH H2 s (es.map IA) (I x))[1]?=some (.loop al2):=(apH_get (by omega) hs1).trans hb;have hel:=zCx hes;clear h1 hH2;refine goW zEv [] 0 ?_;simp only[push_cast,seval,↓kw2,hc2,hap,h30];have hLen3:=apH_length (H:=H2) (s:=s) (es:=es.map IA) (v:=I x)
  generalize hH3:apH H2 s (es.map IA) (I x)=H3 at *
  have hown3:Own H3 (.sl (H2.length+1) 0 ((es.map IA).length+1) ((es.map IA).length+1)) ((es++[x]).map IA):=by rw[<- hH3]; exact apI
  have hg:∀(A B:AO) (j:Nat),j≠0->j≠1->((H3.set 0 A).set 1 B)[j]?=H3[j]?:=fun A B j h0 h1=>by rw[zQ (fun e=>h1 e.symm),zQ (fun e=>h0 e.symm)]
  refine⟨apC_of (by rw[zM]; omega) (by decide),rfl,al2,(zQ (by decide)).trans h31,rfl,es++[x],_,by rw[<- hes]; simp,?_,?_,hown3.keep fun j hj=>hg _ _ _ ?_ ?_,ownNe (by omega),ownNe (by omega)⟩
  ·rw[zS (by rw[List.length_set]; omega)]; exact congrArg some hal2
  ·rw[zQ (by decide),zS (by omega)]
  ·cases hj; omega
  ·cases hj; omega
theorem e231:Ent zP 231 Tryz.f231 [] 1:=.mk Tryz.func231 rfl
theorem collect_fresh{g:Nat}{caps:List AV}{l:List Int}(h0:0 < l.length)(hl:l.length<=2^16)(hp:AV.purL caps=true)(hf:∀(id:Nat) (H:List AO) (K:AV->List AO->Prop),afterL zP GG id K l H->AC zP GG g (.yld id::caps) H K) :
  Fresh zP GG 231 [.fn g [] caps] (l.map IA):=by
 refine Fresh.of_alone ggp (by simp[AV.purL,AV.pur,hp]) (zAi IA _ (fun _=>rfl)) (by simpa using h0) ?_;refine goE e231 zEv 0 ?_;simp only[push_cast,seval,↓kw2];refine appendSeq_fresh h0 hl hp hf _ _ ?_;refine goW zEv [] 0 ?_;simp only[push_cast,seval,↓kw2];exact⟨_,rfl,Own.row rfl (by simpa using h0)⟩
theorem e171:Ent zP 171 Tryz.f171 [] 1:=.mk Tryz.func171 rfl
theorem sorted_pur{g:Nat}{caps:List AV}{l:List Int}(h0:0 < l.length)(hl:l.length<=2^16)(hp:AV.purL caps=true)(hf:∀(id:Nat) (H:List AO) (K:AV->List AO->Prop),afterL zP GG id K l H->AC zP GG g (.yld id::caps) H K) :
  Pur zP GG 171 [.fn g [] caps] (frS ((srt l).map IA)):=by
 refine goQ e171 zEv 0 ?_ (by simp[AV.purL,AV.pur,hp]);simp only[push_cast,seval,↓kw2];refine collect_fresh h0 hl hp hf _ _ ?_;refine goW zEv [] 0 ?_;simp only[push_cast,seval,↓kw2];refine Own.sort callable81 sorts81 (.row rfl (by simpa using h0)) h0 (by omega) ?_
 intro H' hown' _
 refine goW zEv [] 0 ?_;simp only[push_cast,seval,↓kw2];exact⟨_,rfl,hown'.done (zAi IA _ (fun _=>rfl))⟩
def runN(d s:Int)(t:Bool):Int:=if t=true then d else s - 1
def runLs(a b c k m s:Int)(t:Bool):List Int:=if s=1 then [] else srt (runL a b c k m (runN (dimV a b c k) s t))
theorem e103:Ent zP 103 Tryz.f103 [] 5:=.mk Tryz.func103 rfl
theorem run_pur(a b c k m s:Int)(t:Bool)(hp:inM a b c m/\(0<=k/\k<=2)/\1<=s/\s<=dimV a b c k):Pur zP GG 103 [.agg [I a,I b,I c],I k,I m,I s,B t] (.tup [frS ((runLs a b c k m s t).map IA),I 0]):=by
 obtain⟨hm,hk,hs1,hs2⟩:=hp;have hd:=hm.1;unfold okD at hd;have he:=ask_ok hk hm;have hdm:dimV a b c k<=16:=by unfold dimV; split <;> (try split) <;> omega
 have hrun:∀ n,0 < n->n<=16->¬dimV a b c k=1->Pur zP GG 171 [.fn 232 [] [.iptr [I n] 0,.iptr [I a,I b,I c] 0,.iptr [I m] 0,.iptr [I k] 0]] (frS ((srt (runL a b c k m n)).map IA)):=fun n h1 h2 h3=>by
  have hl:(runL a b c k m n).length=n.toNat:=by unfold runL; rw[zEa _ 1 _ _ (fun _ _ _=>rfl),Nat.mul_one]
  exact sorted_pur (by omega) (by omega) rfl (fun id H K h=>on1 hk hm h3 (by omega) (by omega) h)
 have hk0:k=k:=rfl;have hw:∀ q:Int,1<=q->q<=16->IntKind.i64.wrap (IntKind.i64.wrap (q+1) - 1)=q:=fun q h1 h2=>by
  rw[zAl (n:=q+1) (by omega) (by omega),zAl (by omega) (by omega)]; omega
 have hkk:k=0\/k=1\/k=2:=by omega
 rcases hkk with rfl | rfl | rfl
 all_goals
  have e0:dimV a b c 0=a:=rfl;have e1:dimV a b c 1=b:=rfl;have e2:dimV a b c 2=c:=rfl;simp only[e0,e1,e2]at hs2 hdm hrun ⊢;clear hk0;have hk0:=hk;refine goQ e103 zEv 0 ?_;simp only[push_cast,seval,↓kw2,hk0,he,zDz];refine⟨fun h=>absurd h (by omega),fun _=>⟨fun h=>absurd (of_decide_eq_true h) (by omega),fun _=>⟨fun h=>?_,fun h=>⟨fun ht=>?_,fun ht=>?_⟩⟩⟩⟩
  ·exact⟨_,rfl,zAa rfl (by rw[runLs,if_pos (of_decide_eq_true h)]; rfl)⟩
  ·have hs:=of_decide_eq_false h;rw[hw _ (by omega) (by omega)];refine hrun _ (by omega) (by omega) (by omega) _ _ ?_;refine goW zEv [] 0 ?_;simp only[push_cast,seval,↓kw2,hk0,he,zDz];exact⟨_,rfl,zAa (by simp only[AV.pur,AV.purL,frS_pur (zAi IA _ (fun _=>rfl))]; rfl) (by rw[runLs,if_neg hs,runN,if_pos ht]; rfl)⟩
  ·have hs:=of_decide_eq_false h;rw[zAl (n:=s - 1) (by omega) (by omega)];refine hrun _ (by omega) (by omega) (by omega) _ _ ?_;refine goW zEv [] 0 ?_;simp only[push_cast,seval,↓kw2,hk0,he,zDz];exact⟨_,rfl,zAa (by simp only[AV.pur,AV.purL,frS_pur (zAi IA _ (fun _=>rfl))]; rfl) (by rw[runLs,if_neg hs,runN,if_neg (by simp[ht])])⟩
@[push_cast] def g103:List AV->Option (Prop × AV)
 | [.agg [(.c (.int .i64 a)),(.c (.int .i64 b)),(.c (.int .i64 c))],(.c (.int .i64 k)),(.c (.int .i64 m)),(.c (.int .i64 s)),(.c (.bool t))]=>some (inM a b c m/\(0<=k/\k<=2)/\1<=s/\s<=dimV a b c k,.tup [frS ((runLs a b c k m s t).map IA),I 0])
 | _=>none
theorem g103_ok:∀ args p,g103 args=some p->p.1->Pur zP GG 103 args p.2:=by
 intro args p hp hc
 unfold g103 at hp
 split at hp
 ·cases hp;exact run_pur _ _ _ _ _ _ _ hc
 ·cases hp
@[push_cast] def T19:Tab:=Tab.ext T18 103 g103
theorem T19_ok:TOk zP GG T19:=TOk.ext zEv g103_ok
theorem eqBox(x y z p q r x' y' z' p' q' r':Int):aEqS zP 34 (.agg [I x,I y,I z,I p,I q,I r]) (.agg [I x',I y',I z',I p',I q',I r']) =
  some ((x==x'&&(y==y'&&(z==z'&&true)))&&((p==p'&&(q==q'&&(r==r'&&true)))&&true)):=by kernel_rfl
theorem eqBox'(x y z p q r x' y' z' p' q' r':Int):aEqS zP 34 (.agg [I x,I y,I z,I p,I q,I r]) (.agg [I x',I y',I z',I p',I q',I r']) =
  some (decide (x=x'/\y=y'/\z=z'/\p=p'/\q=q'/\r=r')):=by
 rw[eqBox,Option.some.injEq,Bool.eq_iff_iff];simp[and_assoc]
theorem ckB0{a b c x y z p q r:Int}(h:ckB a b c x y z p q r=0):okD a b c/\okB a b c x y z p q r:=by
 unfold ckB at h
 split at h
 ·split at h
  ·exact⟨by assumption,by assumption⟩
  ·omega
 ·omega
theorem can_iff{n s x:Int}:can 0 n s x=x ↔ (s=n->x=0):=by
 unfold can;rw[if_pos rfl]
 split
 ·exact⟨fun h _=>h.symm,fun h=>(h (by assumption)).symm⟩
 ·exact⟨fun _ h=>absurd h (by assumption),fun _=>rfl⟩
theorem cas_z{s:Int}:cas 0 s=s:=rfl
def okPl(a b c x y z p q r:Int)(s t u:Bool):Prop:=okD a b c/\okB a b c x y z p q r/\(s=true->¬p=1)/\(t=true->¬q=1)/\(u=true->¬r=1)/\(p=a->x=0)/\(q=b->y=0)/\(r=c->z=0)
instance (a b c x y z p q r:Int) (s t u:Bool):Decidable (okPl a b c x y z p q r s t u):=by unfold okPl; infer_instance
def pchk(a b c x y z p q r:Int)(s t u:Bool):Int:=if ckB a b c x y z p q r=0 then (if okPl a b c x y z p q r s t u then 0 else 2) else ckB a b c x y z p q r
theorem e55:Ent zP 55 Tryz.f55 [] 2:=.mk Tryz.func55 rfl
theorem pcheck_pur(a b c x y z p q r:Int)(s t u:Bool):Pur zP GG 55 [.agg [I a,I b,I c],.agg [I x,I y,I z,I p,I q,I r,B s,B t,B u]] (I (pchk a b c x y z p q r s t u)):=by
 by_cases hc:ckB a b c x y z p q r=0
 ·have hcc:=ckB0 hc;cases s <;> cases t <;> cases u
  all_goals
   refine goQ e55 T19_ok 5 ?_;simp only[push_cast,seval,↓kw2,eqBox',zAn,zDz,hc];simp only[Bool.not_eq_true',Bool.not_eq_false',decide_eq_true_eq,decide_eq_false_iff_not,can_iff,cas_z,eq_self,and_true]
   repeat' (first | apply And.intro | intro _)
   all_goals
    refine⟨_,rfl,zAa rfl ?_⟩;rw[pchk,if_pos hc]
    first
     | (rw[if_pos (by
       refine⟨hcc.1,hcc.2,?_,?_,?_,?_,?_,?_⟩
       all_goals (intro hh; first | omega | cases hh))]; done)
     | rw[if_neg (fun hq=>by
       obtain⟨_,_,k1,k2,k3,k4,k5,k6⟩:=hq
       first | exact k1 rfl (by assumption) | exact k2 rfl (by assumption) | exact k3 rfl (by assumption) | omega)]
 ·skip
  refine goQ e55 T19_ok 5 ?_;simp only[push_cast,seval,↓kw2,eqBox',zAn,zDz,hc];exact⟨_,rfl,zAa rfl (by rw[pchk,if_neg hc])⟩
@[push_cast] def g55:List AV->Option (Prop × AV)
 | [.agg [(.c (.int .i64 a)),(.c (.int .i64 b)),(.c (.int .i64 c))],.agg [(.c (.int .i64 x)),(.c (.int .i64 y)),(.c (.int .i64 z)),(.c (.int .i64 p)),(.c (.int .i64 q)),(.c (.int .i64 r)),(.c (.bool s)),(.c (.bool t)),(.c (.bool u))]]=>some (True,I (pchk a b c x y z p q r s t u))
 | _=>none
theorem g55_ok:∀ args p,g55 args=some p->p.1->Pur zP GG 55 args p.2:=by
 intro args p hp hc
 unfold g55 at hp
 split at hp
 ·cases hp;exact pcheck_pur _ _ _ _ _ _ _ _ _ _ _ _
 ·cases hp
@[push_cast] def T20:Tab:=Tab.ext T19 55 g55
theorem T20_ok:TOk zP GG T20:=TOk.ext T19_ok g55_ok
end Go.Ab.Pd
