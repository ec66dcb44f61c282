/- A text of this claim. -/
import Derived.Test.YtplmblgihfogjaaGreatDoorEv26
import Derived.Test.YtplmblgihfogjaaGreatDoorEv27
set_option maxHeartbeats 40000000
set_option maxRecDepth 400000
set_option linter.all false
namespace Go.Ab.Pd
open Go.Proofs
open Go.Proofs.Tryz renaming prog->zP
def orV(a b:Int):Int:=if a=0 then b else a
theorem orV_0{a b:Int}(h:a=0):orV a b=b:=by rw[orV,if_pos h]
theorem orV_1{a b:Int}(h:¬a=0):orV a b=a:=by rw[orV,if_neg h]
def orL:List Int->Int
 | []=>0
 | c::l=>orV c (orL l)
theorem getA{H l:List AO}{j:Nat}:(H++l)[H.length+j]?=l[j]?:=by rw[List.getElem?_append_right (by omega)]; congr 1; omega
theorem setA{H l:List AO}{j:Nat}{x:AO}:(H++l).set (H.length+j) x=H++l.set j x:=by rw[List.set_append_right _ _ (by omega)]; congr 2; omega
theorem zAe{H l:List AO}{x:AO}:(H++l).set H.length x=H++l.set 0 x:=by rw[List.set_append_right _ _ (by omega)]; simp
theorem zAd{H l:List AO}:(H++l)[H.length]?=l[0]?:=by rw[List.getElem?_append_right (by omega)]; simp
theorem e117:Ent zP 117 Tryz.f117 [] 1:=.mk Tryz.func117 rfl
theorem orL_ac{cs:List Int}{H:List AO}{id:Nat}(hid:H[id]?=some (.arr 1 (cs.map IA)))(hl:cs.length<=2^20){K:AV->List AO->Prop}(hK:K (I (orL cs)) H):AC zP GG 117 [.sl id 0 cs.length cs.length] H K:=by
 refine goE e117 TOk.nil 0 ?_;simp only[push_cast,seval,↓kw2];refine FW.loopInv (fun l ts H'=>∃ i:Nat,i+l=cs.length/\orL (cs.drop i)=orL cs/\H'=H/\ts 3=I 0/\ts 6=.sl id 0 cs.length cs.length/\ts 7=I (cs.length:Int)/\ts 8=I (i:Int)) cs.length
  ⟨0,by omega,rfl,rfl,rfl,rfl,rfl,rfl⟩ ?_
 rintro l ih ts H' ⟨i,hi,hor,rfl,t3,t6,t7,t8⟩
 refine FW.inLoop ?_
 by_cases hlt:i < cs.length
 ·have hd1:decide ((i:Int) < (cs.length:Int))=true:=by simp[hlt]
  have hgd:=zAj IA cs 0 hlt;have hgl:i < (cs.map IA).length:=by simpa using hlt
  rw[zBa 0 hlt]at hor
  generalize cs.getD i 0=c at hgd hor
  by_cases hc:c=0
  ·subst hc;rw[orL,orV_0 rfl]at hor;refine goN ?_;simp only[push_cast,seval,↓kw2,t3,t6,t7,t8,hd1,hid,hgd,hgl,zM,hlt,Int.toNat_natCast,decide_true];rw[zAl (n:=(i:Int)+1) (by omega) (by omega)]
   repeat (refine⟨by omega,?_⟩)
   exact ih (l - 1) (by omega) _ _ ⟨i+1,by omega,hor,rfl,t3,t6,t7,rfl⟩
  ·rw[orL,orV_1 hc]at hor;refine goN ?_;simp only[push_cast,seval,↓kw2,t3,t6,t7,t8,hd1,hid,hgd,hgl,hc,zM,hlt,Int.toNat_natCast]
   repeat (refine⟨by omega,?_⟩)
   exact⟨_,rfl,by rw[hor]; exact hK⟩
 ·have hd1:decide ((i:Int) < (cs.length:Int))=false:=by simp; omega
  rw[List.drop_eq_nil_of_le (by omega)]at hor;refine goN ?_;simp only[push_cast,seval,↓kw2,t3,t6,t7,t8,hd1];exact⟨_,rfl,by rw[show(0:Int)=orL cs from hor]; exact hK⟩
abbrev PL(x y z p q r:Int)(s t u:Bool):AV:=.agg [I x,I y,I z,I p,I q,I r,B s,B t,B u]
theorem ckPl(x y z p q r:Int)(s t u:Bool):ckOk zP 10000 37 (PL x y z p q r s t u)=true:=by kernel_rfl
theorem flPl(x y z p q r:Int)(s t u:Bool):flatA (PL x y z p q r s t u)=true:=by rfl
theorem eqPl0(x y z p q r x' y' z' p' q' r':Int)(s t u s' t' u':Bool):aEq zP 10000 37 (PL x y z p q r s t u) (PL x' y' z' p' q' r' s' t' u') =
  some ((((x==x'&&(y==y'&&(z==z'&&true)))&&((p==p'&&(q==q'&&(r==r'&&true)))&&true)))&&((s==s'&&(t==t'&&(u==u'&&true)))&&true)):=by kernel_rfl
def samePl(x y z p q r x' y' z' p' q' r':Int)(s t u s' t' u':Bool):Prop:=x=x'/\y=y'/\z=z'/\p=p'/\q=q'/\r=r'/\s=s'/\t=t'/\u=u'
instance (x y z p q r x' y' z' p' q' r':Int) (s t u s' t' u':Bool):Decidable (samePl x y z p q r x' y' z' p' q' r' s t u s' t' u'):=by unfold samePl; infer_instance
theorem eqPl(x y z p q r x' y' z' p' q' r':Int)(s t u s' t' u':Bool):aEq zP 10000 37 (PL x y z p q r s t u) (PL x' y' z' p' q' r' s' t' u')=some (decide (samePl x y z p q r x' y' z' p' q' r' s t u s' t' u')):=by
 rw[eqPl0,Option.some.injEq,Bool.eq_iff_iff,decide_eq_true_iff];simp[samePl,and_assoc]
theorem eqPlS0(x y z p q r x' y' z' p' q' r':Int)(s t u s' t' u':Bool):aEqS zP 37 (PL x y z p q r s t u) (PL x' y' z' p' q' r' s' t' u') =
  some ((((x==x'&&(y==y'&&(z==z'&&true)))&&((p==p'&&(q==q'&&(r==r'&&true)))&&true)))&&((s==s'&&(t==t'&&(u==u'&&true)))&&true)):=by kernel_rfl
theorem eqPlS(x y z p q r x' y' z' p' q' r':Int)(s t u s' t' u':Bool):aEqS zP 37 (PL x y z p q r s t u) (PL x' y' z' p' q' r' s' t' u')=some (decide (samePl x y z p q r x' y' z' p' q' r' s t u s' t' u')):=by
 rw[eqPlS0,Option.some.injEq,Bool.eq_iff_iff,decide_eq_true_iff];simp[samePl,and_assoc]
structure Plc where
 x:Int
 y:Int
 z:Int
 p:Int
 q:Int
 r:Int
 s:Bool
 t:Bool
 u:Bool
 deriving DecidableEq
def Plc.av(a:Plc):AV:=PL a.x a.y a.z a.p a.q a.r a.s a.t a.u
instance:Inhabited Plc:=⟨⟨0,0,0,0,0,0,false,false,false⟩⟩
theorem Plc.same{a b:Plc}:samePl a.x a.y a.z a.p a.q a.r b.x b.y b.z b.p b.q b.r a.s a.t a.u b.s b.t b.u ↔ a=b:=by
 obtain⟨x,y,z,p,q,r,s,t,u⟩:=a;obtain⟨x',y',z',p',q',r',s',t',u'⟩:=b;simp[samePl]
theorem Plc.eq(a b:Plc):aEqS zP 37 a.av b.av=some (decide (a=b)):=by
 unfold Plc.av;rw[eqPlS,Option.some.injEq];exact decide_eq_decide.2 Plc.same
theorem Plc.pur(a:Plc):a.av.pur=true:=rfl
theorem Plc.cells(a:Plc):a.av.cells=[I a.x,I a.y,I a.z,I a.p,I a.q,I a.r,B a.s,B a.t,B a.u]:=rfl
structure Wnt where
 p:Int
 q:Int
 r:Int
 s:Bool
 t:Bool
 u:Bool
 v:Bool
 deriving DecidableEq
abbrev WT(p q r:Int)(s t u v:Bool):AV:=.agg [I p,I q,I r,B s,B t,B u,B v]
def Wnt.av(a:Wnt):AV:=WT a.p a.q a.r a.s a.t a.u a.v
instance:Inhabited Wnt:=⟨⟨0,0,0,false,false,false,false⟩⟩
theorem Wnt.pur(a:Wnt):a.av.pur=true:=rfl
theorem Wnt.cells(a:Wnt):a.av.cells=[I a.p,I a.q,I a.r,B a.s,B a.t,B a.u,B a.v]:=rfl
theorem Wnt.eq0(p q r p' q' r':Int)(s t u v s' t' u' v':Bool):aEq zP 10000 48 (WT p q r s t u v) (WT p' q' r' s' t' u' v') =
  some (((p==p'&&(q==q'&&(r==r'&&true)))&&((s==s'&&(t==t'&&(u==u'&&true)))&&(v==v'&&true)))):=by kernel_rfl
theorem Wnt.eq(a b:Wnt):aEq zP 10000 48 a.av b.av=some (decide (a=b)):=by
 obtain⟨p,q,r,s,t,u,v⟩:=a;obtain⟨p',q',r',s',t',u',v'⟩:=b;unfold Wnt.av;rw[Wnt.eq0,Option.some.injEq,Bool.eq_iff_iff,decide_eq_true_iff];simp[and_assoc]
theorem Wnt.ck(a:Wnt):ckOk zP 10000 48 a.av=true:=by
 obtain⟨p,q,r,s,t,u,v⟩:=a;show ckOk zP 10000 48 (WT p q r s t u v)=true;kernel_rfl
theorem Wnt.fl(a:Wnt):flatA a.av=true:=rfl
def okW(p q r:Int):Prop:=(1<=p/\p<=16)/\(1<=q/\q<=16)/\(1<=r/\r<=16)
instance (p q r:Int):Decidable (okW p q r):=by unfold okW; infer_instance
def wchk(p q r:Int):Int:=if okW p q r then 0 else 8
theorem e162:Ent zP 162 Tryz.f162 [] 1:=.mk Tryz.func162 rfl
theorem tchk_pur(p q r:Int)(s t u v:Bool):Pur zP GG 162 [WT p q r s t u v] (I (wchk p q r)):=by
 refine goQ e162 zCi 5 ?_;simp only[push_cast,seval,↓kw2];unfold wchk
 repeat' (first | apply And.intro | intro _)
 all_goals
  refine⟨_,rfl,zAa rfl ?_⟩;simp only[AV.c.injEq,Value.int.injEq,true_and]
  first | (rw[if_pos (by unfold okW; omega)]) | (rw[if_neg (by unfold okW; omega)])
@[push_cast] def g162:List AV->Option (Prop × AV)
 | [.agg [(.c (.int .i64 p)),(.c (.int .i64 q)),(.c (.int .i64 r)),(.c (.bool s)),(.c (.bool t)),(.c (.bool u)),(.c (.bool v))]]=>some (True,I (wchk p q r))
 | _=>none
theorem g162_ok:∀ args p,g162 args=some p->p.1->Pur zP GG 162 args p.2:=by
 intro args p hp hc
 unfold g162 at hp
 split at hp
 ·cases hp;exact tchk_pur _ _ _ _ _ _ _
 ·cases hp
@[push_cast] def S1:Tab:=Tab.ext T23 162 g162
theorem S1_ok:TOk zP GG S1:=TOk.ext zCi g162_ok
def cmpW(p q r p' q' r':Int)(s t u s' t' u':Bool):Int:=orV (cmpV p p') (orV (cmpV q q') (orV (cmpV r r') (orV (cmpV (bitV s) (bitV s')) (orV (cmpV (bitV t) (bitV t')) (cmpV (bitV u) (bitV u'))))))
theorem e166:Ent zP 166 Tryz.f166 [] 2:=.mk Tryz.func166 rfl
theorem tcmp_pur(p q r p' q' r':Int)(s t u v s' t' u' v':Bool):Pur zP GG 166 [WT p q r s t u v,WT p' q' r' s' t' u' v'] (I (cmpW p q r p' q' r' s t u s' t' u')):=by
 refine goQ e166 S1_ok 8 ?_;simp only[push_cast,seval,↓kw2];unfold cmpW
 repeat' (first | apply And.intro | intro _)
 all_goals
  refine⟨_,rfl,zAa rfl ?_⟩;simp only[AV.c.injEq,Value.int.injEq,true_and];simp[orV, *]
@[push_cast] def g166:List AV->Option (Prop × AV)
 | [.agg [(.c (.int .i64 p)),(.c (.int .i64 q)),(.c (.int .i64 r)),(.c (.bool s)),(.c (.bool t)),(.c (.bool u)),(.c (.bool v))],.agg [(.c (.int .i64 p')),(.c (.int .i64 q')),(.c (.int .i64 r')),(.c (.bool s')),(.c (.bool t')),(.c (.bool u')),(.c (.bool v'))]]=>some (True,I (cmpW p q r p' q' r' s t u s' t' u'))
 | _=>none
theorem g166_ok:∀ args p,g166 args=some p->p.1->Pur zP GG 166 args p.2:=by
 intro args p hp hc
 unfold g166 at hp
 split at hp
 ·cases hp;exact tcmp_pur _ _ _ _ _ _ _ _ _ _ _ _ _ _
 ·cases hp
@[push_cast] def S2:Tab:=Tab.ext S1 166 g166
theorem S2_ok:TOk zP GG S2:=TOk.ext S1_ok g166_ok
theorem e163:Ent zP 163 Tryz.f163 [] 0:=.mk Tryz.func163 rfl
theorem orders_pur :Pur zP GG 163 [] (.agg [I 0,I 1,I 2,I 0,I 2,I 1,I 1,I 0,I 2,I 1,I 2,I 0,I 2,I 0,I 1,I 2,I 1,I 0]):=by
 refine goQ e163 S2_ok 0 ?_;simp only[push_cast,seval,↓kw2];exact⟨_,rfl,zAa rfl rfl⟩
def entF(ws:List Wnt)(i:Nat):Nat × AV × AV:=(i,(ws.getD i default).av,B true)
def entsF(ws:List Wnt):List (Nat × AV × AV):=(List.range ws.length).map (entF ws)
theorem entsF_snoc(ws:List Wnt)(x:Wnt):entsF (ws++[x])=entsF ws++[(ws.length,x.av,B true)]:=by
 unfold entsF;rw[List.length_append,List.length_singleton,List.range_succ,List.map_append]
 congr 1
 ·refine List.map_congr_left fun i hi=>?_
  have:=List.mem_range.1 hi;simp[entF,List.getD,zL this]
 ·simp[entF,List.getD]
theorem find_no{x:Wnt}{f:Nat->Wnt}:∀ {l:List Nat},(∀ i∈l,x≠f i)->zEk zP 48 x.av (l.map fun i=>(i,(f i).av,B true))=some none
 | [],_=>rfl
 | i::l,h=>by
  rw[List.map_cons,zEk,Wnt.eq,zF (h i (by simp))];simp only;rw[find_no fun j hj=>h j (by simp[hj])];rfl
theorem find_yes{x:Wnt}{f:Nat->Wnt}:∀ {l:List Nat},(∃ i∈l,x=f i)->∃ j,j < l.length/\zEk zP 48 x.av (l.map fun i=>(i,(f i).av,B true))=some (some j)/\f (l.getD j 0)=x
 | [],h=>by obtain⟨i,hi,_⟩:=h; simp at hi
 | i::l,h=>by
  by_cases e:x=f i
  ·refine⟨0,by simp,?_,e.symm⟩;rw[List.map_cons,zEk,Wnt.eq,zT e]
  ·obtain⟨j,h1,h2,h3⟩:=find_yes (l:=l) (by
    obtain⟨k,hk,hx⟩:=h
    rcases List.mem_cons.1 hk with rfl | hk
    ·exact absurd hx e
    ·exact⟨k,hk,hx⟩)
   refine⟨j+1,by simp; omega,?_,by simpa using h3⟩;rw[List.map_cons,zEk,Wnt.eq,zF e];simp only;rw[h2]; rfl
theorem ents_no{x:Wnt}{ws:List Wnt}(h:x ∉ ws):zEk zP 48 x.av (entsF ws)=some none :=
 find_no (f:=fun i=>ws.getD i default) fun i hi e=>h (by
  have:=List.mem_range.1 hi;rw[e]; simp[List.getD,this])
theorem ents_yes{x:Wnt}{ws:List Wnt}(h:x∈ws):∃ j,zEk zP 48 x.av (entsF ws)=some (some j)/\((entsF ws).getD j default).2.1=x.av/\(entsF ws).set j (((entsF ws).getD j default).1,x.av,B true)=entsF ws:=by
 obtain⟨i,hi,he⟩:=List.getElem_of_mem h;obtain⟨j,h1,h2,h3⟩:=find_yes (x:=x) (f:=fun i=>ws.getD i default) (l:=List.range ws.length) ⟨i,List.mem_range.2 hi,by simp[List.getD,hi,he]⟩;rw[List.length_range]at h1;have hr:(List.range ws.length).getD j 0=j:=by simp[List.getD,h1]
 rw[hr]at h3;have hg:(entsF ws).getD j default=(j,x.av,B true):=by
  unfold entsF;simp only[List.getD,List.getElem?_map,List.getElem?_range h1,Option.map_some,Option.getD_some];show(j,(ws.getD j default).av,B true)=_;rw[h3]
 refine⟨j,h2,by rw[hg],?_⟩;rw[hg];refine List.ext_getElem? fun q=>?_
 rw[List.getElem?_set]
 by_cases e:j=q
 ·subst e;rw[if_pos rfl,if_pos (by unfold entsF; simpa using h1)];have h5:j < (entsF ws).length:=by unfold entsF; simpa using h1
  rw[List.getD_eq_getElem?_getD,List.getElem?_eq_getElem h5,Option.getD_some]at hg;rw[List.getElem?_eq_getElem h5,hg]
 ·rw[if_neg e]
theorem cand_mem{ws:List Wnt}{is:List Nat}{e:Nat × AV × AV}(h:e∈zDs (entsF ws) is):∃ i,i < ws.length/\i ∉ is/\e=(i,(ws.getD i default).av,B true):=by
 unfold zDs entsF at h;obtain⟨h1,h2⟩:=List.mem_filter.1 h;obtain⟨i,hi,rfl⟩:=List.mem_map.1 h1;exact⟨i,List.mem_range.1 hi,fun hh=>by simp[entF,hh]at h2,rfl⟩
theorem cand_nil{ws:List Wnt}{is:List Nat}(h:zDs (entsF ws) is=[]):∀ i,i < ws.length->i∈is:=by
 intro i hi
 unfold zDs at h;rw[List.filter_eq_nil_iff]at h;have:=h (entF ws i) (List.mem_map.2 ⟨i,List.mem_range.2 hi,rfl⟩);simpa[entF]using this
theorem perm_range{is:List Nat}{n:Nat}(hn:is.Nodup)(h1:∀ i∈is,i < n)(h2:∀ i,i < n->i∈is):is.Perm (List.range n) :=
 (List.perm_ext_iff_of_nodup hn List.nodup_range).2 fun i=>⟨fun h=>List.mem_range.2 (h1 i h),fun h=>h2 i (List.mem_range.1 h)⟩
theorem map_range_getD(ws:List Wnt):(List.range ws.length).map (fun i=>ws.getD i default)=ws:=by
 refine List.ext_getElem (by simp) fun i h1 h2=>?_
 simp[List.getD,h2]
theorem ents_born(ws:List Wnt):((entsF ws).all fun e=>decide (e.1 < ws.length))=true:=by
 rw[List.all_eq_true]
 intro e he
 obtain⟨i,hi,rfl⟩:=List.mem_map.1 he;exact zT (List.mem_range.1 hi)
theorem ents_find{ws:List Wnt}{i:Nat}(h:i < ws.length):(entsF ws).find? (fun e=>e.1==i)=some (i,(ws.getD i default).av,B true):=by
 unfold entsF;rw[List.find?_map,List.find?_range_eq_some.2 ⟨by simp[entF],List.mem_range.2 h,fun j hj=>by simp[entF]; omega⟩];rfl
theorem aNext_ents{ws:List Wnt}{it m:Nat}{is:List Nat}{H:List AO}(h1:H[it]?=some (.mit m ws.length is ws.length))(h2:H[m]?=some (.map (entsF ws) ws.length)) :
  aNext (.ptr it 0) H=some (it,m,ws.length,is,ws.length,zDs (entsF ws) is):=by
 unfold aNext;simp only[h1,h2];rw[if_pos ⟨ents_born ws,Nat.le_refl _⟩]
theorem aEntry_ents{ws:List Wnt}{it m i:Nat}{is:List Nat}{H:List AO}(h1:H[it]?=some (.mit m ws.length (is++[i]) ws.length))(h2:H[m]?=some (.map (entsF ws) ws.length))(hi:i < ws.length) :
  aEntry (.ptr it 0) H=some ⟨True,.tup [(ws.getD i default).av,B true],H⟩:=by
 unfold aEntry;simp only[h1,h2,List.getLast?_append,List.getLast?_singleton,Option.some_or,if_true,ents_find hi]
theorem e228:Ent zP 228 Tryz.f228 [] 2:=.mk Tryz.func228 rfl
theorem keys1{ws:List Wnt}{id k m:Nat}{H:List AO}(hk:H[k]?=some (.cells [.mp m]))(hm:H[m]?=some (.map (entsF ws) ws.length)){K:AV->List AO->Prop}(J:List Wnt->List AO->Prop)
  (h0:∀ X,J [] (H++[X])) (hal:∀ l H1 X,J l H1->J l (H1++[X])) (hit:∀ l H1 X,J l H1->J l (H1.set H.length X))
  (hstep:∀ x l H1,x∈ws->l.length < ws.length->J l H1->H.length < H1.length->AY zP GG id [x.av] H1 fun v H2=>v=.c (.bool true)/\J (l++[x]) H2/\H1.length<=H2.length/\∀ j,j=m\/j=H.length->H2[j]?=H1[j]?)
  (hend:∀ l H1,l.Perm ws->J l H1->K (.tup []) H1):AC zP GG 228 [.yld id,.ptr k 0] H K:=by
 have hml:=zAc hm;refine goE e228 TOk.nil 0 ?_;simp only[push_cast,seval,↓kw2,hk,hm,aRange];refine FW.loopInv (fun n ts H1=>∃ is:List Nat,is.length+n=ws.length/\is.Nodup/\(∀ i∈is,i < ws.length)/\J (is.map fun i=>ws.getD i default) H1/\H.length < H1.length/\H1[m]?=some (.map (entsF ws) ws.length)/\H1[H.length]?=some (.mit m ws.length is ws.length) /\
  ts 0=.yld id/\ts 5=.ptr H.length 0) ws.length
  ⟨[],by simp,by simp,by simp,h0 _,by simp,by rw[zL hml]; exact hm,by simp,rfl,rfl⟩ ?_
 rintro n ih ts H1 ⟨is,hn,hnd,hlt,hJ,hl1,hm1,hi1,t0,t5⟩
 refine FW.inLoop ?_;refine goN ?_;simp only[push_cast,seval,↓kw2];refine FW.next rfl (by rw[show ev ts (Operand.tmp 5)=.ptr H.length 0 from t5]; exact aNext_ents hi1 hm1) ?_ ?_
 ·intro hc
  refine goN ?_;simp only[push_cast,seval,↓kw2];refine⟨_,rfl,hend _ _ ?_ hJ⟩;have hp:=(perm_range hnd hlt (cand_nil hc)).map fun i=>ws.getD i default
  rwa [map_range_getD]at hp
 ·intro e he
  obtain⟨i,hi,hni,rfl⟩:=cand_mem he;have hm2:(H1.set H.length (.mit m ws.length (is++[i]) ws.length))[m]?=some (.map (entsF ws) ws.length):=by rw[zQ (by omega)]; exact hm1
  have hi2:(H1.set H.length (.mit m ws.length (is++[i]) ws.length))[H.length]?=some (.mit m ws.length (is++[i]) ws.length):=zS hl1;have hJ2:=hit _ _ (.mit m ws.length (is++[i]) ws.length) hJ;have hl2:H.length < (H1.set H.length (.mit m ws.length (is++[i]) ws.length)).length:=by rw[List.length_set]; exact hl1
  generalize H1.set H.length (.mit m ws.length (is++[i]) ws.length)=H2 at hm2 hi2 hJ2 hl2
  have hen:=aEntry_ents hi2 hm2 hi;have hmem:ws.getD i default∈ws:=by simp[List.getD,hi]
  have hlen:is.length < ws.length:=by
   have hall:∀ j∈i::is,j < ws.length:=fun j hj=>by
    rcases List.mem_cons.1 hj with h | h
    ·rw[h]; exact hi
    ·exact hlt j h
   have:=nodup_le (List.nodup_cons.2 ⟨hni,hnd⟩) hall;simp only[List.length_cons]at this;omega
  have hst:=fun X=>hstep (ws.getD i default) _ (H2++[X]) hmem (by simpa using hlen) (hal _ _ X hJ2) (by simp; omega)
  have hmj:List.map (fun i=>ws.getD i default) is++[ws.getD i default]=List.map (fun i=>ws.getD i default) (is++[i]):=by simp
  simp only[hmj]at hst
  generalize hx:ws.getD i default=x at hen hst
  have hcl:=Wnt.cells x;refine goN ?_;simp only[push_cast,seval,↓kw2,t0,t5,hen,hcl,zAd,getA,setA,zAe,Wnt.av];refine ACV.mono (callee:=.yld id) (hst _) ?_
  rintro v H3 ⟨rfl,hJ3,hl3,hkp⟩
  refine goN ?_;simp only[push_cast,seval,↓kw2];refine ih (n - 1) (by omega) _ _ ⟨is++[i],by simp; omega,List.nodup_append.2 ⟨hnd,by simp,fun a ha b hb=>by rw[List.mem_singleton]at hb; rw[hb]; exact fun e=>hni (e ▸ ha)⟩,fun j hj=>?_,hJ3,by simp at hl3; omega,?_,?_,t0,t5⟩
  ·rcases List.mem_append.1 hj with h | h
   ·exact hlt j h
   ·rw[List.mem_singleton]at h; rw[h]; exact hi
  ·rw[hkp m (.inl rfl),zL (zAc hm2)]; exact hm2
  ·rw[hkp _ (.inr rfl),zL hl2]; exact hi2
end Go.Ab.Pd
