/- A text of this claim. -/
import Derived.Test.YtplmblgihfogjaaGreatDoorEv24
import Derived.Laws.Bits64
set_option maxHeartbeats 40000000
set_option maxRecDepth 400000
set_option linter.all false
namespace Go.Ab.Pd
open Go.Proofs
open Go.Proofs.Tryz renaming prog->zP
def inU(w:Int):Prop:=0<=w/\w < 2^64
theorem wrap_inU(n:Int):inU (IntKind.u64.wrap n):=by
 rw[IntKind.wrap_u64];exact⟨Int.emod_nonneg _ (by decide),Int.emod_lt_of_pos _ (by decide)⟩
def orW(w k:Int):Int:=IntKind.u64.wrap (((BitVec.ofInt IntKind.u64.bits w ||| BitVec.ofInt IntKind.u64.bits (IntKind.u64.wrap (1*2^(min (k.tmod 64).toNat IntKind.u64.bits)))).toNat:Nat):Int)
def setW(ws:List Int)(k:Int):List Int:=ws.set (k.tdiv 64).toNat (orW (ws.getD (k.tdiv 64).toNat 0) k)
def ofL(n:Int)(l:List Int):List Int:=l.foldl setW (List.replicate (zBe n).toNat 0)
theorem setW_length(ws:List Int)(k:Int):(setW ws k).length=ws.length:=by simp[setW]
theorem foldW_length:∀(l ws:List Int),(l.foldl setW ws).length=ws.length
 | [],ws=>rfl
 | k::l,ws=>by rw[List.foldl_cons,foldW_length l,setW_length]
theorem setW_inU{ws:List Int}(h:∀ w∈ws,inU w)(k:Int):∀ w∈setW ws k,inU w:=by
 intro w hw
 rcases List.mem_or_eq_of_mem_set hw with h1 | h1
 ·exact h w h1
 ·rw[h1]; exact wrap_inU _
theorem foldW_inU:∀(l:List Int) {ws:List Int},(∀ w∈ws,inU w)->∀ w∈l.foldl setW ws,inU w
 | [],ws,h=>h
 | k::l,ws,h=>by rw[List.foldl_cons]; exact foldW_inU l (setW_inU h k)
theorem zCj(n:Int)(l:List Int):(ofL n l).length=(zBe n).toNat:=by unfold ofL; rw[foldW_length]; simp
theorem zAt(n:Int)(l:List Int):∀ w∈ofL n l,inU w:=foldW_inU l (fun w hw=>by
 rw[List.eq_of_mem_replicate hw]; exact⟨by decide,by decide⟩)
theorem aLenI(l:List Int):aLen zP 30 (frS (l.map IA))=some (l.length:Int):=by rw[aLen_frS un30,zM]
theorem aIdxI{l:List Int}(i:Int)(H:List AO)(h:0 < l.length):zAk zP 30 (frS (l.map IA)) i H=some ((0<=i/\i < (l.length:Int))/\((l.map IA).getD i.toNat .un).cells.length=1,.iptr ((l.map IA).getD i.toNat .un).cells 0):=by
 rw[frS_ne (by simpa using h),aIdx_isl un30 sz3,zM]
theorem aIdxS{id len cap:Nat}{ws:List Int}{H:List AO}(hid:H[id]?=some (.arr 1 (ws.map U)))(i:Int):zAk zP 74 (.sl id 0 len cap) i H=some (0<=i/\i < (len:Int),.eptr id (0+i.toNat) 0) :=
 aIdx_sl un74 sz129 hid i
theorem zBa{α:Type}{l:List α}{i:Nat}(d:α)(h:i < l.length):l.drop i=l.getD i d::l.drop (i+1):=by
 rw[List.drop_eq_getElem_cons h]; simp[List.getD,h]
theorem e57:Ent zP 57 Tryz.f57 [] 2:=.mk Tryz.func57 rfl
theorem zEq(n:Int)(l:List Int)(hp:(1<=n/\n<=12288)/\(∀ k∈l,0<=k/\k < n)/\l.length<=65536):Pur zP GG 57 [I n,frS (l.map IA)] (.tup [.isl ((ofL n l).map U),I 0]):=by
 obtain⟨hn,hl,hlen⟩:=hp;have hw:zBe n=(n+63) / 64:=by rw[zBe,if_pos hn]
 obtain⟨q,hq⟩:∃ q,(zBe n).toNat=q+1:=⟨(zBe n).toNat - 1,by omega⟩;refine goQ e57 T20_ok 0 ?_;simp only[push_cast,seval,↓kw2,aLenI,hq];refine⟨fun h=>absurd h (by omega),fun _=>⟨fun h=>absurd h (by omega),fun _=>⟨⟨by omega,by omega,by omega⟩,?_⟩⟩⟩;refine FW.loopInv (fun m ts H=>∃ i ws,i+(m:Int)=l.length/\0<=i/\(l.drop i.toNat).foldl setW ws=ofL n l/\ws.length=q+1/\H=[.arr 1 (ws.map U)]/\ts 0=I n/\ts 7=.sl 0 0 (q+1) (q+1)/\ts 21=frS (l.map IA)/\ts 22=I l.length/\ts 23=I i) l.length
  ⟨0,List.replicate (q+1) 0,by omega,by omega,by rw[<- hq]; rfl,by simp,by simp,rfl,rfl,rfl,rfl,rfl⟩ ?_
 rintro m ih ts H ⟨i,ws,hi,hi0,hws,hwl,rfl,t0,t7,t21,t22,t23⟩
 refine FW.inLoop ?_;have hx:=fun h=>aIdxI (l:=l) i [.arr 1 (ws.map U)] h
 by_cases hlt:i < l.length
 ·have hil:i.toNat < l.length:=by omega
  have hx':=hx (by omega);rw[zAj IA l 0 hil]at hx';have hk:=hl _ (List.getElem_mem hil);rw[show l[i.toNat]=l.getD i.toNat 0 by simp[List.getD,hil]]at hk;have hdr:=zBa 0 hil
  generalize l.getD i.toNat 0=k at hx' hk hdr
  have hd1:decide (i < (l.length:Int))=true:=by simp[hlt]
  have hk1:decide (k < 0)=false:=by simp; omega
  have hk2:decide (n<=k)=false:=by simp; omega
  have hkw:=zAl (n:=k.tdiv 64) (by have:=Int.tdiv_eq_ediv_of_nonneg (b:=64) hk.1; omega) (by have:=Int.tdiv_eq_ediv_of_nonneg (b:=64) hk.1; omega);have hkq:(k.tdiv 64).toNat < ws.length:=by have:=Int.tdiv_eq_ediv_of_nonneg (b:=64) hk.1; omega
  have hkq':(k.tdiv 64).toNat < (ws.map U).length:=by rw[zM]; exact hkq
  have hxs:=fun j=>aIdxS (id:=0) (len:=q+1) (cap:=q+1) (ws:=ws) (H:=[.arr 1 (ws.map U)]) rfl j
  have hgd:=zAj U ws 0 hkq;refine goW T20_ok [] 0 ?_;simp only[push_cast,seval,↓kw2,aLenI,hq,t0,t7,t21,t22,t23,hd1,hk1,hk2,hx',hkw,hkq',hgd];have hkm:=Int.tmod_nonneg 64 hk.1;have hkd:=Int.tdiv_nonneg (b:=64) hk.1 (by decide);have hie:=zAl (n:=i+1) (by omega) (by omega);have hset:(ws.map U).set (k.tdiv 64).toNat (.c (.int .u64 (orW (ws.getD (k.tdiv 64).toNat 0) k)))=(setW ws k).map U:=by rw[setW,List.map_set]
  rw[hie]
  repeat (refine⟨by omega,?_⟩)
  exact ih (m - 1) (by omega) _ _ ⟨i+1,setW ws k,by omega,by omega,by rw[show(i+1).toNat=i.toNat+1 by omega,<- hws,hdr,List.foldl_cons],by rw[setW_length,hwl],congrArg (fun q=>[AO.arr 1 q]) hset,t0,t7,t21,t22,rfl⟩
 ·have hd1:decide (i < (l.length:Int))=false:=by simp; omega
  refine goW T20_ok [] 0 ?_;simp only[push_cast,seval,↓kw2,aLenI,hq,t0,t7,t21,t22,t23,hd1];rw[List.drop_eq_nil_of_le (by omega)]at hws;have hws':ws=ofL n l:=hws;subst hws';have hown:Own [.arr 1 ((ofL n l).map U)] (.sl 0 0 (q+1) (q+1)) ((ofL n l).map U):=by
   have:=Own.row (H:=[.arr 1 ((ofL n l).map U)]) (id:=0) rfl (by rw[zM,hwl]; omega)
   rwa [zM,hwl]at this
  obtain⟨m',hm'⟩:=hown.done2 (v:=I 0) (zAi U _ (fun _=>rfl)) rfl;exact⟨_,rfl,m',by rw[hm',frS_ne (by rw[zM,hwl]; omega)]⟩
theorem set_concat{l:List AO}{a b:AO}:(l++[a]).set l.length b=l++[b]:=by
 rw[List.set_append_right _ _ (Nat.le_refl _)]; simp
theorem zAb{l:List AO}{a:AO}:(l++[a])[l.length]?=some a:=by simp
theorem okP_tmod{a b c x y z i j k:Int}(hd:okD a b c)(h1:0<=x+i)(h2:0<=y+j)(h3:0<=z+k):okP a b c ((x+i).tmod a) ((y+j).tmod b) ((z+k).tmod c):=by
 unfold okD at hd;rw[Int.tmod_eq_emod_of_nonneg h1,Int.tmod_eq_emod_of_nonneg h2,Int.tmod_eq_emod_of_nonneg h3];exact⟨⟨Int.emod_nonneg _ (by omega),Int.emod_lt_of_pos _ (by omega)⟩,⟨Int.emod_nonneg _ (by omega),Int.emod_lt_of_pos _ (by omega)⟩,⟨Int.emod_nonneg _ (by omega),Int.emod_lt_of_pos _ (by omega)⟩⟩
theorem zDc{a b c x y z p q r m:Int}(hd:okD a b c)(hb:okB a b c x y z p q r)(h:m∈zAo a b c x y z p q r):inM a b c m:=by
 unfold okB ok1 at hb;obtain⟨k,hk,_,h⟩:=mem_upto h;obtain⟨j,hj,_,h⟩:=mem_upto h;obtain⟨i,hi,_,h⟩:=mem_upto h;rw[List.mem_singleton]at h;subst h;exact⟨hd,(at_range hd (okP_tmod hd (by omega) (by omega) (by omega))).2⟩
def alongL(a b c x y z k p q r s:Int)(t:Bool):List Int:=(srt (zAo a b c x y z p q r)).flatMap fun m=>runLs a b c k m s t
def axisOf(p q r:Int)(s t u:Bool)(k p' q' r' n:Int)(e:Bool):Prop:=(k=0/\p'=1/\q'=q/\r'=r/\n=p/\e=s)\/(k=1/\p'=p/\q'=1/\r'=r/\n=q/\e=t)\/(k=2/\p'=p/\q'=q/\r'=1/\n=r/\e=u)
theorem runLs_length{a b c k m s:Int}{t:Bool}(hd:okD a b c)(h1:s<=16):(runLs a b c k m s t).length<=16:=by
 unfold okD at hd;unfold runLs
 split
 ·simp
 ·rw[zCw,runL,zEa _ 1 _ _ (fun _ _ _=>rfl),Nat.mul_one];unfold runN dimV
  split <;> (try split) <;> (try split) <;> omega
theorem flatMap_le{f:Int->List Int}{n:Nat}(h:∀ m,(f m).length<=n):∀ l:List Int,(l.flatMap f).length<=l.length*n
 | []=>by simp
 | x::l=>by
  have h1:=h x;have h2:=flatMap_le h l;rw[List.flatMap_cons,List.length_append,List.length_cons,Nat.succ_mul]; omega
theorem zDl{a b c x y z p q r s t u k p' q' r' n e}(hd:okD a b c)(hb:okB a b c x y z p q r)(hx:axisOf p q r s t u k p' q' r' n e):(alongL a b c x y z k p' q' r' n e).length<=4096:=by
 have h1:=flatMap_le (f:=fun m=>runLs a b c k m n e) (n:=16) (fun m=>runLs_length hd (by unfold okD at hd; unfold okB ok1 at hb; unfold axisOf at hx; omega)) (srt (zAo a b c x y z p' q' r'));rw[zCw,zDo]at h1;unfold okD at hd; unfold okB ok1 at hb;have h2:r'.toNat*(q'.toNat*p'.toNat)<=256:=by
  rcases hx with ⟨_,rfl,rfl,rfl,_⟩ | ⟨_,rfl,rfl,rfl,_⟩ | ⟨_,rfl,rfl,rfl,_⟩
  ·calc r'.toNat*(q'.toNat*(1:Int).toNat)<=16*(16*1):=Nat.mul_le_mul (by omega) (Nat.mul_le_mul (by omega) (by decide))
    _=256:=rfl
  ·calc r'.toNat*((1:Int).toNat*p'.toNat)<=16*(1*16):=Nat.mul_le_mul (by omega) (Nat.mul_le_mul (by decide) (by omega))
    _=256:=rfl
  ·calc (1:Int).toNat*(q'.toNat*p'.toNat)<=1*(16*16):=Nat.mul_le_mul (by decide) (Nat.mul_le_mul (by omega) (by omega))
    _=256:=rfl
 unfold alongL;omega
theorem alongL_mem{a b c x y z p q r s t u k p' q' r' n e l}(hd:okD a b c)(hb:okB a b c x y z p q r)(hx:axisOf p q r s t u k p' q' r' n e)(h:l∈alongL a b c x y z k p' q' r' n e):0<=l/\l < 3*(a*b*c):=by
 unfold alongL at h;obtain⟨m,hm,hl⟩:=List.mem_flatMap.1 h;have hb':okB a b c x y z p' q' r':=by unfold okB ok1 at *; unfold axisOf at hx; omega
 have hin:=zDc hd hb' (srt_mem.1 hm);unfold runLs at hl
 split at hl
 ·simp at hl
 ·rename_i hn1;have:=srt_mem.1 hl;obtain⟨i,_,_,hi⟩:=mem_upto this;rw[List.mem_singleton]at hi;subst hi;exact(run_ok (by unfold axisOf at hx; omega) hin (by unfold okB ok1 at hb; unfold axisOf at hx; unfold dimV; split <;> (try split) <;> omega)).2
theorem e102:Ent zP 102 Tryz.f102 [] 4:=.mk Tryz.func102 rfl
theorem along_ac{a b c x y z p q r:Int}{s t u:Bool}{k p' q' r' n:Int}{e:Bool}(hd:okD a b c)(hb:okB a b c x y z p q r)(hx:axisOf p q r s t u k p' q' r' n e){H:List AO}{sl:AV}{es:List Int}
  (h0:H[0]?=some (.cells [I a,I b,I c])) (h1:H[1]?=some (.cells [I x,I y,I z,I p,I q,I r,B s,B t,B u])) (h2:H[2]?=some (.cells [sl])) (hown:Own H sl (es.map IA)) (hs0:zAw sl≠some 0) (hs1:zAw sl≠some 1) (hs2:zAw sl≠some 2) (hlen:es.length<=8192)
  {K:AV->List AO->Prop} (hK:∀ H' sl',H'[0]?=some (.cells [I a,I b,I c])->H'[1]?=some (.cells [I x,I y,I z,I p,I q,I r,B s,B t,B u])->H'[2]?=some (.cells [sl'])->Own H' sl' ((es++alongL a b c x y z k p' q' r' n e).map IA) ->
   zAw sl'≠some 0->zAw sl'≠some 1->zAw sl'≠some 2->K (.tup []) H') :
  AC zP GG 102 [I k,.ptr 1 0,.ptr 0 0,.ptr 2 0] H K:=by
 have hal:=zDl hd hb hx;have hL:∀ m,m∈srt (zAo a b c x y z p' q' r')->inM a b c m:=fun m hm=>zDc hd (by unfold okB ok1 at *; unfold axisOf at hx; omega) (srt_mem.1 hm)
 have hok:okB a b c x y z p' q' r':=by unfold okB ok1 at *; unfold axisOf at hx; omega
 have hrl:∀ m,(runLs a b c k m n e).length<=16:=fun m=>runLs_length hd (by unfold okD at hd; unfold okB ok1 at hb; unfold axisOf at hx; omega)
 have hkn:(0<=k/\k<=2)/\1<=n/\n<=dimV a b c k:=by unfold okB ok1 at hb; unfold axisOf at hx; unfold dimV; split <;> (try split) <;> omega
 have hLlen:(srt (zAo a b c x y z p' q' r')).length<=16*(16*16):=by
  rw[zCw,zDo];unfold okD at hd; unfold okB ok1 at hok;exact Nat.mul_le_mul (by omega) (Nat.mul_le_mul (by omega) (by omega))
 unfold alongL at hK hal
 generalize hLs:srt (zAo a b c x y z p' q' r')=Ls at hK hal hL hLlen
 have q0:∀ l,(H++l)[0]?=some (.cells [I a,I b,I c]):=fun l=>by rw[zL (zAc h0)]; exact h0
 have q1:∀ l,(H++l)[1]?=some (.cells [I x,I y,I z,I p,I q,I r,B s,B t,B u]):=fun l=>by rw[zL (zAc h1)]; exact h1
 have q2:∀ l,(H++l)[2]?=some (.cells [sl]):=fun l=>by rw[zL (zAc h2)]; exact h2
 have hlenL:aLen zP 30 (.isl (Ls.map IA))=some (Ls.length:Int):=by rw[aLen_isl un30,zM]
 have hxL:∀(i:Int) (H:List AO),zAk zP 30 (.isl (Ls.map IA)) i H=some ((0<=i/\i < (Ls.length:Int))/\((Ls.map IA).getD i.toNat .un).cells.length=1,.iptr ((Ls.map IA).getD i.toNat .un).cells 0):=fun i H=>by
  rw[aIdx_isl un30 sz3,zM]
 have hx0:=hx;obtain⟨kv,hkv⟩:∃ kv,kv=I k:=⟨_,rfl⟩
 generalize hf:(fun m=>runLs a b c k m n e)=f at hK hal
 have hfm:∀ m,runLs a b c k m n e=f m:=fun m=>by rw[<- hf]
 have hfl:∀ m,(f m).length<=16:=fun m=>by rw[<- hf]; exact hrl m
 clear hf hrl
 rcases hx with ⟨rfl,rfl,rfl,rfl,rfl,rfl⟩ | ⟨rfl,rfl,rfl,rfl,rfl,rfl⟩ | ⟨rfl,rfl,rfl,rfl,rfl,rfl⟩
 all_goals
  refine goE e102 T20_ok 0 ?_;simp only[push_cast,seval,↓kw2,set_concat,zAb,q0,q1,q2,h0,h1,h2,hLs];refine⟨⟨hd,hok⟩,?_⟩;refine FW.loopInv (fun l ts H'=>∃ i es' sl',i+(l:Int)=Ls.length/\0<=i/\es'++(Ls.drop i.toNat).flatMap f=es++Ls.flatMap f/\H'[0]?=H[0]?/\H'[1]?=H[1]?/\H'[2]?=some (.cells [sl'])/\Own H' sl' (es'.map IA)/\zAw sl'≠some 0/\zAw sl'≠some 1/\zAw sl'≠some 2 /\
   ts 0=kv/\ts 1=.ptr 1 0/\ts 2=.ptr 0 0/\ts 3=.ptr 2 0/\ts 23=.isl (Ls.map IA)/\ts 24=I (Ls.map IA).length/\ts 25=I i) Ls.length
   ⟨0,es,sl,by omega,by omega,rfl,(q0 _).trans h0.symm,(q1 _).trans h1.symm,q2 _,hown.append _,hs0,hs1,hs2,hkv.symm,rfl,rfl,rfl,rfl,rfl,rfl⟩ ?_
  rintro l ih ts H' ⟨i,es',sl',hi,hi0,hes,e0,e1,g2,hown',w0,w1,w2,t0,t1,t2,t3,t23,t24,t25⟩
  have g0:=e0.trans h0;have g1:=e1.trans h1;rw[hkv]at t0;rw[zM]at t24;refine FW.inLoop ?_
  by_cases hlt:i < Ls.length
  ·have hil:i.toNat < Ls.length:=by omega
   have hd1:decide (i < (Ls.length:Int))=true:=by simp[hlt]
   have hgd:=zAj IA Ls 0 hil;have hmm:=hL _ (List.getElem_mem hil);rw[show Ls[i.toNat]=Ls.getD i.toNat 0 by simp[List.getD,hil]]at hmm;have hdr:=zBa 0 hil
   generalize Ls.getD i.toNat 0=mm at hgd hmm hdr
   rw[hdr,List.flatMap_cons,<- List.append_assoc]at hes;have hel:=congrArg List.length hes;simp only[List.length_append]at hel;obtain⟨C,happ,hC⟩:=aAppF (P:=zP) un30 un30 ze3 rfl by3 hown' (l:=(f mm).map IA) (by intro x hx; obtain⟨_,_,rfl⟩:=List.mem_map.1 hx; rfl);have hown3:=apSs_own (l:=(f mm).map IA) hown';have g0':=(apHs_get (es:=es'.map IA) (l:=(f mm).map IA) (zAc g0) w0).trans g0;have g1':=(apHs_get (es:=es'.map IA) (l:=(f mm).map IA) (zAc g1) w1).trans g1;have g2':=(apHs_get (es:=es'.map IA) (l:=(f mm).map IA) (zAc g2) w2).trans g2;have w0':=ownId_apSs (n:=(es'.map IA).length) (l:=(f mm).map IA) (zAc g0) w0;have w1':=ownId_apSs (n:=(es'.map IA).length) (l:=(f mm).map IA) (zAc g1) w1;have w2':=ownId_apSs (n:=(es'.map IA).length) (l:=(f mm).map IA) (zAc g2) w2;rw[<- List.map_append]at hown3
   generalize apSs H' sl' (es'.map IA).length ((f mm).map IA)=sl3 at happ hown3 w0' w1' w2'
   generalize apHs H' sl' (es'.map IA) ((f mm).map IA)=H3 at happ hown3 g0' g1' g2'
   obtain⟨c1,c2,c3⟩:=hown3.cell;refine goW T20_ok [] 0 ?_;simp only[push_cast,seval,↓kw2,c1,c2,c3,t0,t1,t2,t3,t23,t24,t25,g0,g1,g2,hd1,hgd,hfm,happ,g2',zM];have hb3:(es'.map IA).length+((f mm).map IA).length<=2^20:=by
    rw[zM,zM]; omega
   refine⟨⟨hi0,hlt⟩,⟨hmm,hkn.2⟩,hC (by omega) (by omega),?_⟩;rw[zAl (n:=i+1) (by omega) (by omega)];refine ih (l - 1) (by omega) _ _ ⟨i+1,es'++f mm,sl3,by omega,by omega,by rw[show(i+1).toNat=i.toNat+1 by omega]; exact hes,(zQ (by decide)).trans (g0'.trans h0.symm),(zQ (by decide)).trans (g1'.trans h1.symm),
    zS (zAc g2'),hown3.keep fun j hj=>zQ (fun e'=>w2' (by rw[hj,e'])),w0',w1',w2',t0.trans hkv.symm,t1,t2,t3,t23,by rw[zM]; exact t24,rfl⟩
  ·have hd1:decide (i < (Ls.length:Int))=false:=by simp; omega
   refine goW T20_ok [] 0 ?_;simp only[push_cast,seval,↓kw2,t24,t25,hd1];rw[List.drop_eq_nil_of_le (by omega),List.flatMap_nil,List.append_nil]at hes;subst hes;exact⟨_,rfl,hK _ _ g0 g1 g2 hown' w0 w1 w2⟩
def zBh(a b c x y z p q r:Int)(s t u:Bool):List Int:=alongL a b c x y z 0 1 q r p s++alongL a b c x y z 1 p 1 r q t++alongL a b c x y z 2 p q 1 r u
theorem e56:Ent zP 56 Tryz.f56 [] 2:=.mk Tryz.func56 rfl
theorem taken_pur(a b c x y z p q r:Int)(s t u:Bool)(hp:okD a b c/\okB a b c x y z p q r):Pur zP GG 56 [.agg [I a,I b,I c],.agg [I x,I y,I z,I p,I q,I r,B s,B t,B u]] (.tup [.isl ((srt (zAo a b c x y z p q r)).map IA),frS ((zBh a b c x y z p q r s t u).map IA)]):=by
 obtain⟨hd,hb⟩:=hp;have x0:axisOf p q r s t u 0 1 q r p s:=.inl ⟨rfl,rfl,rfl,rfl,rfl,rfl⟩;have x1:axisOf p q r s t u 1 p 1 r q t:=.inr (.inl ⟨rfl,rfl,rfl,rfl,rfl,rfl⟩);have x2:axisOf p q r s t u 2 p q 1 r u:=.inr (.inr ⟨rfl,rfl,rfl,rfl,rfl,rfl⟩);have l0:=zDl hd hb x0;have l1:=zDl hd hb x1;refine goQ e56 T20_ok 4 ?_;simp only[push_cast,seval,↓kw2];refine⟨⟨hd,hb⟩,?_⟩;refine along_ac (es:=[]) hd hb x0 rfl rfl rfl .nil (by simp[zAw]) (by simp[zAw]) (by simp[zAw]) (by simp) ?_
 intro H1 s1 g0 g1 g2 o1 w0 w1 w2
 refine goW T20_ok [] 1 ?_;simp only[push_cast,seval,↓kw2];refine along_ac hd hb x1 g0 g1 g2 o1 w0 w1 w2 (by simp only[List.length_append,List.length_nil]; omega) ?_;clear g0 g1 g2 o1 w0 w1 w2
 intro H2 s2 g0 g1 g2 o2 w0 w1 w2
 refine goW T20_ok [] 1 ?_;simp only[push_cast,seval,↓kw2];refine along_ac hd hb x2 g0 g1 g2 o2 w0 w1 w2 (by simp only[List.length_append,List.length_nil]; omega) ?_;clear g0 g1 g2 o2 w0 w1 w2
 intro H3 s3 g0 g1 g2 o3 w0 w1 w2
 refine goW T20_ok [] 1 ?_;simp only[push_cast,seval,↓kw2,g2];rw[List.nil_append]at o3;exact⟨_,rfl,o3.done1 (zAi IA _ (fun _=>rfl)) (by simp[AV.pur,zAi IA _ (fun _=>rfl)])⟩
@[push_cast] def g56:List AV->Option (Prop × AV)
 | [.agg [(.c (.int .i64 a)),(.c (.int .i64 b)),(.c (.int .i64 c))],.agg [(.c (.int .i64 x)),(.c (.int .i64 y)),(.c (.int .i64 z)),(.c (.int .i64 p)),(.c (.int .i64 q)),(.c (.int .i64 r)),(.c (.bool s)),(.c (.bool t)),(.c (.bool u))]]=>some (okD a b c/\okB a b c x y z p q r,.tup [.isl ((srt (zAo a b c x y z p q r)).map IA),frS ((zBh a b c x y z p q r s t u).map IA)])
 | _=>none
theorem g56_ok:∀ args p,g56 args=some p->p.1->Pur zP GG 56 args p.2:=by
 intro args p hp hc
 unfold g56 at hp
 split at hp
 ·cases hp;exact taken_pur _ _ _ _ _ _ _ _ _ _ _ _ hc
 ·cases hp
@[push_cast] def T21:Tab:=Tab.ext T20 56 g56
theorem T21_ok:TOk zP GG T21:=TOk.ext T20_ok g56_ok
theorem okPl_pchk{a b c x y z p q r:Int}{s t u:Bool}(h:okPl a b c x y z p q r s t u):pchk a b c x y z p q r s t u=0:=by
 rw[pchk,if_pos (ckB_ok h.1 h.2.1),if_pos h]
theorem zDx{a b c x y z p q r:Int}{s t u:Bool}(hd:okD a b c)(hb:okB a b c x y z p q r):∀ k∈zBh a b c x y z p q r s t u,0<=k/\k < 3*(a*b*c):=by
 intro k hk
 unfold zBh at hk;rw[List.mem_append,List.mem_append]at hk
 rcases hk with (hk | hk) | hk
 ·exact alongL_mem hd hb (s:=s) (t:=t) (u:=u) (.inl ⟨rfl,rfl,rfl,rfl,rfl,rfl⟩) hk
 ·exact alongL_mem hd hb (s:=s) (t:=t) (u:=u) (.inr (.inl ⟨rfl,rfl,rfl,rfl,rfl,rfl⟩)) hk
 ·exact alongL_mem hd hb (s:=s) (t:=t) (u:=u) (.inr (.inr ⟨rfl,rfl,rfl,rfl,rfl,rfl⟩)) hk
theorem links_length{a b c x y z p q r:Int}{s t u:Bool}(hd:okD a b c)(hb:okB a b c x y z p q r):(zBh a b c x y z p q r s t u).length<=65536:=by
 have h0:=zDl hd hb (s:=s) (t:=t) (u:=u) (.inl ⟨rfl,rfl,rfl,rfl,rfl,rfl⟩);have h1:=zDl hd hb (s:=s) (t:=t) (u:=u) (.inr (.inl ⟨rfl,rfl,rfl,rfl,rfl,rfl⟩));have h2:=zDl hd hb (s:=s) (t:=t) (u:=u) (.inr (.inr ⟨rfl,rfl,rfl,rfl,rfl,rfl⟩));unfold zBh;rw[List.length_append,List.length_append];omega
def ownW(a b c x y z p q r:Int):List Int:=ofL (zAf a b c) (srt (zAo a b c x y z p q r))
def zEx(a b c x y z p q r:Int)(s t u:Bool):List Int:=ofL (3*zAf a b c) (zBh a b c x y z p q r s t u)
theorem e28:Ent zP 28 Tryz.f28 [] 2:=.mk Tryz.func28 rfl
theorem sets_pur(a b c x y z p q r:Int)(s t u:Bool)(hp:okPl a b c x y z p q r s t u):Pur zP GG 28 [.agg [I a,I b,I c],.agg [I x,I y,I z,I p,I q,I r,B s,B t,B u]] (.tup [.isl ((ownW a b c x y z p q r).map U),.isl ((zEx a b c x y z p q r s t u).map U),I 0]):=by
 have hpc:=okPl_pchk hp;have hd:=hp.1;have hb:=hp.2.1;have hm:=zBx hd;have hmv:zAf a b c=a*b*c:=by rw[zAf,if_pos hd]
 have hw3:=zAl (n:=3*zAf a b c) (by omega) (by omega);have hd':=hd;unfold okD at hd';have h1:1<=a*b*c:=by
  have:0 < a*b*c:=Int.mul_pos (Int.mul_pos (by omega) (by omega)) (by omega);omega
 have hn0:0 < (srt (zAo a b c x y z p q r)).length:=by
  rw[zCw,zDo];unfold okB ok1 at hb;exact Nat.mul_pos (by omega) (Nat.mul_pos (by omega) (by omega))
 have hn1:(srt (zAo a b c x y z p q r)).length<=16*(16*16):=by
  rw[zCw,zDo];unfold okB ok1 at hb;exact Nat.mul_le_mul (by omega) (Nat.mul_le_mul (by omega) (by omega))
 have c1:=zEq (zAf a b c) (srt (zAo a b c x y z p q r)) ⟨by omega,fun k hk=>by rw[hmv]; exact(zDc hd hb (srt_mem.1 hk)).2,by omega⟩;rw[frS_ne (by rw[zM]; exact hn0)]at c1;have c2:=zEq (3*zAf a b c) (zBh a b c x y z p q r s t u) ⟨by omega,fun k hk=>by rw[hmv]; exact zDx hd hb k hk,links_length hd hb⟩;refine goQ e28 T21_ok 0 ?_;simp only[push_cast,seval,↓kw2,hpc,hw3];refine⟨⟨hd,hb⟩,?_⟩;refine AC.pur c1 ?_;refine goW T21_ok [] 1 ?_;simp only[push_cast,seval,↓kw2,hpc,hw3];refine AC.pur c2 ?_;refine goW T21_ok [] 1 ?_;simp only[push_cast,seval,↓kw2,hpc,hw3];exact⟨_,rfl,zAa (by simp[AV.pur,AV.purL,zAi U _ (fun _=>rfl)]) rfl⟩
@[push_cast] def g28:List AV->Option (Prop × AV)
 | [.agg [(.c (.int .i64 a)),(.c (.int .i64 b)),(.c (.int .i64 c))],.agg [(.c (.int .i64 x)),(.c (.int .i64 y)),(.c (.int .i64 z)),(.c (.int .i64 p)),(.c (.int .i64 q)),(.c (.int .i64 r)),(.c (.bool s)),(.c (.bool t)),(.c (.bool u))]]=>some (okPl a b c x y z p q r s t u,.tup [.isl ((ownW a b c x y z p q r).map U),.isl ((zEx a b c x y z p q r s t u).map U),I 0])
 | _=>none
theorem g28_ok:∀ args p,g28 args=some p->p.1->Pur zP GG 28 args p.2:=by
 intro args p hp hc
 unfold g28 at hp
 split at hp
 ·cases hp;exact sets_pur _ _ _ _ _ _ _ _ _ _ _ _ hc
 ·cases hp
@[push_cast] def T22:Tab:=Tab.ext T21 28 g28
theorem zCk:TOk zP GG T22:=TOk.ext T21_ok g28_ok
def IsSet(s:AV):Prop:=∃ ws:List Int,(∀ w∈ws,inU w)/\(s=.isl (ws.map U)\/(s=.c (.slice none 0 0)/\ws=[]))
theorem IsSet.pur{s:AV}(h:IsSet s):s.pur=true:=by
 obtain⟨ws,_,rfl | ⟨rfl,_⟩⟩:=h
 ·simp[AV.pur,zAi U _ (fun _=>rfl)]
 ·rfl
theorem IsSet.cell{s:AV}(h:IsSet s):s.isCell=true/\s.isEl=true/\s.cells=[s]:=by
 obtain⟨ws,_,rfl | ⟨rfl,_⟩⟩:=h <;> exact⟨rfl,rfl,rfl⟩
theorem IsSet.isl{ws:List Int}(h:∀ w∈ws,inU w):IsSet (.isl (ws.map U)):=⟨ws,h,.inl rfl⟩
theorem e173:Ent zP 173 Tryz.f173 [] 2:=.mk Tryz.func173 rfl
theorem checked_ac{n e1 e2:Int}{s1 s2:AV}(p1:Pur zP GG 107 [I n,s1] (I e1))(p2:Pur zP GG 107 [I n,s2] (I e2))(q1:IsSet s1)(q2:IsSet s2){H:List AO}{id:Nat}(hid:H[id]?=some (.arr 1 [s1,s2]))
  {K:AV->List AO->Prop} (hK:K (I (if e1=0 then e2 else e1)) H):AC zP GG 173 [I n,.sl id 0 2 2] H K:=by
 obtain⟨a1,a2,a3⟩:=q1.cell;obtain⟨b1,b2,b3⟩:=q2.cell;refine goE e173 TOk.nil 1 ?_;simp only[push_cast,seval,↓kw2,hid,a1,a2,a3,b1,b2,b3];refine AC.pur p1 ?_
 by_cases h1:e1=0
 ·rw[if_pos h1]at hK;refine goW TOk.nil [] 1 ?_;simp only[push_cast,seval,↓kw2,hid,a1,a2,a3,b1,b2,b3,h1];refine AC.pur p2 ?_;refine goW TOk.nil [] 1 ?_
  by_cases h2:e2=0
  ·simp only[push_cast,seval,↓kw2,h2];exact⟨_,rfl,h2 ▸ hK⟩
  ·simp only[push_cast,seval,↓kw2,h2];exact⟨_,rfl,hK⟩
 ·rw[if_neg h1]at hK;refine goW TOk.nil [] 1 ?_;simp only[push_cast,seval,↓kw2,h1];exact⟨_,rfl,hK⟩
theorem cellU(ws:List Int):∀ x∈ws.map U,x.isCell=true:=by
 intro x hx
 obtain⟨_,_,rfl⟩:=List.mem_map.1 hx;rfl
theorem e174:Ent zP 174 Tryz.f174 [] 1:=.mk Tryz.func174 rfl
theorem clone_fresh{ws:List Int}(h0:0 < ws.length)(hl:ws.length<=2^16):Fresh zP GG 174 [.isl (ws.map U)] (ws.map U):=by
 refine Fresh.of_alone ggp (by simp[AV.purL,AV.pur,zAi U _ (fun _=>rfl)]) (zAi U _ (fun _=>rfl)) (by simpa using h0) ?_;obtain⟨C,happ,hC⟩:=aAppZ (P:=zP) un74 un74 ze129 rfl by129 (H:=[.arr 1 []]) (cellU ws) (by simpa using h0);refine goE e174 TOk.nil 1 ?_;simp only[push_cast,seval,↓kw2,zAn,aEqS,zDd,happ];refine⟨hC (by rw[zM]; omega) (by rw[zM]; omega),_,rfl,?_⟩;exact Own.row rfl (by simpa using h0)
def andW(x y:Int):Int:=IntKind.u64.wrap ((BitVec.ofInt IntKind.u64.bits x &&& BitVec.ofInt IntKind.u64.bits y).toNat:Int)
theorem e120:Ent zP 120 Tryz.f120 [] 2:=.mk Tryz.func120 rfl
theorem andw_pur(x y:Int):Pur zP GG 120 [U x,U y] (U (andW x y)):=by
 refine goQ e120 zCk 0 ?_;simp only[push_cast,seval,↓kw2];exact⟨_,rfl,zAa rfl rfl⟩
@[push_cast] def g120:List AV->Option (Prop × AV)
 | [(.c (.int .u64 x)),(.c (.int .u64 y))]=>some (True,U (andW x y))
 | _=>none
theorem g120_ok:∀ args p,g120 args=some p->p.1->Pur zP GG 120 args p.2:=by
 intro args p hp hc
 unfold g120 at hp
 split at hp
 ·cases hp;exact andw_pur _ _
 ·cases hp
@[push_cast] def T23:Tab:=Tab.ext T22 120 g120
theorem zCi:TOk zP GG T23:=TOk.ext zCk g120_ok
theorem andW_inU(x y:Int):inU (andW x y):=wrap_inU _
theorem e105:Ent zP 105 Tryz.f105 [] 4:=.mk Tryz.func105 rfl
end Go.Ab.Pd
