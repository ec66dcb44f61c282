/- A text of this claim. -/
import Derived.Test.YtplmblgihfogjaaGreatDoorEv19
import Derived.IntWalk
set_option maxHeartbeats 40000000
set_option maxRecDepth 400000
set_option linter.all false
namespace Go.Ab.Pd
open Go.Proofs
open Go.Proofs.Tryz renaming prog->zP
abbrev I(n:Int):AV:=.c (.int .i64 n)
abbrev B(b:Bool):AV:=.c (.bool b)
def tab0:List AV:=[0,1,56,2,57,49,28,3,61,58,42,50,38,29,17,4,62,47,59,36,45,43,51,22,53,39,33,30,24,18,12,5,63,55,48,27,60,41,37,16,46,35,44,21,52,32,23,11,54,26,40,15,34,20,31,10,25,14,19,9,13,8,7,6].map fun n=>.c (.int .u8 n)
def GG:Gl:=fun g=>match g with
 | 0=>some tab0
 | _=>none
theorem hmix:zP.follows .mixedOrders=true:=by kernel_rfl
theorem ggp:GPure GG:=fun g cs h=>by
 unfold GG at h
 split at h
 ·cases h; rfl
 ·cases h
theorem beq_eq_decide'(a b:Int):(a==b)=decide (a=b):=by by_cases h:a=b <;> simp[h]
theorem bne_eq_decide'(a b:Int):(a != b)=decide (a≠b):=by by_cases h:a=b <;> simp[h]
theorem zAl{n:Int}(h1:-9223372036854775808<=n)(h2:n < 9223372036854775808):IntKind.i64.wrap n=n:=wrap_i64 (by omega) (by omega)
theorem natc0:((0:Nat):Int)=0:=rfl
theorem natc1:((1:Nat):Int)=1:=rfl
theorem bool_or_same:True=True:=rfl
attribute [push_cast] beq_eq_decide' bne_eq_decide' zAl natc0 natc1 bool_or_same
theorem goE{f:FuncId}{fn:Func}{dl:List Nat}{a:Nat}(e:Ent zP f fn dl a){T:Tab}(hT:TOk zP GG T)(u:Nat){args:List AV}{H:List AO}{K:AV->List AO->Prop}
  (h:sy zP GG T dl 3000 true u none fn.ntmps [.code (fn.body.getD .skip)] (argTs args) H fun L ts' H'=>(L=.nor\/L=.ret)/\∃ v,resA zP GG fn.results ts' H'=some v/\K v H') (hl:args.length=a:=by rfl):AC zP GG f args H K:=e.go hmix hT u hl h
theorem goQ{f:FuncId}{fn:Func}{dl:List Nat}{a:Nat}(e:Ent zP f fn dl a){T:Tab}(hT:TOk zP GG T)(u:Nat){args:List AV}{x:AV}
  (h:sy zP GG T dl 3000 true u none fn.ntmps [.code (fn.body.getD .skip)] (argTs args) [] fun L ts' H'=>(L=.nor\/L=.ret)/\∃ v,resA zP GG fn.results ts' H'=some v/\∃ n,frz n H' v=some x)
  (hp:AV.purL args=true:=by first | rfl | (simp[AV.purL,AV.pur]; done) | (simp[AV.purL,AV.pur,frS_pur (zAi IA _ (fun _=>rfl)),zAi U _ (fun _=>rfl)]; done) | (simp[AV.purL,AV.pur, *]; done)) (hl:args.length=a:=by rfl):Pur zP GG f args x:=Pur.of_alone ggp hp (e.go hmix hT u hl h)
theorem goW{T:Tab}(hT:TOk zP GG T)(dl:List Nat)(u:Nat){rd:Option Nat}{n:Nat}{k:List Item}{ts:Nat->AV}{H:List AO}{Q:Lv->(Nat->AV)->List AO->Prop}(h:sy zP GG T dl 3000 true u rd n k ts H Q)(hd:todoDr dl k=true:=by kernel_rfl):FW zP GG rd n k ts H Q:=walk hmix hT dl 3000 u hd h
theorem goN{rd:Option Nat}{n:Nat}{k:List Item}{ts:Nat->AV}{H:List AO}{Q:Lv->(Nat->AV)->List AO->Prop}(h:sy zP GG Tab.nil [] 3000 true 0 rd n k ts H Q)(hd:todoDr [] k=true:=by kernel_rfl):FW zP GG rd n k ts H Q:=walk hmix TOk.nil [] 3000 0 hd h
theorem zAa{H:List AO}{v a:AV}(h:v.pur=true)(e:v=a):∃ n,frz n H v=some a:=⟨1,by subst e; simp[frz,h]⟩
def okD(a b c:Int):Prop:=(1<=a/\a<=16)/\(1<=b/\b<=16)/\(1<=c/\c<=16)
instance (a b c:Int):Decidable (okD a b c):=by unfold okD; infer_instance
def chk(a b c:Int):Int:=if okD a b c then 0 else 8
theorem e54:Ent zP 54 Tryz.f54 [] 1:=.mk Tryz.func54 rfl
theorem check_pur(a b c:Int):Pur zP GG 54 [.agg [I a,I b,I c]] (I (chk a b c)):=by
 refine goQ e54 TOk.nil 5 ?_;simp only[push_cast,seval,↓kw2];unfold chk
 repeat' (first | apply And.intro | intro _)
 all_goals
  refine⟨_,rfl,zAa rfl ?_⟩;simp only[AV.c.injEq,Value.int.injEq,true_and]
  first | (rw[if_pos (by unfold okD; omega)]) | (rw[if_neg (by unfold okD; omega)])
@[push_cast] def g54:List AV->Option (Prop × AV)
 | [.agg [(.c (.int .i64 a)),(.c (.int .i64 b)),(.c (.int .i64 c))]]=>some (True,I (chk a b c))
 | _=>none
theorem g54_ok:∀ args p,g54 args=some p->p.1->Pur zP GG 54 args p.2:=by
 intro args p hp hc
 unfold g54 at hp
 split at hp
 ·cases hp;exact check_pur _ _ _
 ·cases hp
@[push_cast] def T0:Tab:=Tab.ext Tab.nil 54 g54
theorem T0_ok:TOk zP GG T0:=TOk.ext TOk.nil g54_ok
def zAf(a b c:Int):Int:=if okD a b c then a*b*c else 0
theorem zBx{a b c:Int}(h:okD a b c):0<=a*b/\a*b<=256/\0<=a*b*c/\a*b*c<=4096:=by
 unfold okD at h;obtain⟨⟨h1,h2⟩,⟨h3,h4⟩,h5,h6⟩:=h;have m1:0<=a*b:=Int.mul_nonneg (by omega) (by omega);have m2:a*b<=16*16:=Int.mul_le_mul h2 h4 (by omega) (by omega);have m3:0<=a*b*c:=Int.mul_nonneg m1 (by omega);have m4:a*b*c<=256*16:=Int.mul_le_mul (by omega) h6 (by omega) (by omega);omega
theorem chk_ok{a b c:Int}:chk a b c=0 ↔ okD a b c:=by unfold chk; split <;> simp_all
theorem chk_no{a b c:Int}(h:¬okD a b c):chk a b c=8:=by unfold chk; rw[if_neg h]
theorem e27:Ent zP 27 Tryz.f27 [] 1:=.mk Tryz.func27 rfl
theorem many_pur(a b c:Int):Pur zP GG 27 [.agg [I a,I b,I c]] (.tup [I (zAf a b c),I (chk a b c)]):=by
 refine goQ e27 T0_ok 0 ?_;simp only[push_cast,seval,↓kw2];refine⟨fun h=>⟨_,rfl,zAa rfl ?_⟩,fun h=>⟨_,rfl,zAa rfl ?_⟩⟩
 ·have hk:=chk_ok.1 h;have hm:=zBx hk;rw[zAl (n:=a*b) (by omega) (by omega),zAl (by omega) (by omega),h,zAf,if_pos hk]
 ·rw[zAf,if_neg (fun hk=>h (chk_ok.2 hk))]
@[push_cast] def g27:List AV->Option (Prop × AV)
 | [.agg [(.c (.int .i64 a)),(.c (.int .i64 b)),(.c (.int .i64 c))]]=>some (True,.tup [I (zAf a b c),I (chk a b c)])
 | _=>none
theorem g27_ok:∀ args p,g27 args=some p->p.1->Pur zP GG 27 args p.2:=by
 intro args p hp hc
 unfold g27 at hp
 split at hp
 ·cases hp;exact many_pur _ _ _
 ·cases hp
@[push_cast] def T1:Tab:=Tab.ext T0 27 g27
theorem T1_ok:TOk zP GG T1:=TOk.ext T0_ok g27_ok
theorem e188:Ent zP 188 Tryz.f188 [] 1:=.mk Tryz.func188 rfl
theorem strides_pur(a b c:Int):Pur zP GG 188 [.agg [I a,I b,I c]] (.fn 244 [] [.iptr [I a,I b,I c] 0]):=by
 refine goQ e188 T1_ok 0 ?_;simp only[push_cast,seval,↓kw2];exact⟨_,rfl,3,rfl⟩
@[push_cast] def g188:List AV->Option (Prop × AV)
 | [.agg [(.c (.int .i64 a)),(.c (.int .i64 b)),(.c (.int .i64 c))]]=>some (True,.fn 244 [] [.iptr [I a,I b,I c] 0])
 | _=>none
theorem g188_ok:∀ args p,g188 args=some p->p.1->Pur zP GG 188 args p.2:=by
 intro args p hp hc
 unfold g188 at hp
 split at hp
 ·cases hp;exact strides_pur _ _ _
 ·cases hp
@[push_cast] def T2:Tab:=Tab.ext T1 188 g188
theorem T2_ok:TOk zP GG T2:=TOk.ext T1_ok g188_ok
def after(id:Nat)(args:List AV)(K:AV->List AO->Prop)(next:List AO->Prop)(H:List AO):Prop:=AY zP GG id args H fun v H1=>(v=B false->K (.tup []) H1)/\(v=B true->next H1)/\∃ b,v=B b
theorem e244:Ent zP 244 Tryz.f244 [] 2:=.mk Tryz.func244 rfl
theorem strides1{a b c:Int}(hd:okD a b c){id:Nat}{H:List AO}{K:AV->List AO->Prop}
  (h:after id [I 0,I 1] K (after id [I 1,I a] K (after id [I 2,I (a*b)] K (K (.tup [])))) H):AC zP GG 244 [.yld id,.iptr [I a,I b,I c] 0] H K:=by
 refine goE e244 TOk.nil 4 ?_;simp only[push_cast,seval,↓kw2];have hm:=zBx hd;have hd':=hd;unfold okD at hd';refine ACV.mono (callee:=.yld id) h ?_
 rintro v H1 ⟨hf,ht,q,rfl⟩
 cases q
 ·have hK:=hf rfl;refine goN ?_;simp only[push_cast,seval,↓kw2]
  first | exact⟨_,rfl,hK⟩ | exact⟨.inl rfl,_,rfl,hK⟩ | exact⟨.inr rfl,_,rfl,hK⟩
 ·have hn:=ht rfl;refine goW TOk.nil [] 1 ?_;simp only[push_cast,seval,↓kw2];rw[show IntKind.i64.wrap (1*a)=a by rw[Int.one_mul]; exact zAl (by omega) (by omega)];refine ACV.mono (callee:=.yld id) hn ?_
  rintro v H2 ⟨hf,ht,q,rfl⟩
  cases q
  ·have hK:=hf rfl;refine goN ?_;simp only[push_cast,seval,↓kw2]
   first | exact⟨_,rfl,hK⟩ | exact⟨.inl rfl,_,rfl,hK⟩ | exact⟨.inr rfl,_,rfl,hK⟩
  ·have hn:=ht rfl;refine goW TOk.nil [] 1 ?_;simp only[push_cast,seval,↓kw2];rw[zAl (n:=a*b) (by omega) (by omega)];refine ACV.mono (callee:=.yld id) hn ?_
   rintro v H3 ⟨hf,ht,q,rfl⟩
   have hK:K (.tup []) H3:=by cases q <;> first | exact hf rfl | exact ht rfl
   cases q
   ·refine goN ?_;simp only[push_cast,seval,↓kw2]
    first | exact⟨_,rfl,hK⟩ | exact⟨.inl rfl,_,rfl,hK⟩ | exact⟨.inr rfl,_,rfl,hK⟩
   ·refine goW TOk.nil [] 1 ?_;simp only[push_cast,seval,↓kw2]
    first | exact⟨_,rfl,hK⟩ | exact⟨.inl rfl,_,rfl,hK⟩ | exact⟨.inr rfl,_,rfl,hK⟩
theorem tq{m x y:Int}(h:0<=m)(hx:0 < x)(hm:m < 9223372036854775808):(IntKind.i64.wrap (m.tdiv x)).tmod y=m / x % y:=by
 have e:m.tdiv x=m / x:=Int.tdiv_eq_ediv_of_nonneg h;have h1:0<=m / x:=Int.ediv_nonneg h (by omega);have h2:m / x<=m:=Int.ediv_le_self _ h;rw[e,zAl (by omega) (by omega),Int.tmod_eq_emod_of_nonneg h1]
def inM(a b c m:Int):Prop:=okD a b c/\0<=m/\m < a*b*c
instance (a b c m:Int):Decidable (inM a b c m):=by unfold inM; infer_instance
def ofX(a b c m:Int):Int:=if inM a b c m then m % a else 0
def ofY(a b c m:Int):Int:=if inM a b c m then m / a % b else 0
def ofZ(a b c m:Int):Int:=if inM a b c m then m / (a*b) % c else 0
def ofE(a b c m:Int):Int:=if okD a b c then (if 0<=m/\m < a*b*c then 0 else 2) else 8
theorem e236:Ent zP 236 Tryz.f236 [] 2:=.mk Tryz.func236 rfl
theorem of_pur(a b c m:Int):Pur zP GG 236 [.agg [I a,I b,I c],I m] (.tup [.agg [I (ofX a b c m),I (ofY a b c m),I (ofZ a b c m)],I (ofE a b c m)]):=by
 refine goQ e236 T2_ok 0 ?_;simp only[push_cast,seval,↓kw2];refine⟨fun h=>?_,fun h=>⟨_,rfl,zAa rfl ?_⟩⟩
 ·have hk:=chk_ok.1 h;have hm:=zBx hk;have hk':=hk;unfold okD at hk';have hmany:zAf a b c=a*b*c:=by rw[zAf,if_pos hk]
  refine⟨fun h1=>⟨_,rfl,zAa rfl ?_⟩,fun h1=>⟨fun h2=>⟨_,rfl,zAa rfl ?_⟩,fun h2=>?_⟩⟩
  ·rw[ofX,ofY,ofZ,ofE,if_neg (fun hh=>by have:=hh.2; omega),if_neg (fun hh=>by have:=hh.2; omega),if_neg (fun hh=>by have:=hh.2; omega),if_pos hk,if_neg (by omega)]
  ·rw[hmany]at h2;rw[ofX,ofY,ofZ,ofE,if_neg (fun hh=>by have:=hh.2; omega),if_neg (fun hh=>by have:=hh.2; omega),if_neg (fun hh=>by have:=hh.2; omega),if_pos hk,if_neg (by omega)]
  ·rw[hmany]at h2;refine FW.rangeFunc ?_;simp only[push_cast,seval,↓kw2,ACV];have hab:0 < a*b:=Int.mul_pos (by omega) (by omega);have hab':¬a*b=0:=by omega
   refine strides1 hk ?_;refine AY.of_loop rfl rfl ?_;refine goW T2_ok [] 0 ?_;simp only[push_cast,seval,↓kw2,parTs];refine FW.beginRound rfl rfl ?_;simp only[push_cast,seval,↓kw2];refine goW T2_ok [] 0 ?_;simp only[push_cast,seval,↓kw2];refine⟨by omega,⟨rfl,_,rfl,⟨fun h0=>(by cases h0),fun _=>?_,_,rfl⟩⟩⟩;refine AY.of_loop rfl rfl ?_;refine goW T2_ok [] 0 ?_;simp only[push_cast,seval,↓kw2,parTs];refine FW.beginRound rfl rfl ?_;simp only[push_cast,seval,↓kw2];refine goW T2_ok [] 0 ?_;simp only[push_cast,seval,↓kw2];refine⟨by omega,by omega,⟨rfl,_,rfl,⟨fun h0=>(by cases h0),fun _=>?_,_,rfl⟩⟩⟩;refine AY.of_loop rfl rfl ?_;refine goW T2_ok [] 0 ?_;simp only[push_cast,seval,↓kw2,parTs];refine FW.beginRound rfl rfl ?_;simp only[push_cast,seval,↓kw2];refine goW T2_ok [] 0 ?_;simp only[push_cast,seval,↓kw2];refine⟨hab',by omega,⟨rfl,_,rfl,⟨fun h0=>(by cases h0),fun _=>?_,_,rfl⟩⟩⟩;refine⟨_,rfl,by simp[zCh],?_⟩;refine goW T2_ok [] 0 ?_;simp only[push_cast,seval,↓kw2,zCh];refine⟨_,rfl,zAa rfl ?_⟩;rw[tq (by omega) (by omega) (by omega),tq (by omega) (by omega) (by omega),tq (by omega) (by omega) (by omega),Int.ediv_one,ofX,ofY,ofZ,ofE,if_pos ⟨hk,by omega,by omega⟩,if_pos ⟨hk,by omega,by omega⟩,if_pos ⟨hk,by omega,by omega⟩,if_pos hk,if_pos (by omega)]
 ·rw[ofX,ofY,ofZ,ofE,if_neg (fun hk=>h (chk_ok.2 hk.1)),if_neg (fun hk=>h (chk_ok.2 hk.1)),if_neg (fun hk=>h (chk_ok.2 hk.1)),if_neg (fun hk=>h (chk_ok.2 hk)),chk_no (fun hk=>h (chk_ok.2 hk))]
@[push_cast] def g236:List AV->Option (Prop × AV)
 | [.agg [(.c (.int .i64 a)),(.c (.int .i64 b)),(.c (.int .i64 c))],(.c (.int .i64 m))]=>some (True,.tup [.agg [I (ofX a b c m),I (ofY a b c m),I (ofZ a b c m)],I (ofE a b c m)])
 | _=>none
theorem g236_ok:∀ args p,g236 args=some p->p.1->Pur zP GG 236 args p.2:=by
 intro args p hp hc
 unfold g236 at hp
 split at hp
 ·cases hp;exact of_pur _ _ _ _
 ·cases hp
@[push_cast] def T3:Tab:=Tab.ext T2 236 g236
theorem T3_ok:TOk zP GG T3:=TOk.ext T2_ok g236_ok
def okP(a b c x y z:Int):Prop:=(0<=x/\x < a)/\(0<=y/\y < b)/\(0<=z/\z < c)
instance (a b c x y z:Int):Decidable (okP a b c x y z):=by unfold okP; infer_instance
def atV(a b c x y z:Int):Int:=if okD a b c/\okP a b c x y z then x+a*y+a*b*z else 0
def atE(a b c x y z:Int):Int:=if okD a b c then (if okP a b c x y z then 0 else 2) else 8
theorem at_bound{a b c x y z:Int}(h:okD a b c)(hp:okP a b c x y z):0<=a*y/\a*y<=240/\0<=a*b*z/\a*b*z<=3840:=by
 have hm:=zBx h;unfold okD at h;unfold okP at hp;have m1:0<=a*y:=Int.mul_nonneg (by omega) (by omega);have m2:a*y<=16*15:=Int.mul_le_mul (by omega) (by omega) (by omega) (by omega);have m3:0<=a*b*z:=Int.mul_nonneg (by omega) (by omega);have m4:a*b*z<=256*15:=Int.mul_le_mul (by omega) (by omega) (by omega) (by omega);omega
theorem e115:Ent zP 115 Tryz.f115 [] 2:=.mk Tryz.func115 rfl
theorem at_pur(a b c x y z:Int):Pur zP GG 115 [.agg [I a,I b,I c],.agg [I x,I y,I z]] (.tup [I (atV a b c x y z),I (atE a b c x y z)]):=by
 refine goQ e115 T3_ok 0 ?_;simp only[push_cast,seval,↓kw2];refine⟨fun h=>?_,fun h=>⟨_,rfl,zAa rfl ?_⟩⟩
 ·have hk:=chk_ok.1 h;have hm:=zBx hk;have hk':=hk;unfold okD at hk';have hab:0 < a*b:=Int.mul_pos (by omega) (by omega);refine FW.rangeFunc ?_;simp only[push_cast,seval,↓kw2,ACV];refine strides1 hk ?_;refine AY.of_loop rfl rfl ?_;refine goW T3_ok [] 0 ?_;simp only[push_cast,seval,↓kw2,parTs];refine FW.beginRound rfl rfl ?_;simp only[push_cast,seval,↓kw2];refine goW T3_ok [] 0 ?_;simp only[push_cast,seval,↓kw2];refine⟨fun h01=>?_,fun h01=>⟨fun h02=>?_,fun h02=>?_⟩⟩
  ·refine⟨rfl,_,rfl,⟨fun _=>?_,fun h0=>(by cases h0),_,rfl⟩⟩;refine⟨_,rfl,by simp[zCh],?_⟩;refine goW T3_ok [] 0 ?_;simp only[push_cast,seval,↓kw2,zCh];refine⟨_,rfl,zAa rfl ?_⟩;rw[atV,atE,if_neg (by unfold okP; omega),if_pos hk,if_neg (by unfold okP; omega)]
  ·refine⟨rfl,_,rfl,⟨fun _=>?_,fun h0=>(by cases h0),_,rfl⟩⟩;refine⟨_,rfl,by simp[zCh],?_⟩;refine goW T3_ok [] 0 ?_;simp only[push_cast,seval,↓kw2,zCh];refine⟨_,rfl,zAa rfl ?_⟩;rw[atV,atE,if_neg (by unfold okP; omega),if_pos hk,if_neg (by unfold okP; omega)]
  ·refine⟨rfl,_,rfl,⟨fun h0=>(by cases h0),fun _=>?_,_,rfl⟩⟩;refine AY.of_loop rfl rfl ?_;refine goW T3_ok [] 0 ?_;simp only[push_cast,seval,↓kw2,parTs];refine FW.beginRound rfl rfl ?_;simp only[push_cast,seval,↓kw2];refine goW T3_ok [] 0 ?_;simp only[push_cast,seval,↓kw2];refine⟨fun h11=>?_,fun h11=>⟨fun h12=>?_,fun h12=>?_⟩⟩
   ·refine⟨rfl,_,rfl,⟨fun _=>?_,fun h0=>(by cases h0),_,rfl⟩⟩;refine⟨_,rfl,by simp[zCh],?_⟩;refine goW T3_ok [] 0 ?_;simp only[push_cast,seval,↓kw2,zCh];refine⟨_,rfl,zAa rfl ?_⟩;rw[atV,atE,if_neg (by unfold okP; omega),if_pos hk,if_neg (by unfold okP; omega)]
   ·refine⟨rfl,_,rfl,⟨fun _=>?_,fun h0=>(by cases h0),_,rfl⟩⟩;refine⟨_,rfl,by simp[zCh],?_⟩;refine goW T3_ok [] 0 ?_;simp only[push_cast,seval,↓kw2,zCh];refine⟨_,rfl,zAa rfl ?_⟩;rw[atV,atE,if_neg (by unfold okP; omega),if_pos hk,if_neg (by unfold okP; omega)]
   ·refine⟨rfl,_,rfl,⟨fun h0=>(by cases h0),fun _=>?_,_,rfl⟩⟩;refine AY.of_loop rfl rfl ?_;refine goW T3_ok [] 0 ?_;simp only[push_cast,seval,↓kw2,parTs];refine FW.beginRound rfl rfl ?_;simp only[push_cast,seval,↓kw2];refine goW T3_ok [] 0 ?_;simp only[push_cast,seval,↓kw2];refine⟨fun h21=>?_,fun h21=>⟨fun h22=>?_,fun h22=>?_⟩⟩
    ·refine⟨rfl,_,rfl,⟨fun _=>?_,fun h0=>(by cases h0),_,rfl⟩⟩;refine⟨_,rfl,by simp[zCh],?_⟩;refine goW T3_ok [] 0 ?_;simp only[push_cast,seval,↓kw2,zCh];refine⟨_,rfl,zAa rfl ?_⟩;rw[atV,atE,if_neg (by unfold okP; omega),if_pos hk,if_neg (by unfold okP; omega)]
    ·refine⟨rfl,_,rfl,⟨fun _=>?_,fun h0=>(by cases h0),_,rfl⟩⟩;refine⟨_,rfl,by simp[zCh],?_⟩;refine goW T3_ok [] 0 ?_;simp only[push_cast,seval,↓kw2,zCh];refine⟨_,rfl,zAa rfl ?_⟩;rw[atV,atE,if_neg (by unfold okP; omega),if_pos hk,if_neg (by unfold okP; omega)]
    ·refine⟨rfl,_,rfl,⟨fun h0=>(by cases h0),fun _=>?_,_,rfl⟩⟩;refine⟨_,rfl,by simp[zCh],?_⟩;refine goW T3_ok [] 0 ?_;simp only[push_cast,seval,↓kw2,zCh];have hp:okP a b c x y z:=by unfold okP; omega
     have hb:=at_bound hk hp;refine⟨_,rfl,zAa rfl ?_⟩;unfold okP at hp;rw[Int.one_mul,zAl (n:=x) (by omega) (by omega),zAl (n:=x) (by omega) (by omega),zAl (n:=a*y) (by omega) (by omega),zAl (n:=a*b*z) (by omega) (by omega),
      zAl (n:=x+a*y) (by omega) (by omega),zAl (by omega) (by omega),atV,atE,if_pos ⟨hk,by unfold okP; omega⟩,if_pos hk,if_pos (by unfold okP; omega)]
 ·rw[atV,atE,if_neg (fun hk=>h (chk_ok.2 hk.1)),if_neg (fun hk=>h (chk_ok.2 hk)),chk_no (fun hk=>h (chk_ok.2 hk))]
@[push_cast] def g115:List AV->Option (Prop × AV)
 | [.agg [(.c (.int .i64 a)),(.c (.int .i64 b)),(.c (.int .i64 c))],.agg [(.c (.int .i64 x)),(.c (.int .i64 y)),(.c (.int .i64 z))]]=>some (True,.tup [I (atV a b c x y z),I (atE a b c x y z)])
 | _=>none
theorem g115_ok:∀ args p,g115 args=some p->p.1->Pur zP GG 115 args p.2:=by
 intro args p hp hc
 unfold g115 at hp
 split at hp
 ·cases hp;exact at_pur _ _ _ _ _ _
 ·cases hp
@[push_cast] def T4:Tab:=Tab.ext T3 115 g115
theorem T4_ok:TOk zP GG T4:=TOk.ext T3_ok g115_ok
def ok1(n s x:Int):Prop:=1<=s/\s<=n/\0<=x/\x < n
instance (n s x:Int):Decidable (ok1 n s x):=by unfold ok1; infer_instance
def okB(a b c x y z p q r:Int):Prop:=ok1 a p x/\ok1 b q y/\ok1 c r z
instance (a b c x y z p q r:Int):Decidable (okB a b c x y z p q r):=by unfold okB; infer_instance
def ckB(a b c x y z p q r:Int):Int:=if okD a b c then (if okB a b c x y z p q r then 0 else 2) else 8
theorem e136:Ent zP 136 Tryz.f136 [] 2:=.mk Tryz.func136 rfl
theorem boxCheck_pur(a b c x y z p q r:Int):Pur zP GG 136 [.agg [I a,I b,I c],.agg [I x,I y,I z,I p,I q,I r]] (I (ckB a b c x y z p q r)):=by
 refine goQ e136 T4_ok 5 ?_;simp(maxSteps:=2000000)only[push_cast,seval,↓kw2];refine⟨fun h=>?_,fun h=>⟨_,rfl,zAa rfl ?_⟩⟩
 ·have hk:=chk_ok.1 h
  repeat' (first | apply And.intro | intro _)
  all_goals
   refine⟨_,rfl,zAa rfl ?_⟩;simp only[AV.c.injEq,Value.int.injEq,true_and,ckB];rw[if_pos hk]
   first | (rw[if_pos (by unfold okB ok1; omega)]) | (rw[if_neg (by unfold okB ok1; omega)])
 ·rw[ckB,if_neg (fun hk=>h (chk_ok.2 hk)),chk_no (fun hk=>h (chk_ok.2 hk))]
@[push_cast] def g136:List AV->Option (Prop × AV)
 | [.agg [(.c (.int .i64 a)),(.c (.int .i64 b)),(.c (.int .i64 c))],.agg [(.c (.int .i64 x)),(.c (.int .i64 y)),(.c (.int .i64 z)),(.c (.int .i64 p)),(.c (.int .i64 q)),(.c (.int .i64 r))]]=>some (True,I (ckB a b c x y z p q r))
 | _=>none
theorem g136_ok:∀ args p,g136 args=some p->p.1->Pur zP GG 136 args p.2:=by
 intro args p hp hc
 unfold g136 at hp
 split at hp
 ·cases hp;exact boxCheck_pur _ _ _ _ _ _ _ _ _
 ·cases hp
@[push_cast] def T5:Tab:=Tab.ext T4 136 g136
theorem T5_ok:TOk zP GG T5:=TOk.ext T4_ok g136_ok
def can(e n s x:Int):Int:=if e=0 then (if s=n then 0 else x) else 0
def cas(e s:Int):Int:=if e=0 then s else 0
theorem can_t{e n s x:Int}(h0:e=0)(h:s=n):can e n s x=0:=by simp[can,h]
theorem can_f{e n s x:Int}(h0:e=0)(h:¬s=n):can e n s x=x:=by simp[can,h,h0]
theorem can_n{e n s x:Int}(h0:¬e=0):can e n s x=0:=by simp[can,h0]
theorem cas_t{e s:Int}(h0:e=0):cas e s=s:=by simp[cas,h0]
theorem cas_n{e s:Int}(h0:¬e=0):cas e s=0:=by simp[cas,h0]
theorem e76:Ent zP 76 Tryz.f76 [] 2:=.mk Tryz.func76 rfl
theorem canon_pur(a b c x y z p q r:Int):Pur zP GG 76 [.agg [I a,I b,I c],.agg [I x,I y,I z,I p,I q,I r]] (.tup [.agg [I (can (ckB a b c x y z p q r) a p x),I (can (ckB a b c x y z p q r) b q y),I (can (ckB a b c x y z p q r) c r z),I (cas (ckB a b c x y z p q r) p),I (cas (ckB a b c x y z p q r) q),I (cas (ckB a b c x y z p q r) r)],I (ckB a b c x y z p q r)]):=by
 refine goQ e76 T5_ok 5 ?_;simp(maxSteps:=2000000)only[push_cast,seval,↓kw2];refine⟨fun h=>?_,fun h=>⟨_,rfl,zAa rfl (by rw[can_n h,can_n h,can_n h,cas_n h,cas_n h,cas_n h])⟩⟩;rw[cas_t h,cas_t h,cas_t h];refine⟨fun h1=>⟨fun h2=>⟨fun h3=>?_,fun h3=>?_⟩,fun h2=>⟨fun h3=>?_,fun h3=>?_⟩⟩,fun h1=>⟨fun h2=>⟨fun h3=>?_,fun h3=>?_⟩,fun h2=>⟨fun h3=>?_,fun h3=>?_⟩⟩⟩
 all_goals
  refine⟨_,rfl,zAa rfl ?_⟩
  first | rw[can_t h h1] | rw[can_f h h1]
  first | rw[can_t h h2] | rw[can_f h h2]
  first | rw[can_t h h3,h] | rw[can_f h h3,h]
@[push_cast] def g76:List AV->Option (Prop × AV)
 | [.agg [(.c (.int .i64 a)),(.c (.int .i64 b)),(.c (.int .i64 c))],.agg [(.c (.int .i64 x)),(.c (.int .i64 y)),(.c (.int .i64 z)),(.c (.int .i64 p)),(.c (.int .i64 q)),(.c (.int .i64 r))]]=>some (True,.tup [.agg [I (can (ckB a b c x y z p q r) a p x),I (can (ckB a b c x y z p q r) b q y),I (can (ckB a b c x y z p q r) c r z),I (cas (ckB a b c x y z p q r) p),I (cas (ckB a b c x y z p q r) q),I (cas (ckB a b c x y z p q r) r)],I (ckB a b c x y z p q r)])
 | _=>none
theorem g76_ok:∀ args p,g76 args=some p->p.1->Pur zP GG 76 args p.2:=by
 intro args p hp hc
 unfold g76 at hp
 split at hp
 ·cases hp;exact canon_pur _ _ _ _ _ _ _ _ _
 ·cases hp
@[push_cast] def T6:Tab:=Tab.ext T5 76 g76
theorem T6_ok:TOk zP GG T6:=TOk.ext T5_ok g76_ok
def stp(x n s:Int):Int:=(x+s.tmod n+n).tmod n
theorem stp_wrap{x n s:Int}(h1:0<=x)(h2:x < n)(h3:n<=16):(IntKind.i64.wrap (IntKind.i64.wrap (x+s.tmod n)+n)).tmod n=stp x n s:=by
 have h4:s.tmod n < n:=Int.tmod_lt_of_pos s (by omega);have h5:-n < s.tmod n:=Int.lt_tmod_of_pos s (by omega);rw[zAl (n:=x+s.tmod n) (by omega) (by omega),zAl (by omega) (by omega),stp]
theorem of0{a b c m:Int}(h:ofE a b c m=0):inM a b c m:=by
 unfold ofE at h
 split at h
 ·split at h
  ·exact⟨by assumption,by omega,by omega⟩
  ·omega
 ·omega
theorem of_bounds{a b c m:Int}(h:inM a b c m):(0<=ofX a b c m/\ofX a b c m < a)/\(0<=ofY a b c m/\ofY a b c m < b)/\(0<=ofZ a b c m/\ofZ a b c m < c)/\(1<=a/\a<=16)/\(1<=b/\b<=16)/\(1<=c/\c<=16):=by
 have hd:=h.1;unfold okD at hd;rw[ofX,ofY,ofZ,if_pos h,if_pos h,if_pos h];exact⟨⟨Int.emod_nonneg _ (by omega),Int.emod_lt_of_pos _ (by omega)⟩,⟨Int.emod_nonneg _ (by omega),Int.emod_lt_of_pos _ (by omega)⟩,⟨Int.emod_nonneg _ (by omega),Int.emod_lt_of_pos _ (by omega)⟩,hd⟩
def stV0(a b c m s:Int):Int:=if ofE a b c m=0 then atV a b c (stp (ofX a b c m) a s) (ofY a b c m) (ofZ a b c m) else 0
def stE0(a b c m s:Int):Int:=if ofE a b c m=0 then atE a b c (stp (ofX a b c m) a s) (ofY a b c m) (ofZ a b c m) else ofE a b c m
theorem e233:Ent zP 233 Tryz.f233 [] 4:=.mk Tryz.func233 rfl
theorem step0_pur(a b c m s:Int):Pur zP GG 233 [.agg [I a,I b,I c],I m,I 0,I s] (.tup [I (stV0 a b c m s),I (stE0 a b c m s)]):=by
 refine goQ e233 T6_ok 0 ?_;simp only[push_cast,seval,↓kw2];refine⟨fun h=>?_,fun h=>⟨_,rfl,zAa rfl (by rw[stV0,stE0,if_neg h,if_neg h])⟩⟩;have hb:=of_bounds (of0 h);refine⟨by omega,by omega,⟨_,rfl,zAa rfl ?_⟩⟩;rw[stp_wrap (by omega) (by omega) (by omega),stV0,stE0,if_pos h,if_pos h]
def stV1(a b c m s:Int):Int:=if ofE a b c m=0 then atV a b c (ofX a b c m) (stp (ofY a b c m) b s) (ofZ a b c m) else 0
def stE1(a b c m s:Int):Int:=if ofE a b c m=0 then atE a b c (ofX a b c m) (stp (ofY a b c m) b s) (ofZ a b c m) else ofE a b c m
theorem step1_pur(a b c m s:Int):Pur zP GG 233 [.agg [I a,I b,I c],I m,I 1,I s] (.tup [I (stV1 a b c m s),I (stE1 a b c m s)]):=by
 refine goQ e233 T6_ok 0 ?_;simp only[push_cast,seval,↓kw2];refine⟨fun h=>?_,fun h=>⟨_,rfl,zAa rfl (by rw[stV1,stE1,if_neg h,if_neg h])⟩⟩;have hb:=of_bounds (of0 h);refine⟨by omega,by omega,⟨_,rfl,zAa rfl ?_⟩⟩;rw[stp_wrap (by omega) (by omega) (by omega),stV1,stE1,if_pos h,if_pos h]
def stV2(a b c m s:Int):Int:=if ofE a b c m=0 then atV a b c (ofX a b c m) (ofY a b c m) (stp (ofZ a b c m) c s) else 0
def stE2(a b c m s:Int):Int:=if ofE a b c m=0 then atE a b c (ofX a b c m) (ofY a b c m) (stp (ofZ a b c m) c s) else ofE a b c m
theorem step2_pur(a b c m s:Int):Pur zP GG 233 [.agg [I a,I b,I c],I m,I 2,I s] (.tup [I (stV2 a b c m s),I (stE2 a b c m s)]):=by
 refine goQ e233 T6_ok 0 ?_;simp only[push_cast,seval,↓kw2];refine⟨fun h=>?_,fun h=>⟨_,rfl,zAa rfl (by rw[stV2,stE2,if_neg h,if_neg h])⟩⟩;have hb:=of_bounds (of0 h);refine⟨by omega,by omega,⟨_,rfl,zAa rfl ?_⟩⟩;rw[stp_wrap (by omega) (by omega) (by omega),stV2,stE2,if_pos h,if_pos h]
theorem stepN_pur(a b c m k s:Int)(hp:k < 0\/2 < k):Pur zP GG 233 [.agg [I a,I b,I c],I m,I k,I s] (.tup [I 0,I (if ofE a b c m=0 then 2 else ofE a b c m)]):=by
 refine goQ e233 T6_ok 0 ?_;simp only[push_cast,seval,↓kw2];refine⟨fun h=>⟨fun h1=>⟨_,rfl,zAa rfl (by rw[if_pos h])⟩,fun h1=>⟨fun h2=>⟨_,rfl,zAa rfl (by rw[if_pos h])⟩,fun h2=>absurd hp (by omega)⟩⟩,fun h=>⟨_,rfl,zAa rfl (by rw[if_neg h])⟩⟩
def stV(a b c m k s:Int):Int:=if k=0 then stV0 a b c m s else if k=1 then stV1 a b c m s else if k=2 then stV2 a b c m s else 0
def stE(a b c m k s:Int):Int:=if k=0 then stE0 a b c m s else if k=1 then stE1 a b c m s else if k=2 then stE2 a b c m s else if ofE a b c m=0 then 2 else ofE a b c m
theorem step_pur(a b c m k s:Int):Pur zP GG 233 [.agg [I a,I b,I c],I m,I k,I s] (.tup [I (stV a b c m k s),I (stE a b c m k s)]):=by
 unfold stV stE
 by_cases h0:k=0
 ·subst h0; rw[if_pos rfl,if_pos rfl]; exact step0_pur a b c m s
 ·rw[if_neg h0,if_neg h0]
  by_cases h1:k=1
  ·subst h1; rw[if_pos rfl,if_pos rfl]; exact step1_pur a b c m s
  ·rw[if_neg h1,if_neg h1]
   by_cases h2:k=2
   ·subst h2; rw[if_pos rfl,if_pos rfl]; exact step2_pur a b c m s
   ·rw[if_neg h2,if_neg h2]; exact stepN_pur a b c m k s (by omega)
def gstep:List AV->Option (Prop × AV)
 | [.agg [.c (.int .i64 a),.c (.int .i64 b),.c (.int .i64 c)],.c (.int .i64 m),.c (.int .i64 k),.c (.int .i64 s)]=>some (True,.tup [I (stV a b c m k s),I (stE a b c m k s)])
 | _=>none
theorem gstep_ok:∀ args p,gstep args=some p->p.1->Pur zP GG 233 args p.2:=by
 intro args p hp hc
 unfold gstep at hp
 split at hp
 ·cases hp;exact step_pur _ _ _ _ _ _
 ·cases hp
attribute [push_cast] gstep
@[push_cast] def T7:Tab:=Tab.ext T6 233 gstep
theorem T7_ok:TOk zP GG T7:=TOk.ext T6_ok gstep_ok
def zBe(n:Int):Int:=if 1<=n/\n<=12288 then (n+63) / 64 else -1
theorem e104:Ent zP 104 Tryz.f104 [] 1:=.mk Tryz.func104 rfl
theorem words_pur(n:Int):Pur zP GG 104 [I n] (I (zBe n)):=by
 refine goQ e104 T7_ok 0 ?_;simp only[push_cast,seval,↓kw2];refine⟨fun h=>⟨_,rfl,zAa rfl (by rw[zBe,if_neg (by omega)])⟩,fun h=>⟨fun h2=>⟨_,rfl,zAa rfl (by rw[zBe,if_neg (by omega)])⟩,fun h2=>?_⟩⟩;refine⟨_,rfl,zAa rfl ?_⟩;rw[zAl (n:=n+64) (by omega) (by omega),zAl (n:=n+64 - 1) (by omega) (by omega),Int.tdiv_eq_ediv_of_nonneg (by omega),zAl (by omega) (by omega),zBe,if_pos (by omega),show n+64 - 1=n+63 by omega]
@[push_cast] def g104:List AV->Option (Prop × AV)
 | [(.c (.int .i64 n))]=>some (True,I (zBe n))
 | _=>none
theorem g104_ok:∀ args p,g104 args=some p->p.1->Pur zP GG 104 args p.2:=by
 intro args p hp hc
 unfold g104 at hp
 split at hp
 ·cases hp;exact words_pur _
 ·cases hp
@[push_cast] def T8:Tab:=Tab.ext T7 104 g104
theorem T8_ok:TOk zP GG T8:=TOk.ext T7_ok g104_ok
def bitV(b:Bool):Int:=if b=true then 1 else 0
theorem zDz{b:Bool}{k:Bool->Bool->Prop}{e:Prop}:gdK (.c (.bool b)) k e=((b=true->k true true)/\(b=false->k true false)):=by cases b <;> simp[gdK]
theorem e229:Ent zP 229 Tryz.f229 [] 1:=.mk Tryz.func229 rfl
theorem bit4_pur(b:Bool):Pur zP GG 229 [B b] (I (bitV b)):=by
 refine goQ e229 T8_ok 0 ?_;simp only[push_cast,seval,↓kw2,zDz];exact⟨fun h=>⟨_,rfl,zAa rfl (by rw[bitV,if_pos h])⟩,fun h=>⟨_,rfl,zAa rfl (by rw[bitV,if_neg (by simp[h])])⟩⟩
@[push_cast] def g229:List AV->Option (Prop × AV)
 | [(.c (.bool b))]=>some (True,I (bitV b))
 | _=>none
theorem g229_ok:∀ args p,g229 args=some p->p.1->Pur zP GG 229 args p.2:=by
 intro args p hp hc
 unfold g229 at hp
 split at hp
 ·cases hp;exact bit4_pur _
 ·cases hp
@[push_cast] def T9:Tab:=Tab.ext T8 229 g229
theorem T9_ok:TOk zP GG T9:=TOk.ext T8_ok g229_ok
theorem e239:Ent zP 239 Tryz.f239 [] 1:=.mk Tryz.func239 rfl
theorem bit12_pur(b:Bool):Pur zP GG 239 [B b] (I (bitV b)):=by
 refine goQ e239 T9_ok 0 ?_;simp only[push_cast,seval,↓kw2,zDz];exact⟨fun h=>⟨_,rfl,zAa rfl (by rw[bitV,if_pos h])⟩,fun h=>⟨_,rfl,zAa rfl (by rw[bitV,if_neg (by simp[h])])⟩⟩
@[push_cast] def g239:List AV->Option (Prop × AV)
 | [(.c (.bool b))]=>some (True,I (bitV b))
 | _=>none
theorem g239_ok:∀ args p,g239 args=some p->p.1->Pur zP GG 239 args p.2:=by
 intro args p hp hc
 unfold g239 at hp
 split at hp
 ·cases hp;exact bit12_pur _
 ·cases hp
@[push_cast] def T10:Tab:=Tab.ext T9 239 g239
theorem T10_ok:TOk zP GG T10:=TOk.ext T9_ok g239_ok
theorem e189:Ent zP 189 Tryz.f189 [] 1:=.mk Tryz.func189 rfl
theorem nan_pur(n:Int):Pur zP GG 189 [I n] (B false):=by
 refine goQ e189 T10_ok 0 ?_;simp only[push_cast,seval,↓kw2];exact⟨_,rfl,zAa rfl rfl⟩
@[push_cast] def g189:List AV->Option (Prop × AV)
 | [(.c (.int .i64 n))]=>some (True,B false)
 | _=>none
theorem g189_ok:∀ args p,g189 args=some p->p.1->Pur zP GG 189 args p.2:=by
 intro args p hp hc
 unfold g189 at hp
 split at hp
 ·cases hp;exact nan_pur _
 ·cases hp
@[push_cast] def T11:Tab:=Tab.ext T10 189 g189
theorem T11_ok:TOk zP GG T11:=TOk.ext T10_ok g189_ok
def cmpV(m n:Int):Int:=if m < n then -1 else if n < m then 1 else 0
theorem e118:Ent zP 118 Tryz.f118 [] 2:=.mk Tryz.func118 rfl
theorem cmp_pur(m n:Int):Pur zP GG 118 [I m,I n] (I (cmpV m n)):=by
 refine goQ e118 T11_ok 0 ?_;simp only[push_cast,seval,↓kw2];exact⟨fun h=>⟨_,rfl,zAa rfl (by rw[cmpV,if_pos h])⟩,fun h=>⟨fun h2=>⟨_,rfl,zAa rfl (by rw[cmpV,if_neg h,if_pos h2])⟩,fun h2=>⟨_,rfl,zAa rfl (by rw[cmpV,if_neg h,if_neg h2])⟩⟩⟩
@[push_cast] def g118:List AV->Option (Prop × AV)
 | [(.c (.int .i64 m)),(.c (.int .i64 n))]=>some (True,I (cmpV m n))
 | _=>none
theorem g118_ok:∀ args p,g118 args=some p->p.1->Pur zP GG 118 args p.2:=by
 intro args p hp hc
 unfold g118 at hp
 split at hp
 ·cases hp;exact cmp_pur _ _
 ·cases hp
@[push_cast] def T12:Tab:=Tab.ext T11 118 g118
theorem T12_ok:TOk zP GG T12:=TOk.ext T11_ok g118_ok
def okA(a b c k m:Int):Prop:=(0<=k/\k<=2)/\0<=m/\m < zAf a b c
instance (a b c k m:Int):Decidable (okA a b c k m):=by unfold okA; infer_instance
def askE(a b c k m:Int):Int:=if chk a b c=0 then (if okA a b c k m then 0 else 2) else chk a b c
theorem e170:Ent zP 170 Tryz.f170 [] 3:=.mk Tryz.func170 rfl
theorem asked_pur(a b c k m:Int):Pur zP GG 170 [.agg [I a,I b,I c],I k,I m] (I (askE a b c k m)):=by
 refine goQ e170 T12_ok 0 ?_;simp only[push_cast,seval,↓kw2];unfold askE
 repeat' (first | apply And.intro | intro _)
 all_goals
  refine⟨_,rfl,zAa rfl ?_⟩
  first
   | (rw[if_neg (by assumption)]; done)
   | (rw[if_pos (by assumption),if_pos (by unfold okA; omega)]; done)
   | (rename_i hc _ _ _ _; rw[if_pos hc,if_pos (by unfold okA; omega),hc]; done)
   | (rw[if_pos (by assumption),if_neg (by unfold okA; omega)])
@[push_cast] def g170:List AV->Option (Prop × AV)
 | [.agg [(.c (.int .i64 a)),(.c (.int .i64 b)),(.c (.int .i64 c))],(.c (.int .i64 k)),(.c (.int .i64 m))]=>some (True,I (askE a b c k m))
 | _=>none
theorem g170_ok:∀ args p,g170 args=some p->p.1->Pur zP GG 170 args p.2:=by
 intro args p hp hc
 unfold g170 at hp
 split at hp
 ·cases hp;exact asked_pur _ _ _ _ _
 ·cases hp
@[push_cast] def T13:Tab:=Tab.ext T12 170 g170
theorem T13_ok:TOk zP GG T13:=TOk.ext T12_ok g170_ok
theorem ask0{a b c k m:Int}(h:askE a b c k m=0):okA a b c k m/\chk a b c=0:=by
 unfold askE at h
 split at h
 ·split at h
  ·exact⟨by assumption,by assumption⟩
  ·omega
 ·exact absurd h (by assumption)
theorem many_le{a b c:Int}:0<=zAf a b c/\zAf a b c<=4096:=by
 unfold zAf
 split
 ·rename_i h; have:=zBx h; omega
 ·omega
def linkV(n a b c k m:Int):Int:=if askE a b c k m=0/\¬n=1 then k*zAf a b c+m else 0
def linkE(n a b c k m:Int):Int:=if askE a b c k m=0 then (if n=1 then 6 else 0) else askE a b c k m
theorem e234:Ent zP 234 Tryz.f234 [] 3:=.mk Tryz.func234 rfl
theorem link0_pur(a b c m:Int):Pur zP GG 234 [.agg [I a,I b,I c],I 0,I m] (.tup [I (linkV a a b c 0 m),I (linkE a a b c 0 m)]):=by
 refine goQ e234 T13_ok 0 ?_;simp only[push_cast,seval,↓kw2];refine⟨fun h=>?_,fun h=>⟨_,rfl,zAa rfl (by rw[linkV,linkE,if_neg (fun hh=>h hh.1),if_neg h])⟩⟩;have hA:=ask0 h;have hm:=many_le (a:=a) (b:=b) (c:=c);have hA1:=hA.1;unfold okA at hA1;refine⟨fun h1=>⟨_,rfl,zAa rfl (by rw[linkV,linkE,if_neg (fun hh=>hh.2 h1),if_pos h,if_pos h1])⟩,fun h1=>⟨_,rfl,zAa rfl ?_⟩⟩;rw[linkV,linkE,if_pos ⟨h,h1⟩,if_pos h,if_neg h1,zAl (n:=_*zAf a b c) (by omega) (by omega),zAl (by omega) (by omega)]
theorem link1_pur(a b c m:Int):Pur zP GG 234 [.agg [I a,I b,I c],I 1,I m] (.tup [I (linkV b a b c 1 m),I (linkE b a b c 1 m)]):=by
 refine goQ e234 T13_ok 0 ?_;simp only[push_cast,seval,↓kw2];refine⟨fun h=>?_,fun h=>⟨_,rfl,zAa rfl (by rw[linkV,linkE,if_neg (fun hh=>h hh.1),if_neg h])⟩⟩;have hA:=ask0 h;have hm:=many_le (a:=a) (b:=b) (c:=c);have hA1:=hA.1;unfold okA at hA1;refine⟨fun h1=>⟨_,rfl,zAa rfl (by rw[linkV,linkE,if_neg (fun hh=>hh.2 h1),if_pos h,if_pos h1])⟩,fun h1=>⟨_,rfl,zAa rfl ?_⟩⟩;rw[linkV,linkE,if_pos ⟨h,h1⟩,if_pos h,if_neg h1,zAl (n:=_*zAf a b c) (by omega) (by omega),zAl (by omega) (by omega)]
theorem link2_pur(a b c m:Int):Pur zP GG 234 [.agg [I a,I b,I c],I 2,I m] (.tup [I (linkV c a b c 2 m),I (linkE c a b c 2 m)]):=by
 refine goQ e234 T13_ok 0 ?_;simp only[push_cast,seval,↓kw2];refine⟨fun h=>?_,fun h=>⟨_,rfl,zAa rfl (by rw[linkV,linkE,if_neg (fun hh=>h hh.1),if_neg h])⟩⟩;have hA:=ask0 h;have hm:=many_le (a:=a) (b:=b) (c:=c);have hA1:=hA.1;unfold okA at hA1;refine⟨fun h1=>⟨_,rfl,zAa rfl (by rw[linkV,linkE,if_neg (fun hh=>hh.2 h1),if_pos h,if_pos h1])⟩,fun h1=>⟨_,rfl,zAa rfl ?_⟩⟩;rw[linkV,linkE,if_pos ⟨h,h1⟩,if_pos h,if_neg h1,zAl (n:=_*zAf a b c) (by omega) (by omega),zAl (by omega) (by omega)]
theorem linkN_pur(a b c k m:Int)(hp:k < 0\/2 < k):Pur zP GG 234 [.agg [I a,I b,I c],I k,I m] (.tup [I 0,I (askE a b c k m)]):=by
 refine goQ e234 T13_ok 0 ?_;simp only[push_cast,seval,↓kw2];have h0:¬askE a b c k m=0:=fun h=>by have:=(ask0 h).1; unfold okA at this; omega
 exact⟨fun h=>absurd h h0,fun h=>⟨_,rfl,zAa rfl rfl⟩⟩
def dimV(a b c k:Int):Int:=if k=0 then a else if k=1 then b else c
theorem link_pur(a b c k m:Int):Pur zP GG 234 [.agg [I a,I b,I c],I k,I m] (.tup [I (linkV (dimV a b c k) a b c k m),I (linkE (dimV a b c k) a b c k m)]):=by
 unfold dimV
 by_cases h0:k=0
 ·subst h0; exact link0_pur a b c m
 ·rw[if_neg h0]
  by_cases h1:k=1
  ·subst h1; exact link1_pur a b c m
  ·rw[if_neg h1]
   by_cases h2:k=2
   ·subst h2; exact link2_pur a b c m
   ·have hn:¬askE a b c k m=0:=fun h=>by have:=(ask0 h).1; unfold okA at this; omega
    rw[linkV,linkE,if_neg (fun hh=>hn hh.1),if_neg hn];exact linkN_pur a b c k m (by omega)
def glink:List AV->Option (Prop × AV)
 | [.agg [.c (.int .i64 a),.c (.int .i64 b),.c (.int .i64 c)],.c (.int .i64 k),.c (.int .i64 m)]=>some (True,.tup [I (linkV (dimV a b c k) a b c k m),I (linkE (dimV a b c k) a b c k m)])
 | _=>none
theorem glink_ok:∀ args p,glink args=some p->p.1->Pur zP GG 234 args p.2:=by
 intro args p hp hc
 unfold glink at hp
 split at hp
 ·cases hp;exact link_pur _ _ _ _ _
 ·cases hp
attribute [push_cast] glink
@[push_cast] def T16:Tab:=Tab.ext T13 234 glink
theorem T16_ok:TOk zP GG T16:=TOk.ext T13_ok glink_ok
abbrev U(n:Int):AV:=.c (.int .u64 n)
@[simp] theorem purL_U (ws:List Int):AV.purL (List.map U ws)=true:=by
 rw[purL_eq,List.all_eq_true]
 intro x hx
 obtain⟨w,_,rfl⟩:=List.mem_map.1 hx;rfl
theorem getD_U{ws:List Int}{i:Nat}(h:i < ws.length):(List.map U ws).getD i .un=U (ws.getD i 0):=by simp[List.getD,h]
def schk(n:Int)(ws:List Int):Int:=if zBe n < 0 then 2 else if (ws.length:Int)=zBe n/\(0 < n % 64->(ws.getD (zBe n - 1).toNat 0).fdiv (2^(n % 64).toNat)=0) then 0 else 8
theorem e107:Ent zP 107 Tryz.f107 [] 2:=.mk Tryz.func107 rfl
theorem zBl(n:Int)(ws:List Int):Pur zP GG 107 [I n,.isl (ws.map U)] (I (schk n ws)):=by
 refine goQ e107 T16_ok 0 ?_;simp(maxSteps:=2000000)only[push_cast,seval,↓kw2,zDz,gsK,zM];have hw0:decide (zBe n < 0)=false->1<=n/\n<=12288:=fun h=>by
  unfold zBe at h
  split at h
  ·assumption
  ·simp at h
 refine⟨fun h=>?_,fun h=>⟨fun h2=>?_,fun h2=>?_⟩⟩
 ·refine⟨_,rfl,zAa rfl ?_⟩;have:zBe n < 0:=by simpa using h
  rw[schk,if_pos this]
 ·have hn:¬zBe n < 0:=by simpa using h
  have hl:¬(ws.length:Int)=zBe n:=by simpa using h2
  refine⟨fun _=>⟨_,rfl,zAa rfl ?_⟩,fun h3=>absurd (h2.symm.trans h3) (by simp)⟩;rw[schk,if_neg hn,if_neg (fun hh=>hl hh.1)]
 ·have hn:=hw0 h;have hn0:¬zBe n < 0:=by simpa using h
  have hwv:zBe n=(n+63) / 64:=by rw[zBe,if_pos hn]
  have hl:(ws.length:Int)=zBe n:=by simpa using h2
  have hm:n.tmod 64=n % 64:=Int.tmod_eq_emod_of_nonneg (by omega)
  by_cases h3:0 < n.tmod 64
  ·have e3:(decide (0 < n.tmod 64)==true)=true:=by simp[h3]
   simp(maxSteps:=2000000)only[push_cast,seval,↓kw2,zDz,gsK,zM,e3,h3,decide_true];have hi:(zBe n - 1).toNat < ws.length:=by omega
   rw[zAl (n:=zBe n - 1) (by omega) (by omega)];simp only[getD_U hi];refine⟨⟨⟨by omega,by omega⟩,rfl⟩,?_⟩;simp(maxSteps:=2000000)only[push_cast,seval,↓kw2,zDz,gsK,zM,List.length_cons,List.length_nil,List.take];have hb:min (n.tmod 64).toNat IntKind.u64.bits=(n % 64).toNat:=by
    rw[hm,show IntKind.u64.bits=64 from rfl]; omega
   rw[hb];refine⟨by omega,fun h4=>⟨_,rfl,zAa rfl ?_⟩,fun h4=>⟨_,rfl,zAa rfl ?_⟩⟩
   ·have h5:¬(ws.getD (zBe n - 1).toNat 0).fdiv (2^(n % 64).toNat)=0:=by simpa using h4
    rw[schk,if_neg hn0,if_neg (fun hh=>h5 (hh.2 (by omega)))]
   ·have h5:(ws.getD (zBe n - 1).toNat 0).fdiv (2^(n % 64).toNat)=0:=by simpa using h4
    rw[schk,if_neg hn0,if_pos ⟨hl,fun _=>h5⟩]
  ·have e3:(decide (0 < n.tmod 64)==true)=false:=by simp[h3]
   simp(maxSteps:=2000000)only[push_cast,seval,↓kw2,zDz,gsK,zM,e3,h3,decide_false];refine⟨_,rfl,zAa rfl ?_⟩;rw[schk,if_neg hn0,if_pos ⟨hl,fun h4=>absurd h4 (by omega)⟩]
end Go.Ab.Pd
