/- One of the texts that this claim stands on. -/
import Derived.Test.YtnfnhccebebflaaGreatEv38
import Derived.Test.YtnfnhccebebflaaGreatEv39
import Derived.Test.YtnfnhccebebflaaGreatEv37
import Derived.Test.YtnfnhccebebflaaGreatEv12
set_option maxHeartbeats 40000000
set_option maxRecDepth 400000
set_option linter.all false
namespace Go.Ab.Pd
open Go.Proofs
theorem setsN_pur(a b c x y z p q r:Int)(s t u:Bool)(h:¬pchk a b c x y z p q r s t u=0):Pur Tryz.prog GG 86 [.agg [I a,I b,I c],PL x y z p q r s t u] (.tup [.c (.slice none 0 0),.c (.slice none 0 0),I (pchk a b c x y z p q r s t u)]):=by
 refine goQ e86 zFn 0 ?_;simp only[push_cast,seval,↓kw2,h];exact⟨_,rfl,zAa rfl rfl⟩
attribute [push_cast] Tryz.f87
attribute [push_cast] Tryz.f88
attribute [push_cast] Tryz.f33
def zDm{α:Type}(pr:α→Bool):List α→Nat→Int
 | [],_=>-1
 | x::l,i=>if pr x=true then (i:Int) else zDm pr l (i+1)
theorem firstI_cons{α:Type}(pr:α→Bool)(x:α)(l:List α)(i:Nat):zDm pr (x::l) i=if pr x=true then (i:Int) else zDm pr l (i+1):=rfl
theorem firstI_no{α:Type}{pr:α→Bool}:∀ {l:List α} {i:Nat},zDm pr l i=-1→∀ x∈l,pr x=false
 | [],_,_=>by simp
 | x::l,i,h=>by
  unfold zDm at h
  split at h
  ·omega
  ·rename_i hx
   intro y hy
   rcases List.mem_cons.1 hy with rfl | hy
   ·simpa using hx
   ·exact firstI_no h y hy
theorem firstI_yes{α:Type}[Inhabited α]{pr:α→Bool}:∀ {l:List α} {i:Nat},¬ zDm pr l i=-1→∃ k,k < l.length∧zDm pr l i=((i+k:Nat):Int)∧pr (l.getD k default)=true∧∀ x∈l.take k,pr x=false
 | [],_,h=>absurd rfl h
 | x::l,i,h=>by
  unfold zDm at h ⊢
  split
  ·rename_i hx;exact⟨0,by simp,by simp,by simpa using hx,by simp⟩
  ·rename_i hx;rw[if_neg hx]at h;obtain⟨k,h1,h2,h3,h4⟩:=firstI_yes h;refine⟨k+1,by simp; omega,by rw[h2]; congr 1; omega,by simpa using h3,fun y hy=>?_⟩;rw[List.take_succ_cons]at hy
   rcases List.mem_cons.1 hy with rfl | hy
   ·simpa using hx
   ·exact h4 y hy
attribute [push_cast] Tryz.f80
def SameK(s s':AV):Prop:=(s=.c (.slice none 0 0)∧s'=.c (.slice none 0 0))∨∃ id n cap n' cap',s=.sl id 0 n cap∧s'=.sl id 0 n' cap'
theorem SegP.same{H:List AO}{s:AV}{l:List Plc}(h:SegP H s l):SameK s s:=by
 cases h with
 | nil=>exact .inl ⟨rfl,rfl⟩
 | row=>exact .inr ⟨_,_,_,_,_,rfl,rfl⟩
attribute [push_cast] Tryz.f30
attribute [push_cast] Tryz.f32
theorem e7:Ent Tryz.prog 7 Tryz.f7 [] 4:=.mk Tryz.func7 rfl
attribute [push_cast] Tryz.f7
theorem dwchk_ok{a b c p q r:Int}:dwchk a b c p q r=0 ↔ okD a b c∧okW p q r:=by
 unfold dwchk wchk
 split
 ·split <;> simp_all
 ·simp_all
theorem eq3i0(p q r p' q' r':Int):aEqS Tryz.prog 22 (.agg [I p,I q,I r]) (.agg [I p',I q',I r'])=some (p==p'&&(q==q'&&(r==r'&&true))):=by kernel_rfl
theorem eq3i(p q r p' q' r':Int):aEqS Tryz.prog 22 (.agg [I p,I q,I r]) (.agg [I p',I q',I r'])=some (decide (p=p'∧q=q'∧r=r')):=by
 rw[eq3i0,Option.some.injEq,Bool.eq_iff_iff,decide_eq_true_iff];simp
theorem eq3b0(p q r p' q' r':Bool):aEqS Tryz.prog 24 (.agg [B p,B q,B r]) (.agg [B p',B q',B r'])=some (p==p'&&(q==q'&&(r==r'&&true))):=by kernel_rfl
theorem eq3b(p q r p' q' r':Bool):aEqS Tryz.prog 24 (.agg [B p,B q,B r]) (.agg [B p',B q',B r'])=some (decide (p=p'∧q=q'∧r=r')):=by
 rw[eq3b0,Option.some.injEq,Bool.eq_iff_iff,decide_eq_true_iff];simp
def isT(t:Wnt)(x:Plc):Prop:=(t.p=x.p∧t.q=x.q∧t.r=x.r)∧(torV t.s t.p=x.s∧torV t.t t.q=x.t∧torV t.u t.r=x.u)
instance (t:Wnt) (x:Plc):Decidable (isT t x):=by unfold isT; infer_instance
theorem e41:Ent Tryz.prog 41 Tryz.f41 [] 2:=.mk Tryz.func41 rfl
attribute [push_cast] Tryz.f41
theorem is1_pur(t:Wnt)(x:Plc):Pur Tryz.prog GG 41 [t.av,.iptr [I x.x,I x.y,I x.z,I x.p,I x.q,I x.r,B x.s,B x.t,B x.u] 0] (B (decide (isT t x))):=by
 show Pur Tryz.prog GG 41 [WT t.p t.q t.r t.s t.t t.u t.v,.iptr [I x.x,I x.y,I x.z,I x.p,I x.q,I x.r,B x.s,B x.t,B x.u] 0] _
 by_cases h:t.p=x.p∧t.q=x.q∧t.r=x.r
 ·have hd:=eq3i t.p t.q t.r x.p x.q x.r;rw[decide_eq_true h]at hd;refine goQ e41 S4_ok 0 ?_;simp only[push_cast,seval,↓kw2,hd,zAi,eq3b];exact⟨_,rfl,zAa rfl (by congr 2; unfold isT; simp[h])⟩
 ·have hd:=eq3i t.p t.q t.r x.p x.q x.r;rw[decide_eq_false h]at hd;refine goQ e41 S4_ok 0 ?_;simp only[push_cast,seval,↓kw2,hd,zAi,eq3b];exact⟨_,rfl,zAa rfl (by
   have:¬ isT t x:=fun hh=>h hh.1
   rw[decide_eq_false this])⟩
theorem e100:Ent Tryz.prog 100 Tryz.f100 [] 2:=.mk Tryz.func100 rfl
attribute [push_cast] Tryz.f100
theorem indexW{g:Nat}{caps:List AV}{pr:Wnt→Bool}{l:List Wnt}{H:List AO}(hl:l.length≤2^20)(hp:∀(x:Wnt) (K:AV→List AO→Prop),x∈l→K (B (pr x)) H→AC Tryz.prog GG g (x.av::caps) H K){K:AV→List AO→Prop}(hK:K (I (zDm pr l 0)) H) :
  AC Tryz.prog GG 100 [.isl (l.map Wnt.av),.fn g [] caps] H K:=by
 refine goE e100 TOk.nil 0 ?_;simp only[push_cast,seval,↓kw2];refine FW.loopInv (fun m ts H'=>∃ i:Nat,i+m=l.length∧zDm pr (l.drop i) i=zDm pr l 0∧H'=H∧ts 0=.isl (l.map Wnt.av)∧ts 1=.fn g [] caps∧ts 7=I (l.map Wnt.av).length∧ts 8=I (i:Int)) l.length
  ⟨0,by omega,rfl,rfl,rfl,rfl,rfl,rfl⟩ ?_
 rintro m ih ts H' ⟨i,hi,hf,rfl,t0,t1,t7,t8⟩
 rw[List.length_map]at t7;refine FW.inLoop ?_
 by_cases hlt:i < l.length
 ·have hd1:decide ((i:Int) < (l.length:Int))=true:=by simp[hlt]
  have hg:=zAc Wnt.av l default hlt;rw[zAn default hlt]at hf;have hmem:l.getD i default∈l:=by simp[List.getD,hlt]
  generalize l.getD i default=x at hg hf hmem
  have hcl:=Wnt.cells x;refine goN ?_;simp only[push_cast,seval,↓kw2,t0,t1,t7,t8,hd1,hg,hcl,List.length_map,Int.toNat_natCast]
  repeat (refine⟨by omega,?_⟩)
  refine hp x _ hmem ?_;rw[firstI_cons]at hf;cases hpx:pr x
  ·rw[hpx,if_neg (by decide)]at hf;refine goN ?_;simp only[push_cast,seval,↓kw2,t8];rw[zAg (n:=(i:Int)+1) (by omega) (by omega)];exact ih (m - 1) (by omega) _ _ ⟨i+1,by omega,hf,rfl,t0,t1,by rw[List.length_map]; exact t7,rfl⟩
  ·rw[hpx,if_pos rfl]at hf;refine goN ?_;simp only[push_cast,seval,↓kw2,t8];exact⟨_,rfl,by rw[hf]; exact hK⟩
 ·have hd1:decide ((i:Int) < (l.length:Int))=false:=by simp; omega
  rw[List.drop_eq_nil_of_le (by omega)]at hf;refine goN ?_;simp only[push_cast,seval,↓kw2,t7,t8,hd1];exact⟨_,rfl,by rw[show(-1:Int)=zDm pr l 0 from hf]; exact hK⟩
theorem firstI_any{α:Type}[Inhabited α](pr:α→Bool)(l:List α):decide (0≤zDm pr l 0)=l.any pr:=by
 by_cases h:zDm pr l 0=-1
 ·have h1:=firstI_no h;rw[h];have:l.any pr=false:=List.any_eq_false.2 fun x hx=>by rw[h1 x hx]; decide
  rw[this]; rfl
 ·obtain⟨k,h1,h2,h3,_⟩:=firstI_yes h;have:l.any pr=true:=List.any_eq_true.2 ⟨l.getD k default,by simp[List.getD,h1],h3⟩;rw[this,h2];exact decide_eq_true (by omega)
theorem e40:Ent Tryz.prog 40 Tryz.f40 [] 2:=.mk Tryz.func40 rfl
attribute [push_cast] Tryz.f40
theorem containsW{g:Nat}{caps:List AV}{pr:Wnt→Bool}{l:List Wnt}{H:List AO}(hl:l.length≤2^20)(hp:∀(x:Wnt) (K:AV→List AO→Prop),x∈l→K (B (pr x)) H→AC Tryz.prog GG g (x.av::caps) H K){K:AV→List AO→Prop}(hK:K (B (l.any pr)) H) :
  AC Tryz.prog GG 40 [.isl (l.map Wnt.av),.fn g [] caps] H K:=by
 rw[← firstI_any]at hK;refine goE e40 TOk.nil 0 ?_;simp only[push_cast,seval,↓kw2];refine indexW hl hp ?_;refine goN ?_;simp only[push_cast,seval,↓kw2];exact⟨_,rfl,hK⟩
theorem e9:Ent Tryz.prog 9 Tryz.f9 [] 3:=.mk Tryz.func9 rfl
attribute [push_cast] Tryz.f9
def isE(a b c:Int)(w:Wnt)(x:Plc):Int:=if dwchk a b c w.p w.q w.r=0 then pchk a b c x.x x.y x.z x.p x.q x.r x.s x.t x.u else dwchk a b c w.p w.q w.r
def isV(a b c:Int)(w:Wnt)(x:Plc):Bool:=if isE a b c w x=0 then w.turns.any fun t=>decide (isT t x) else false
theorem spotsIs_pur(a b c:Int)(w:Wnt)(x:Plc):Pur Tryz.prog GG 9 [.agg [I a,I b,I c],w.av,x.av] (.tup [B (isV a b c w x),I (isE a b c w x)]):=by
 show Pur Tryz.prog GG 9 [.agg [I a,I b,I c],WT w.p w.q w.r w.s w.t w.u w.v,PL x.x x.y x.z x.p x.q x.r x.s x.t x.u] _;unfold isV
 by_cases h:dwchk a b c w.p w.q w.r=0
 ·have he:isE a b c w x=pchk a b c x.x x.y x.z x.p x.q x.r x.s x.t x.u:=by rw[isE,if_pos h]
  rw[he];have hw:=(dwchk_ok.1 h).2
  by_cases h2:pchk a b c x.x x.y x.z x.p x.q x.r x.s x.t x.u=0
  ·rw[if_pos h2,h2];refine goQ e9 S4_ok 0 ?_;simp only[push_cast,seval,↓kw2,h,h2];refine AC.pur (turnsA_pur w hw) ?_;refine goW S4_ok [] 0 ?_;simp only[push_cast,seval,↓kw2];refine containsW (pr:=fun t=>decide (isT t x)) (by have:=w.turns_len; omega) ?_ ?_
   ·intro t K ht hK
    refine AC.view ggp (n:=3) (args':=[t.av,.iptr [I x.x,I x.y,I x.z,I x.p,I x.q,I x.r,B x.s,B x.t,B x.u] 0]) ?_ ?_ rfl (is1_pur t x) hK
    ·simp[mapO,frz,Wnt.pur,AV.pur]
    ·simp[AV.purL,AV.pur,Wnt.pur]
   ·skip
    refine goW S4_ok [] 0 ?_;simp only[push_cast,seval,↓kw2];exact⟨_,rfl,zAa rfl rfl⟩
  ·rw[if_neg h2];refine goQ e9 S4_ok 0 ?_;simp only[push_cast,seval,↓kw2,h,h2];exact⟨_,rfl,zAa rfl rfl⟩
 ·have he:isE a b c w x=dwchk a b c w.p w.q w.r:=by rw[isE,if_neg h]
  rw[he,if_neg h];refine goQ e9 S4_ok 0 ?_;simp only[push_cast,seval,↓kw2,h];exact⟨_,rfl,zAa rfl rfl⟩
theorem of_at{a b c x y z:Int}(hd:okD a b c)(hp:okP a b c x y z):ofX a b c (atV a b c x y z)=x∧ofY a b c (atV a b c x y z)=y∧ofZ a b c (atV a b c x y z)=z:=by
 obtain⟨_,r1,r2⟩:=at_range hd hp;have hin:inM a b c (atV a b c x y z):=⟨hd,r1,r2⟩;rw[ofX,if_pos hin,ofY,if_pos hin,ofZ,if_pos hin];rw[atV,if_pos ⟨hd,hp⟩];unfold okP at hp;unfold okD at hd;have e1:x+a*y+a*b*z=x+a*(y+b*z):=by rw[Int.mul_add,← Int.mul_assoc]; omega
 have e2:(x+a*(y+b*z)) / a=y+b*z:=by rw[Int.add_mul_ediv_left _ _ (by omega),Int.ediv_eq_zero_of_lt hp.1.1 hp.1.2]; omega
 have e3:(x+a*(y+b*z)) % a=x:=by rw[Int.add_mul_emod_self_left]; exact Int.emod_eq_of_lt hp.1.1 hp.1.2
 have e4:(y+b*z) % b=y:=by rw[Int.add_mul_emod_self_left]; exact Int.emod_eq_of_lt hp.2.1.1 hp.2.1.2
 have e5:(x+a*(y+b*z)) / (a*b)=z:=by
  rw[← Int.ediv_ediv_of_nonneg (by omega),e2,Int.add_mul_ediv_left _ _ (by omega),Int.ediv_eq_zero_of_lt hp.2.1.1 hp.2.1.2]; omega
 have e6:z % c=z:=Int.emod_eq_of_lt hp.2.2.1 hp.2.2.2;rw[e1,e2,e3,e4,e5,e6];exact⟨rfl,rfl,rfl⟩
theorem upto_mem{α:Type}{f:Int→List α}{x:α}:∀ {n:Nat} {k i:Int},k≤i→i < k+n→x∈f i→x∈upto f k n
 | 0,k,i,h1,h2,_=>by omega
 | n+1,k,i,h1,h2,h=>by
  rw[upto_succ,List.mem_append]
  by_cases e:k=i
  ·subst e; exact .inl h
  ·exact .inr (upto_mem (by omega) (by omega) h)
def witV(n a b:Int):Bool:=decide (a≤n∧n≤b)
theorem witV_t{n a b:Int}:witV n a b=true ↔ a≤n∧n≤b:=decide_eq_true_iff
theorem e158:Ent Tryz.prog 158 Tryz.f158 [] 3:=.mk Tryz.func158 rfl
attribute [push_cast] Tryz.f158
theorem within_pur(n a b:Int):Pur Tryz.prog GG 158 [I n,I a,I b] (B (witV n a b)):=by
 refine goQ e158 S4_ok 0 ?_;simp(maxSteps:=2000000)only[push_cast,seval,↓kw2];unfold witV
 repeat' (first | apply And.intro | intro _)
 all_goals
  refine⟨_,rfl,zAa rfl ?_⟩;simp only[AV.c.injEq,Value.bool.injEq]
  first
   | exact decide_eq_decide.2 (by omega)
   | exact(decide_eq_false (by omega)).symm
   | exact(decide_eq_true (by omega)).symm
   | (simp at *; omega)
@[push_cast] def g158:List AV→Option (Prop × AV)
 | [(.c (.int .i64 n)),(.c (.int .i64 a)),(.c (.int .i64 b))]=>some (True,B (witV n a b))
 | _=>none
theorem g158_ok:∀ args p,g158 args=some p→p.1→Pur Tryz.prog GG 158 args p.2:=by
 intro args p hp hc
 unfold g158 at hp
 split at hp
 ·cases hp;exact within_pur _ _ _
 ·cases hp
@[push_cast] def V1:Tab:=Tab.ext S4 158 g158
theorem V1_ok:TOk Tryz.prog GG V1:=TOk.ext S4_ok g158_ok
structure Cls where
 a:Int
 b:Int
 c:Int
 d:Int
 deriving DecidableEq
abbrev CL(a b c d:Int):AV:=.agg [I a,I b,I c,I d]
def Cls.av(x:Cls):AV:=CL x.a x.b x.c x.d
instance:Inhabited Cls:=⟨⟨0,0,0,0⟩⟩
theorem Cls.cells(x:Cls):x.av.cells=[I x.a,I x.b,I x.c,I x.d]:=rfl
def Cls.odd(x:Cls):Bool:=!(witV x.a (-1000) 1000&&witV x.b 1 1048576&&witV x.c 1 4096&&witV x.d 1 24)
theorem e157:Ent Tryz.prog 157 Tryz.f157 [] 1:=.mk Tryz.func157 rfl
attribute [push_cast] Tryz.f157
theorem clsOdd_pur(a b c d:Int):Pur Tryz.prog GG 157 [CL a b c d] (B (Cls.odd ⟨a,b,c,d⟩)):=by
 refine goQ e157 V1_ok 0 ?_;simp(maxSteps:=2000000)only[push_cast,seval,↓kw2,zCz,gsK_var];unfold Cls.odd
 repeat' (first | apply And.intro | intro _)
 all_goals
  refine⟨_,rfl,zAa rfl ?_⟩;simp[*]
@[push_cast] def g157:List AV→Option (Prop × AV)
 | [.agg [(.c (.int .i64 a)),(.c (.int .i64 b)),(.c (.int .i64 c)),(.c (.int .i64 d))]]=>some (True,B (Cls.odd ⟨a,b,c,d⟩))
 | _=>none
theorem g157_ok:∀ args p,g157 args=some p→p.1→Pur Tryz.prog GG 157 args p.2:=by
 intro args p hp hc
 unfold g157 at hp
 split at hp
 ·cases hp;exact clsOdd_pur _ _ _ _
 ·cases hp
@[push_cast] def V2:Tab:=Tab.ext V1 157 g157
theorem zBn:TOk Tryz.prog GG V2:=TOk.ext V1_ok g157_ok
def zBc(pr:Nat→Bool):Nat→Nat→Int
 | 0,_=>-1
 | n+1,i=>if pr i=true then (i:Int) else zBc pr n (i+1)
theorem zBm(pr:Nat→Bool)(n i:Nat):zBc pr (n+1) i=if pr i=true then (i:Int) else zBc pr n (i+1):=rfl
def anyN(pr:Nat→Bool):Nat→Nat→Bool
 | 0,_=>false
 | n+1,i=>pr i||anyN pr n (i+1)
theorem zCh(pr:Nat→Bool):∀ n i:Nat,decide (0≤zBc pr n i)=anyN pr n i
 | 0,i=>rfl
 | n+1,i=>by
  rw[zBm,anyN];cases h:pr i
  ·rw[if_neg (by decide),zCh pr n (i+1),Bool.false_or]
  ·rw[if_pos rfl,Bool.true_or]; exact decide_eq_true (by omega)
theorem anyN_iff{pr:Nat→Bool}:∀ {n i:Nat},anyN pr n i=true ↔ ∃ j,i≤j∧j < i+n∧pr j=true
 | 0,i=>by simp[anyN]; omega
 | n+1,i=>by
  rw[anyN,Bool.or_eq_true,anyN_iff]
  constructor
  ·rintro(h | ⟨j,h1,h2,h3⟩)
   ·exact⟨i,by omega,by omega,h⟩
   ·exact⟨j,by omega,by omega,h3⟩
  ·rintro⟨j,h1,h2,h3⟩
   by_cases e:j=i
   ·subst e; exact .inl h3
   ·exact .inr ⟨j,by omega,by omega,h3⟩
theorem firstN_yes{pr:Nat→Bool}:∀ {n i:Nat},¬zBc pr n i=-1→∃ j,i≤j∧j < i+n∧zBc pr n i=(j:Int)∧pr j=true∧∀ k,i≤k→k < j→pr k=false
 | 0,i,h=>absurd rfl h
 | n+1,i,h=>by
  rw[zBm]at h ⊢;cases hp:pr i
  ·rw[hp,if_neg (by decide)]at h;rw[if_neg (by decide)];obtain⟨j,h1,h2,h3,h4,h5⟩:=firstN_yes h;refine⟨j,by omega,by omega,h3,h4,fun k k1 k2=>?_⟩
   by_cases e:k=i
   ·rw[e]; exact hp
   ·exact h5 k (by omega) k2
  ·rw[if_pos rfl];exact⟨i,by omega,by omega,rfl,hp,fun k k1 k2=>absurd k1 (by omega)⟩
theorem e207:Ent Tryz.prog 207 Tryz.f207 [] 2:=.mk Tryz.func207 rfl
attribute [push_cast] Tryz.f207
theorem idxCls{g:Nat}{caps:List AV}{pr:Nat→Bool}{l:List Cls}{s:AV}(hs:IsSl s (l.map Cls.av))(hl:l.length≤2^20)(St:Nat→List AO→Prop)
  (hp:∀(i:Nat) (H:List AO) (K:AV→List AO→Prop),i < l.length→St i H→(∀ H',St (i+1) H'→K (B (pr i)) H')→AC Tryz.prog GG g (Cls.av (l.getD i default)::caps) H K) {H:List AO} {K:AV→List AO→Prop} (h0:St 0 H)
  (hK:∀ H',(∃ i,i≤l.length∧St i H')→K (I (zBc pr l.length 0)) H'):AC Tryz.prog GG 207 [s,.fn g [] caps] H K:=by
 have hlen:=hs.len un50;rw[List.length_map]at hlen;have hidx:=fun(i:Nat) (hi:i < l.length) (H:List AO)=>hs.idx (P:=Tryz.prog) un50 sz72 (i:=(i:Int)) (by rw[List.length_map]; omega) (by omega) H
 refine goE e207 TOk.nil 0 ?_;simp only[push_cast,seval,↓kw2,hlen];refine FW.loopInv (fun m ts H'=>∃ i:Nat,i+m=l.length∧zBc pr m i=zBc pr l.length 0∧St i H'∧ts 0=s∧ts 1=.fn g [] caps∧ts 7=I (l.length:Int)∧ts 8=I (i:Int)) l.length
  ⟨0,by omega,rfl,h0,rfl,rfl,rfl,rfl⟩ ?_
 rintro m ih ts H' ⟨i,hi,hf,hst,t0,t1,t7,t8⟩
 refine FW.inLoop ?_
 by_cases hlt:i < l.length
 ·have hd1:decide ((i:Int) < (l.length:Int))=true:=by simp[hlt]
  have hx:=hidx i hlt;have hgy:=zAc Cls.av l default hlt;simp only[Int.toNat_natCast]at hx;rw[hgy]at hx;have hpi:=hp i;obtain⟨m,rfl⟩:∃ m',m=m'+1:=⟨m - 1,by omega⟩
  generalize l.getD i default=x at hx hpi
  have hcx:=Cls.cells x;have hbb:(0≤(i:Int)∧(i:Int) < ((l.map Cls.av).length:Int)):=⟨by omega,by rw[List.length_map]; omega⟩;refine goN ?_;simp only[push_cast,seval,↓kw2,t0,t1,t7,t8,hd1,hx,hcx]
  first
   | refine⟨hbb,?_⟩
   | refine⟨⟨hbb,rfl⟩,?_⟩
  refine hpi _ _ hlt hst ?_
  intro H2 hst2
  rw[zBm]at hf;cases hpx:pr i
  ·rw[hpx,if_neg (by decide)]at hf;refine goN ?_;simp only[push_cast,seval,↓kw2,t8];rw[zAg (n:=(i:Int)+1) (by omega) (by omega)];exact ih m (by omega) _ _ ⟨i+1,by omega,hf,hst2,t0,t1,t7,rfl⟩
  ·rw[hpx,if_pos rfl]at hf;refine goN ?_;simp only[push_cast,seval,↓kw2,t8];exact⟨_,rfl,by rw[hf]; exact hK _ ⟨i+1,by omega,hst2⟩⟩
 ·have hd1:decide ((i:Int) < (l.length:Int))=false:=by simp; omega
  have hm:m=0:=by omega
  subst hm;refine goN ?_;simp only[push_cast,seval,↓kw2,t7,t8,hd1];exact⟨_,rfl,by rw[show(-1:Int)=zBc pr l.length 0 from hf]; exact hK _ ⟨i,by omega,hst⟩⟩
theorem e159:Ent Tryz.prog 159 Tryz.f159 [] 2:=.mk Tryz.func159 rfl
attribute [push_cast] Tryz.f159
theorem hasCls{g:Nat}{caps:List AV}{pr:Nat→Bool}{l:List Cls}{s:AV}(hs:IsSl s (l.map Cls.av))(hl:l.length≤2^20)(St:Nat→List AO→Prop)
  (hp:∀(i:Nat) (H:List AO) (K:AV→List AO→Prop),i < l.length→St i H→(∀ H',St (i+1) H'→K (B (pr i)) H')→AC Tryz.prog GG g (Cls.av (l.getD i default)::caps) H K) {H:List AO} {K:AV→List AO→Prop} (h0:St 0 H)
  (hK:∀ H',(∃ i,i≤l.length∧St i H')→K (B (anyN pr l.length 0)) H'):AC Tryz.prog GG 159 [s,.fn g [] caps] H K:=by
 simp only[← zCh]at hK;refine goE e159 TOk.nil 0 ?_;simp only[push_cast,seval,↓kw2];refine idxCls hs hl St hp h0 ?_
 intro H' hh
 refine goN ?_;simp only[push_cast,seval,↓kw2];exact⟨_,rfl,hK _ hh⟩
structure Cfg where
 a:Int
 b:Int
 c:Int
 boot:Int
 free:Int
 tries:Int
 age:Int
 cls:List Cls
abbrev CF(a b c p q r t:Int)(s:AV):AV:=.agg [I a,I b,I c,I p,I q,I r,I t,s]
def Cfg.may(x:Cfg):Bool:=decide (okD x.a x.b x.c)&&witV x.boot 1 1048576&&witV x.free 1 1048576&&(witV x.tries 1 5&&witV x.age 1 1048576&&witV x.cls.length 1 4)&&!anyN (fun i=>(x.cls.getD i default).odd) x.cls.length 0
def Cfg.chk(x:Cfg):Int:=if x.may=true then 0 else 8
theorem e106:Ent Tryz.prog 106 Tryz.f106 [] 1:=.mk Tryz.func106 rfl
attribute [push_cast] Tryz.f106
theorem pchk_pur(x:Cfg){s:AV}(hs:IsSl s (x.cls.map Cls.av)):Pur Tryz.prog GG 106 [CF x.a x.b x.c x.boot x.free x.tries x.age s] (I x.chk):=by
 obtain⟨a,b,c,p,q,r,t,cs⟩:=x;have hpu:=hs.pur (zAd Cls.av _ (fun _=>rfl));obtain⟨k1,k2,k3⟩:=hs.cell;have hlen:=hs.len un50;rw[List.length_map]at hlen;simp only at hs hlen;unfold Cfg.chk Cfg.may;simp only;have one:(chk a b c=8∧¬okD a b c)∨((chk a b c=0∧okD a b c)∧witV p 1 1048576=false)∨((chk a b c=0∧okD a b c)∧witV p 1 1048576=true∧witV q 1 1048576=false)∨((chk a b c=0∧okD a b c)∧witV p 1 1048576=true∧witV q 1 1048576=true):=by
  by_cases hd:okD a b c
  ·have:=chk_ok.2 hd;cases h1:witV p 1 1048576 <;> cases h2:witV q 1 1048576 <;> simp[*]
  ·exact .inl ⟨chk_no hd,hd⟩
 have two:witV r 1 5=false∨(witV r 1 5=true∧witV t 1 1048576=false)∨(witV r 1 5=true∧witV t 1 1048576=true∧witV cs.length 1 4=false)∨(witV r 1 5=true∧witV t 1 1048576=true∧witV cs.length 1 4=true):=by
  cases witV r 1 5 <;> cases witV t 1 1048576 <;> cases witV (cs.length:Int) 1 4 <;> simp
 rcases one with ⟨hc,hd⟩ | ⟨⟨hc,hd⟩,h1⟩ | ⟨⟨hc,hd⟩,h1,h2⟩ | ⟨⟨hc,hd⟩,h1,h2⟩
 ·rcases two with h4 | ⟨h4,h5⟩ | ⟨h4,h5,h6⟩ | ⟨h4,h5,h6⟩
  ·skip
   refine goQ e106 zBn 0 ?_ (by simp[AV.purL,AV.pur,hpu]);simp only[push_cast,seval,↓kw2,k1,k2,k3,hlen,hc,h4];exact⟨_,rfl,zAa rfl (by simp[hd,h4])⟩
  ·skip
   refine goQ e106 zBn 0 ?_ (by simp[AV.purL,AV.pur,hpu]);simp only[push_cast,seval,↓kw2,k1,k2,k3,hlen,hc,h4,h5];exact⟨_,rfl,zAa rfl (by simp[hd,h4,h5])⟩
  ·skip
   refine goQ e106 zBn 0 ?_ (by simp[AV.purL,AV.pur,hpu]);simp only[push_cast,seval,↓kw2,k1,k2,k3,hlen,hc,h4,h5,h6];exact⟨_,rfl,zAa rfl (by simp[hd,h4,h5,h6])⟩
  ·skip
   refine goQ e106 zBn 0 ?_ (by simp[AV.purL,AV.pur,hpu]);simp only[push_cast,seval,↓kw2,k1,k2,k3,hlen,hc,h4,h5,h6];exact⟨_,rfl,zAa rfl (by simp[hd,h4,h5,h6])⟩
 ·rcases two with h4 | ⟨h4,h5⟩ | ⟨h4,h5,h6⟩ | ⟨h4,h5,h6⟩
  ·skip
   refine goQ e106 zBn 0 ?_ (by simp[AV.purL,AV.pur,hpu]);simp only[push_cast,seval,↓kw2,k1,k2,k3,hlen,hc,h1,h4];exact⟨_,rfl,zAa rfl (by simp[hd,h1,h4])⟩
  ·skip
   refine goQ e106 zBn 0 ?_ (by simp[AV.purL,AV.pur,hpu]);simp only[push_cast,seval,↓kw2,k1,k2,k3,hlen,hc,h1,h4,h5];exact⟨_,rfl,zAa rfl (by simp[hd,h1,h4,h5])⟩
  ·skip
   refine goQ e106 zBn 0 ?_ (by simp[AV.purL,AV.pur,hpu]);simp only[push_cast,seval,↓kw2,k1,k2,k3,hlen,hc,h1,h4,h5,h6];exact⟨_,rfl,zAa rfl (by simp[hd,h1,h4,h5,h6])⟩
  ·skip
   refine goQ e106 zBn 0 ?_ (by simp[AV.purL,AV.pur,hpu]);simp only[push_cast,seval,↓kw2,k1,k2,k3,hlen,hc,h1,h4,h5,h6];exact⟨_,rfl,zAa rfl (by simp[hd,h1,h4,h5,h6])⟩
 ·rcases two with h4 | ⟨h4,h5⟩ | ⟨h4,h5,h6⟩ | ⟨h4,h5,h6⟩
  ·skip
   refine goQ e106 zBn 0 ?_ (by simp[AV.purL,AV.pur,hpu]);simp only[push_cast,seval,↓kw2,k1,k2,k3,hlen,hc,h1,h2,h4];exact⟨_,rfl,zAa rfl (by simp[hd,h1,h2,h4])⟩
  ·skip
   refine goQ e106 zBn 0 ?_ (by simp[AV.purL,AV.pur,hpu]);simp only[push_cast,seval,↓kw2,k1,k2,k3,hlen,hc,h1,h2,h4,h5];exact⟨_,rfl,zAa rfl (by simp[hd,h1,h2,h4,h5])⟩
  ·skip
   refine goQ e106 zBn 0 ?_ (by simp[AV.purL,AV.pur,hpu]);simp only[push_cast,seval,↓kw2,k1,k2,k3,hlen,hc,h1,h2,h4,h5,h6];exact⟨_,rfl,zAa rfl (by simp[hd,h1,h2,h4,h5,h6])⟩
  ·skip
   refine goQ e106 zBn 0 ?_ (by simp[AV.purL,AV.pur,hpu]);simp only[push_cast,seval,↓kw2,k1,k2,k3,hlen,hc,h1,h2,h4,h5,h6];exact⟨_,rfl,zAa rfl (by simp[hd,h1,h2,h4,h5,h6])⟩
 ·rcases two with h4 | ⟨h4,h5⟩ | ⟨h4,h5,h6⟩ | ⟨h4,h5,h6⟩
  ·skip
   refine goQ e106 zBn 0 ?_ (by simp[AV.purL,AV.pur,hpu]);simp only[push_cast,seval,↓kw2,k1,k2,k3,hlen,hc,h1,h2,h4];exact⟨_,rfl,zAa rfl (by simp[hd,h1,h2,h4])⟩
  ·skip
   refine goQ e106 zBn 0 ?_ (by simp[AV.purL,AV.pur,hpu]);simp only[push_cast,seval,↓kw2,k1,k2,k3,hlen,hc,h1,h2,h4,h5];exact⟨_,rfl,zAa rfl (by simp[hd,h1,h2,h4,h5])⟩
  ·skip
   refine goQ e106 zBn 0 ?_ (by simp[AV.purL,AV.pur,hpu]);simp only[push_cast,seval,↓kw2,k1,k2,k3,hlen,hc,h1,h2,h4,h5,h6];exact⟨_,rfl,zAa rfl (by simp[hd,h1,h2,h4,h5,h6])⟩
  ·skip
   refine goQ e106 zBn 0 ?_ (by simp[AV.purL,AV.pur,hpu]);simp only[push_cast,seval,↓kw2,k1,k2,k3,hlen,hc,h1,h2,h4,h5,h6];have hl4:cs.length≤4:=by have:=witV_t.1 h6; omega
   refine hasCls hs (by omega) (fun _ H=>H=[AO.cells [I a,I b,I c,I p,I q,I r,I t,s]]) (pr:=fun i=>(cs.getD i default).odd) ?_ rfl ?_
   ·rintro i H K hi rfl hK
    exact AC.pur (clsOdd_pur _ _ _ _) (hK _ rfl)
   rintro H' ⟨_,_,rfl⟩
   rw[decide_eq_true hd];cases hodd:anyN (fun i=>(cs.getD i default).odd) cs.length 0
   ·skip
    refine goW zBn [] 0 ?_;simp only[push_cast,seval,↓kw2];exact⟨_,rfl,zAa rfl rfl⟩
   ·skip
    refine goW zBn [] 0 ?_;simp only[push_cast,seval,↓kw2];exact⟨_,rfl,zAa rfl rfl⟩
structure Prt where
 job:Int
 pl:Plc
 ph:Int
 tries:Int
 since:Int
 deriving DecidableEq
abbrev PA(j:Int)(x:Plc)(ph t s:Int):AV:=.agg [I j,I x.x,I x.y,I x.z,I x.p,I x.q,I x.r,B x.s,B x.t,B x.u,.c (.int .u8 ph),I t,I s]
def Prt.av(p:Prt):AV:=PA p.job p.pl p.ph p.tries p.since
instance:Inhabited Prt:=⟨⟨0,default,0,0,0⟩⟩
theorem Prt.cells(p:Prt):p.av.cells=[I p.job,I p.pl.x,I p.pl.y,I p.pl.z,I p.pl.p,I p.pl.q,I p.pl.r,B p.pl.s,B p.pl.t,B p.pl.u,.c (.int .u8 p.ph),I p.tries,I p.since]:=rfl
def Cfg.av(x:Cfg)(s:AV):AV:=CF x.a x.b x.c x.boot x.free x.tries x.age s
def Cfg.part(x:Cfg)(p:Prt):Bool:=witV p.job 1 2147483647&&!decide (p.ph < 1)&&!decide (3 < p.ph)&&witV p.tries 1 x.tries&&witV p.since 0 1099511627776
def Cfg.pchk(x:Cfg)(p:Prt):Int:=if x.chk=0 then (if x.part p=true then 0 else 8) else x.chk
theorem e258:Ent Tryz.prog 258 Tryz.f258 [] 2:=.mk Tryz.func258 rfl
attribute [push_cast] Tryz.f258
theorem partc_pur(x:Cfg)(p:Prt){s:AV}(hs:IsSl s (x.cls.map Cls.av)):Pur Tryz.prog GG 258 [x.av s,p.av] (I (x.pchk p)):=by
 have hpu:=hs.pur (zAd Cls.av _ (fun _=>rfl));obtain⟨k1,k2,k3⟩:=hs.cell;have hc:=pchk_pur x hs;unfold Cfg.pchk;show Pur Tryz.prog GG 258 [CF x.a x.b x.c x.boot x.free x.tries x.age s,PA p.job p.pl p.ph p.tries p.since] _
 by_cases h0:x.chk=0
 ·rw[if_pos h0];rw[h0]at hc;unfold Cfg.part;have hch:(witV p.job 1 2147483647=false)∨(witV p.job 1 2147483647=true∧decide (p.ph < 1)=true)∨(witV p.job 1 2147483647=true∧decide (p.ph < 1)=false∧decide (3 < p.ph)=true)∨(witV p.job 1 2147483647=true∧decide (p.ph < 1)=false∧decide (3 < p.ph)=false∧witV p.tries 1 x.tries=false)∨(witV p.job 1 2147483647=true∧decide (p.ph < 1)=false∧decide (3 < p.ph)=false∧witV p.tries 1 x.tries=true∧witV p.since 0 1099511627776=false)∨(witV p.job 1 2147483647=true∧decide (p.ph < 1)=false∧decide (3 < p.ph)=false∧witV p.tries 1 x.tries=true∧witV p.since 0 1099511627776=true):=by
   generalize witV p.job 1 2147483647=qh1
   generalize decide (p.ph < 1)=qh2
   generalize decide (3 < p.ph)=qh3
   generalize witV p.tries 1 x.tries=qh4
   generalize witV p.since 0 1099511627776=qh5
   cases qh1 <;> cases qh2 <;> cases qh3 <;> cases qh4 <;> cases qh5 <;> simp
  rcases hch with h1 | ⟨h1,h2⟩ | ⟨h1,h2,h3⟩ | ⟨h1,h2,h3,h4⟩ | ⟨h1,h2,h3,h4,h5⟩ | ⟨h1,h2,h3,h4,h5⟩
  ·skip
   refine goQ e258 zBn 0 ?_ (by simp[AV.purL,AV.pur,hpu]);simp only[push_cast,seval,↓kw2,k1,k2,k3];refine AC.pur hc ?_;refine goW zBn [] 0 ?_;simp only[push_cast,seval,↓kw2,k1,k2,k3,h1];exact⟨_,rfl,zAa rfl (by simp[h1])⟩
  ·skip
   refine goQ e258 zBn 0 ?_ (by simp[AV.purL,AV.pur,hpu]);simp only[push_cast,seval,↓kw2,k1,k2,k3];refine AC.pur hc ?_;refine goW zBn [] 0 ?_;simp only[push_cast,seval,↓kw2,k1,k2,k3,h1,h2];exact⟨_,rfl,zAa rfl (by simp[h1,h2])⟩
  ·skip
   refine goQ e258 zBn 0 ?_ (by simp[AV.purL,AV.pur,hpu]);simp only[push_cast,seval,↓kw2,k1,k2,k3];refine AC.pur hc ?_;refine goW zBn [] 0 ?_;simp only[push_cast,seval,↓kw2,k1,k2,k3,h1,h2,h3];exact⟨_,rfl,zAa rfl (by simp[h1,h2,h3])⟩
  ·skip
   refine goQ e258 zBn 0 ?_ (by simp[AV.purL,AV.pur,hpu]);simp only[push_cast,seval,↓kw2,k1,k2,k3];refine AC.pur hc ?_;refine goW zBn [] 0 ?_;simp only[push_cast,seval,↓kw2,k1,k2,k3,h1,h2,h3,h4];exact⟨_,rfl,zAa rfl (by simp[h1,h2,h3,h4])⟩
  ·skip
   refine goQ e258 zBn 0 ?_ (by simp[AV.purL,AV.pur,hpu]);simp only[push_cast,seval,↓kw2,k1,k2,k3];refine AC.pur hc ?_;refine goW zBn [] 0 ?_;simp only[push_cast,seval,↓kw2,k1,k2,k3,h1,h2,h3,h4,h5];exact⟨_,rfl,zAa rfl (by simp[h1,h2,h3,h4,h5])⟩
  ·skip
   refine goQ e258 zBn 0 ?_ (by simp[AV.purL,AV.pur,hpu]);simp only[push_cast,seval,↓kw2,k1,k2,k3];refine AC.pur hc ?_;refine goW zBn [] 0 ?_;simp only[push_cast,seval,↓kw2,k1,k2,k3,h1,h2,h3,h4,h5];exact⟨_,rfl,zAa rfl (by simp[h1,h2,h3,h4,h5])⟩
 ·rw[if_neg h0];refine goQ e258 zBn 0 ?_ (by simp[AV.purL,AV.pur,hpu]);simp only[push_cast,seval,↓kw2,k1,k2,k3];refine AC.pur hc ?_;refine goW zBn [] 0 ?_;simp only[push_cast,seval,↓kw2,k1,k2,k3,h0];exact⟨_,rfl,zAa rfl rfl⟩
theorem Cfg.pchk_0{x:Cfg}{p:Prt}(h:x.pchk p=0):x.chk=0∧x.part p=true:=by
 unfold Cfg.pchk at h
 split at h
 ·split at h
  ·exact⟨by assumption,by assumption⟩
  ·omega
 ·exact absurd h (by assumption)
theorem Cfg.part_ph{x:Cfg}{p:Prt}(h:x.part p=true):p.ph=1∨p.ph=2∨p.ph=3:=by
 unfold Cfg.part at h;simp only[Bool.and_eq_true,Bool.not_eq_true',decide_eq_false_iff_not]at h;omega
def Cfg.spE(x:Cfg)(p:Prt)(wall:Int):Int:=if x.pchk p=0 then (if witV wall 1 1048576=true then 0 else 2) else x.pchk p
theorem u80:IntKind.u8.wrap 0=0:=by decide
theorem u81:IntKind.u8.wrap 1=1:=by decide
theorem u82:IntKind.u8.wrap 2=2:=by decide
theorem e217:Ent Tryz.prog 217 Tryz.f217 [] 3:=.mk Tryz.func217 rfl
attribute [push_cast] Tryz.f217
theorem spans_err(x:Cfg)(p:Prt)(wall:Int){s:AV}(hs:IsSl s (x.cls.map Cls.av))(h:¬x.spE p wall=0):Pur Tryz.prog GG 217 [x.av s,p.av,I wall] (.tup [.c (.slice none 0 0),I (x.spE p wall)]):=by
 have hpu:=hs.pur (zAd Cls.av _ (fun _=>rfl));obtain⟨k1,k2,k3⟩:=hs.cell;have hc:=partc_pur x p hs;simp only[Cfg.av,Prt.av]at hc;show Pur Tryz.prog GG 217 [CF x.a x.b x.c x.boot x.free x.tries x.age s,PA p.job p.pl p.ph p.tries p.since,I wall] _;unfold Cfg.spE at *
 by_cases h0:x.pchk p=0
 ·rw[if_pos h0]at h ⊢;rw[h0]at hc;cases h1:witV wall 1 1048576
  ·rw[if_neg (by decide)];refine goQ e217 zBn 0 ?_ (by simp[AV.purL,AV.pur,hpu]);simp only[push_cast,seval,↓kw2,k1,k2,k3];refine AC.pur hc ?_;refine goW zBn [] 0 ?_;simp only[push_cast,seval,↓kw2,k1,k2,k3,h1];exact⟨_,rfl,zAa rfl rfl⟩
  ·rw[h1,if_pos rfl]at h; exact absurd rfl h
 ·rw[if_neg h0];refine goQ e217 zBn 0 ?_ (by simp[AV.purL,AV.pur,hpu]);simp only[push_cast,seval,↓kw2,k1,k2,k3];refine AC.pur hc ?_;refine goW zBn [] 0 ?_;simp only[push_cast,seval,↓kw2,k1,k2,k3,h0];exact⟨_,rfl,zAa rfl rfl⟩
theorem spans_ac(x:Cfg)(p:Prt)(wall:Int){s:AV}(hs:IsSl s (x.cls.map Cls.av))(h:x.spE p wall=0){H:List AO}{K:AV→List AO→Prop}
  (hK:∀(H':List AO) (id:Nat),(∀(j:Nat) (o:AO),H[j]?=some o→H'[j]?=some o)→H'[id]?=some (.cells [I x.boot,I wall,I x.free])→K (.tup [.bs id (p.ph - 1).toNat (4 - p.ph).toNat (4 - p.ph).toNat 1,I 0]) H') :
  AC Tryz.prog GG 217 [x.av s,p.av,I wall] H K:=by
 obtain⟨k1,k2,k3⟩:=hs.cell;have hc:=partc_pur x p hs;simp only[Cfg.av,Prt.av]at hc;show AC Tryz.prog GG 217 [CF x.a x.b x.c x.boot x.free x.tries x.age s,PA p.job p.pl p.ph p.tries p.since,I wall] H K;unfold Cfg.spE at h
 by_cases h0:x.pchk p=0
 ·rw[if_pos h0]at h;rw[h0]at hc;cases h1:witV wall 1 1048576
  ·rw[h1,if_neg (by decide)]at h; cases h
  ·rcases Cfg.part_ph (Cfg.pchk_0 h0).2 with hph | hph | hph
   ·rw[hph]at hc hK ⊢;refine goE e217 zBn 0 ?_;simp only[push_cast,seval,↓kw2,k1,k2,k3,zAf,getA,zAh,setA,zAb];refine AC.pur hc ?_;refine goW zBn [] 0 ?_;simp only[push_cast,seval,↓kw2,k1,k2,k3,h1,zEm,zBv,zEj,u80,u81,u82,zAf,getA,zAh,setA,zAb,Nat.add_assoc];exact⟨_,rfl,hK _ (H.length+2) (fun j o h=>(List.getElem?_append_left (zAe h)).trans h) (by rw[getA]; rfl)⟩
   ·rw[hph]at hc hK ⊢;refine goE e217 zBn 0 ?_;simp only[push_cast,seval,↓kw2,k1,k2,k3,zAf,getA,zAh,setA,zAb];refine AC.pur hc ?_;refine goW zBn [] 0 ?_;simp only[push_cast,seval,↓kw2,k1,k2,k3,h1,zEm,zBv,zEj,u80,u81,u82,zAf,getA,zAh,setA,zAb,Nat.add_assoc];exact⟨_,rfl,hK _ (H.length+2) (fun j o h=>(List.getElem?_append_left (zAe h)).trans h) (by rw[getA]; rfl)⟩
   ·rw[hph]at hc hK ⊢;refine goE e217 zBn 0 ?_;simp only[push_cast,seval,↓kw2,k1,k2,k3,zAf,getA,zAh,setA,zAb];refine AC.pur hc ?_;refine goW zBn [] 0 ?_;simp only[push_cast,seval,↓kw2,k1,k2,k3,h1,zEm,zBv,zEj,u80,u81,u82,zAf,getA,zAh,setA,zAb,Nat.add_assoc];exact⟨_,rfl,hK _ (H.length+2) (fun j o h=>(List.getElem?_append_left (zAe h)).trans h) (by rw[getA]; rfl)⟩
 ·rw[if_neg h0]at h; exact absurd h h0
theorem iab2(id off len cap:Nat)(i:Int)(H:List AO):zAl Tryz.prog 56 (.bs id off len cap 1) i H=some (0≤i∧i < (len:Int),.ptr id (off+i.toNat*1)):=by
 unfold zAl; simp only[un56,sz3]; rfl
theorem lbb2(id off len cap sz:Nat):aLen Tryz.prog 56 (.bs id off len cap sz)=some (len:Int):=by unfold aLen; simp only[un56]
def Cfg.turn(x:Cfg)(p:Prt)(wall:Int):Int:=min (p.since+(if p.ph=1 then x.boot else if p.ph=2 then wall else x.free)) 1099511627776
def Cfg.end(x:Cfg)(p:Prt)(wall:Int):Int:=min (p.since+(if p.ph=1 then x.boot+wall+x.free else if p.ph=2 then wall+x.free else x.free)) 1099511627776
theorem Cfg.chk_may{x:Cfg}(h:x.chk=0):x.may=true:=by
 unfold Cfg.chk at h
 split at h
 ·assumption
 ·omega
theorem Cfg.sp_facts{x:Cfg}{p:Prt}{wall:Int}(h:x.spE p wall=0):(x.may=true∧x.part p=true)∧(0≤p.since∧p.since≤1099511627776)∧(1≤x.boot∧x.boot≤1048576)∧(1≤x.free∧x.free≤1048576)∧(1≤wall∧wall≤1048576):=by
 unfold Cfg.spE at h
 split at h
 ·rename_i h0;obtain⟨h1,h2⟩:=Cfg.pchk_0 h0;have hm:=Cfg.chk_may h1;have hm0:=hm;have h20:=h2;unfold Cfg.may at hm;unfold Cfg.part at h2;simp only[Bool.and_eq_true,witV_t]at hm h2
  split at h
  ·rename_i hw;rw[witV_t]at hw;exact⟨⟨hm0,h20⟩,h2.2,hm.1.1.1.2,hm.1.1.2,hw⟩
  ·omega
 ·exact absurd h (by assumption)
theorem mm_min(a b:Int):aMM false (I a) (I b)=some (I (min a b)):=by
 have:(if b < a then b else a)=min a b:=by rw[Int.min_def]; split <;> split <;> omega
 rw[← this]; rfl
theorem e167:Ent Tryz.prog 167 Tryz.f167 [] 3:=.mk Tryz.func167 rfl
attribute [push_cast] Tryz.f167
theorem turns16_pur(x:Cfg)(p:Prt)(wall:Int){s:AV}(hs:IsSl s (x.cls.map Cls.av)):Pur Tryz.prog GG 167 [x.av s,p.av,I wall] (.tup [I (if x.spE p wall=0 then x.turn p wall else 0),I (x.spE p wall)]):=by
 have hpu:=hs.pur (zAd Cls.av _ (fun _=>rfl));obtain⟨k1,k2,k3⟩:=hs.cell;show Pur Tryz.prog GG 167 [CF x.a x.b x.c x.boot x.free x.tries x.age s,PA p.job p.pl p.ph p.tries p.since,I wall] _
 by_cases h:x.spE p wall=0
 ·rw[if_pos h,h];obtain⟨⟨_,hp⟩,f1,f2,f3,f4⟩:=Cfg.sp_facts h;unfold Cfg.turn
  rcases Cfg.part_ph hp with hph | hph | hph
  ·rw[if_pos hph];have w1:=zAg (n:=p.since+x.boot) (by omega) (by omega);refine goQ e167 zBn 0 ?_ (by simp[AV.purL,AV.pur,hpu]);simp only[push_cast,seval,↓kw2,k1,k2,k3];refine spans_ac x p wall hs h ?_
   intro H' id hh hid
   have m1:=hh 1 _ rfl;rw[hph];refine goW zBn [] 0 ?_;simp only[push_cast,seval,↓kw2,k1,k2,k3,iab2,lbb2,hid,m1,w1,aop3,mm_min]
   first
    | exact⟨_,rfl,zAa rfl rfl⟩
    | exact⟨by decide,_,rfl,zAa rfl rfl⟩
  ·rw[if_neg (by omega),if_pos hph];have w1:=zAg (n:=p.since+wall) (by omega) (by omega);refine goQ e167 zBn 0 ?_ (by simp[AV.purL,AV.pur,hpu]);simp only[push_cast,seval,↓kw2,k1,k2,k3];refine spans_ac x p wall hs h ?_
   intro H' id hh hid
   have m1:=hh 1 _ rfl;rw[hph];refine goW zBn [] 0 ?_;simp only[push_cast,seval,↓kw2,k1,k2,k3,iab2,lbb2,hid,m1,w1,aop3,mm_min]
   first
    | exact⟨_,rfl,zAa rfl rfl⟩
    | exact⟨by decide,_,rfl,zAa rfl rfl⟩
  ·rw[if_neg (by omega),if_neg (by omega)];have w1:=zAg (n:=p.since+x.free) (by omega) (by omega);refine goQ e167 zBn 0 ?_ (by simp[AV.purL,AV.pur,hpu]);simp only[push_cast,seval,↓kw2,k1,k2,k3];refine spans_ac x p wall hs h ?_
   intro H' id hh hid
   have m1:=hh 1 _ rfl;rw[hph];refine goW zBn [] 0 ?_;simp only[push_cast,seval,↓kw2,k1,k2,k3,iab2,lbb2,hid,m1,w1,aop3,mm_min]
   first
    | exact⟨_,rfl,zAa rfl rfl⟩
    | exact⟨by decide,_,rfl,zAa rfl rfl⟩
 ·rw[if_neg h];refine goQ e167 zBn 0 ?_ (by simp[AV.purL,AV.pur,hpu]);simp only[push_cast,seval,↓kw2,k1,k2,k3];refine AC.pur (spans_err x p wall hs h) ?_;refine goW zBn [] 0 ?_;simp only[push_cast,seval,↓kw2,k1,k2,k3,h];exact⟨_,rfl,zAa rfl rfl⟩
theorem e277:Ent Tryz.prog 277 Tryz.f277 [] 3:=.mk Tryz.func277 rfl
attribute [push_cast] Tryz.f277
theorem withinJ_pur(n a b:Int):Pur Tryz.prog GG 277 [I n,I a,I b] (B (witV n a b)):=by
 refine goQ e277 zBn 0 ?_;simp only[push_cast,seval,↓kw2];unfold witV
 repeat' (first | apply And.intro | intro _)
 all_goals
  refine⟨_,rfl,zAa rfl ?_⟩;simp only[AV.c.injEq,Value.bool.injEq]
  first
   | exact decide_eq_decide.2 (by omega)
   | exact(decide_eq_false (by omega)).symm
   | exact(decide_eq_true (by omega)).symm
   | (simp at *; omega)
@[push_cast] def g277:List AV→Option (Prop × AV)
 | [(.c (.int .i64 n)),(.c (.int .i64 a)),(.c (.int .i64 b))]=>some (True,B (witV n a b))
 | _=>none
theorem g277_ok:∀ args p,g277 args=some p→p.1→Pur Tryz.prog GG 277 args p.2:=by
 intro args p hp hc
 unfold g277 at hp
 split at hp
 ·cases hp;exact withinJ_pur _ _ _
 ·cases hp
@[push_cast] def V3:Tab:=Tab.ext V2 277 g277
theorem zBa:TOk Tryz.prog GG V3:=TOk.ext zBn g277_ok
structure Jb where
 id:Int
 user:Int
 cls:Int
 w:Wnt
 wall:Int
 prio:Int
 held:Bool
 aft:AV
 after:List Int
 st:Int
 came:Int
abbrev JB(id user cls:Int)(w:Wnt)(wall prio:Int)(held:Bool)(aft:AV)(st came:Int):AV:=.agg [I id,I user,I cls,I w.p,I w.q,I w.r,B w.s,B w.t,B w.u,B w.v,I wall,I prio,B held,aft,.c (.int .u8 st),I came]
def Jb.av(j:Jb):AV:=JB j.id j.user j.cls j.w j.wall j.prio j.held j.aft j.st j.came
instance:Inhabited Jb:=⟨⟨0,0,0,default,0,0,false,.c (.slice none 0 0),[],0,0⟩⟩
theorem Jb.cells(j:Jb):j.av.cells=[I j.id,I j.user,I j.cls,I j.w.p,I j.w.q,I j.w.r,B j.w.s,B j.w.t,B j.w.u,B j.w.v,I j.wall,I j.prio,B j.held,j.aft,.c (.int .u8 j.st),I j.came]:=rfl
def Jb.good(j:Jb):Prop:=IsSl j.aft (j.after.map IA)
theorem Jb.pur{j:Jb}(h:j.good):j.av.pur=true:=by
 have:=IsSl.pur h (zAd IA _ (fun _=>rfl));simp[Jb.av,AV.pur,AV.purL,this]
theorem Jb.good_default:(default:Jb).good:=.inr ⟨rfl,rfl⟩
def Jb.plain(x:Cfg)(j:Jb):Bool:=(witV j.id 1 2147483647&&witV j.user 1 255&&witV j.cls 0 ((x.cls.length:Int) - 1)&&witV j.wall 1 1048576)&&(witV j.prio (-1000) 1000&&witV j.came 0 1099511627776)&&decide (1≤j.st)&&decide (j.st≤6)&&(!j.held||decide (j.st=1))
theorem e251:Ent Tryz.prog 251 Tryz.f251 [] 2:=.mk Tryz.func251 rfl
attribute [push_cast] Tryz.f251
theorem jplain_pur(x:Cfg){j:Jb}{s:AV}(hs:IsSl s (x.cls.map Cls.av))(hx:x.cls.length≤2^20)(hj:j.good):Pur Tryz.prog GG 251 [x.av s,j.av] (B (j.plain x)):=by
 have hpu:=hs.pur (zAd Cls.av _ (fun _=>rfl));have hpj:=IsSl.pur hj (zAd IA _ (fun _=>rfl));obtain⟨k1,k2,k3⟩:=hs.cell;obtain⟨m1,m2,m3⟩:=IsSl.cell hj;have hlen:=hs.len un50;rw[List.length_map]at hlen;have hw:=zAg (n:=(x.cls.length:Int) - 1) (by omega) (by omega);unfold Jb.plain;show Pur Tryz.prog GG 251 [CF x.a x.b x.c x.boot x.free x.tries x.age s,JB j.id j.user j.cls j.w j.wall j.prio j.held j.aft j.st j.came] _;have hch:(witV j.id 1 2147483647=false)∨(witV j.id 1 2147483647=true∧witV j.user 1 255=false)∨(witV j.id 1 2147483647=true∧witV j.user 1 255=true∧witV j.cls 0 ((x.cls.length:Int) - 1)=false)∨(witV j.id 1 2147483647=true∧witV j.user 1 255=true∧witV j.cls 0 ((x.cls.length:Int) - 1)=true∧witV j.wall 1 1048576=false)∨(witV j.id 1 2147483647=true∧witV j.user 1 255=true∧witV j.cls 0 ((x.cls.length:Int) - 1)=true∧witV j.wall 1 1048576=true):=by
  generalize witV j.id 1 2147483647=qh1
  generalize witV j.user 1 255=qh2
  generalize witV j.cls 0 ((x.cls.length:Int) - 1)=qh3
  generalize witV j.wall 1 1048576=qh4
  cases qh1 <;> cases qh2 <;> cases qh3 <;> cases qh4 <;> simp
 rcases hch with h1 | ⟨h1,h2⟩ | ⟨h1,h2,h3⟩ | ⟨h1,h2,h3,h4⟩ | ⟨h1,h2,h3,h4⟩
 ·skip
  have hch2:(witV j.prio (-1000) 1000=false)∨(witV j.prio (-1000) 1000=true∧witV j.came 0 1099511627776=false)∨(witV j.prio (-1000) 1000=true∧witV j.came 0 1099511627776=true):=by
   generalize witV j.prio (-1000) 1000=qh5
   generalize witV j.came 0 1099511627776=qh6
   cases qh5 <;> cases qh6 <;> simp
  rcases hch2 with h5 | ⟨h5,h6⟩ | ⟨h5,h6⟩
  ·skip
   refine goQ e251 zBa 0 ?_ (by simp[AV.purL,AV.pur,hpu,hpj]);simp only[push_cast,seval,↓kw2,k1,k2,k3,m1,m2,m3,hlen,hw,h1,h5];exact⟨_,rfl,zAa rfl (by simp[h1,h5])⟩
  ·skip
   refine goQ e251 zBa 0 ?_ (by simp[AV.purL,AV.pur,hpu,hpj]);simp only[push_cast,seval,↓kw2,k1,k2,k3,m1,m2,m3,hlen,hw,h1,h5,h6];exact⟨_,rfl,zAa rfl (by simp[h1,h5,h6])⟩
  ·skip
   refine goQ e251 zBa 0 ?_ (by simp[AV.purL,AV.pur,hpu,hpj]);simp only[push_cast,seval,↓kw2,k1,k2,k3,m1,m2,m3,hlen,hw,h1,h5,h6];exact⟨_,rfl,zAa rfl (by simp[h1,h5,h6])⟩
 ·skip
  have hch2:(witV j.prio (-1000) 1000=false)∨(witV j.prio (-1000) 1000=true∧witV j.came 0 1099511627776=false)∨(witV j.prio (-1000) 1000=true∧witV j.came 0 1099511627776=true):=by
   generalize witV j.prio (-1000) 1000=qh5
   generalize witV j.came 0 1099511627776=qh6
   cases qh5 <;> cases qh6 <;> simp
  rcases hch2 with h5 | ⟨h5,h6⟩ | ⟨h5,h6⟩
  ·skip
   refine goQ e251 zBa 0 ?_ (by simp[AV.purL,AV.pur,hpu,hpj]);simp only[push_cast,seval,↓kw2,k1,k2,k3,m1,m2,m3,hlen,hw,h1,h2,h5];exact⟨_,rfl,zAa rfl (by simp[h1,h2,h5])⟩
  ·skip
   refine goQ e251 zBa 0 ?_ (by simp[AV.purL,AV.pur,hpu,hpj]);simp only[push_cast,seval,↓kw2,k1,k2,k3,m1,m2,m3,hlen,hw,h1,h2,h5,h6];exact⟨_,rfl,zAa rfl (by simp[h1,h2,h5,h6])⟩
  ·skip
   refine goQ e251 zBa 0 ?_ (by simp[AV.purL,AV.pur,hpu,hpj]);simp only[push_cast,seval,↓kw2,k1,k2,k3,m1,m2,m3,hlen,hw,h1,h2,h5,h6];exact⟨_,rfl,zAa rfl (by simp[h1,h2,h5,h6])⟩
 ·skip
  have hch2:(witV j.prio (-1000) 1000=false)∨(witV j.prio (-1000) 1000=true∧witV j.came 0 1099511627776=false)∨(witV j.prio (-1000) 1000=true∧witV j.came 0 1099511627776=true):=by
   generalize witV j.prio (-1000) 1000=qh5
   generalize witV j.came 0 1099511627776=qh6
   cases qh5 <;> cases qh6 <;> simp
  rcases hch2 with h5 | ⟨h5,h6⟩ | ⟨h5,h6⟩
  ·skip
   refine goQ e251 zBa 0 ?_ (by simp[AV.purL,AV.pur,hpu,hpj]);simp only[push_cast,seval,↓kw2,k1,k2,k3,m1,m2,m3,hlen,hw,h1,h2,h3,h5];exact⟨_,rfl,zAa rfl (by simp[h1,h2,h3,h5])⟩
  ·skip
   refine goQ e251 zBa 0 ?_ (by simp[AV.purL,AV.pur,hpu,hpj]);simp only[push_cast,seval,↓kw2,k1,k2,k3,m1,m2,m3,hlen,hw,h1,h2,h3,h5,h6];exact⟨_,rfl,zAa rfl (by simp[h1,h2,h3,h5,h6])⟩
  ·skip
   refine goQ e251 zBa 0 ?_ (by simp[AV.purL,AV.pur,hpu,hpj]);simp only[push_cast,seval,↓kw2,k1,k2,k3,m1,m2,m3,hlen,hw,h1,h2,h3,h5,h6];exact⟨_,rfl,zAa rfl (by simp[h1,h2,h3,h5,h6])⟩
 ·skip
  have hch2:(witV j.prio (-1000) 1000=false)∨(witV j.prio (-1000) 1000=true∧witV j.came 0 1099511627776=false)∨(witV j.prio (-1000) 1000=true∧witV j.came 0 1099511627776=true):=by
   generalize witV j.prio (-1000) 1000=qh5
   generalize witV j.came 0 1099511627776=qh6
   cases qh5 <;> cases qh6 <;> simp
  rcases hch2 with h5 | ⟨h5,h6⟩ | ⟨h5,h6⟩
  ·skip
   refine goQ e251 zBa 0 ?_ (by simp[AV.purL,AV.pur,hpu,hpj]);simp only[push_cast,seval,↓kw2,k1,k2,k3,m1,m2,m3,hlen,hw,h1,h2,h3,h4,h5];exact⟨_,rfl,zAa rfl (by simp[h1,h2,h3,h4,h5])⟩
  ·skip
   refine goQ e251 zBa 0 ?_ (by simp[AV.purL,AV.pur,hpu,hpj]);simp only[push_cast,seval,↓kw2,k1,k2,k3,m1,m2,m3,hlen,hw,h1,h2,h3,h4,h5,h6];exact⟨_,rfl,zAa rfl (by simp[h1,h2,h3,h4,h5,h6])⟩
  ·skip
   refine goQ e251 zBa 0 ?_ (by simp[AV.purL,AV.pur,hpu,hpj]);simp only[push_cast,seval,↓kw2,k1,k2,k3,m1,m2,m3,hlen,hw,h1,h2,h3,h4,h5,h6];exact⟨_,rfl,zAa rfl (by simp[h1,h2,h3,h4,h5,h6])⟩
 ·skip
  have hch2:(witV j.prio (-1000) 1000=false)∨(witV j.prio (-1000) 1000=true∧witV j.came 0 1099511627776=false)∨(witV j.prio (-1000) 1000=true∧witV j.came 0 1099511627776=true):=by
   generalize witV j.prio (-1000) 1000=qh5
   generalize witV j.came 0 1099511627776=qh6
   cases qh5 <;> cases qh6 <;> simp
  rcases hch2 with h5 | ⟨h5,h6⟩ | ⟨h5,h6⟩
  ·skip
   refine goQ e251 zBa 0 ?_ (by simp[AV.purL,AV.pur,hpu,hpj]);simp only[push_cast,seval,↓kw2,k1,k2,k3,m1,m2,m3,hlen,hw,h1,h2,h3,h4,h5];exact⟨_,rfl,zAa rfl (by simp[h1,h2,h3,h4,h5])⟩
  ·skip
   refine goQ e251 zBa 0 ?_ (by simp[AV.purL,AV.pur,hpu,hpj]);simp only[push_cast,seval,↓kw2,k1,k2,k3,m1,m2,m3,hlen,hw,h1,h2,h3,h4,h5,h6];exact⟨_,rfl,zAa rfl (by simp[h1,h2,h3,h4,h5,h6])⟩
  ·skip
   have hch3:(decide (1≤j.st)=false)∨(decide (1≤j.st)=true∧decide (j.st≤6)=false)∨(decide (1≤j.st)=true∧decide (j.st≤6)=true∧j.held=false)∨(decide (1≤j.st)=true∧decide (j.st≤6)=true∧j.held=true∧decide (j.st=1)=false)∨(decide (1≤j.st)=true∧decide (j.st≤6)=true∧j.held=true∧decide (j.st=1)=true):=by
    generalize decide (1≤j.st)=qh7
    generalize decide (j.st≤6)=qh8
    generalize j.held=qh9
    generalize decide (j.st=1)=qh10
    cases qh7 <;> cases qh8 <;> cases qh9 <;> cases qh10 <;> simp
   rcases hch3 with h7 | ⟨h7,h8⟩ | ⟨h7,h8,h9⟩ | ⟨h7,h8,h9,h10⟩ | ⟨h7,h8,h9,h10⟩
   ·skip
    refine goQ e251 zBa 0 ?_ (by simp[AV.purL,AV.pur,hpu,hpj]);simp only[push_cast,seval,↓kw2,k1,k2,k3,m1,m2,m3,hlen,hw,h1,h2,h3,h4,h5,h6,h7];exact⟨_,rfl,zAa rfl (by simp[h1,h2,h3,h4,h5,h6,h7])⟩
   ·skip
    refine goQ e251 zBa 0 ?_ (by simp[AV.purL,AV.pur,hpu,hpj]);simp only[push_cast,seval,↓kw2,k1,k2,k3,m1,m2,m3,hlen,hw,h1,h2,h3,h4,h5,h6,h7,h8];exact⟨_,rfl,zAa rfl (by simp[h1,h2,h3,h4,h5,h6,h7,h8])⟩
   ·skip
    refine goQ e251 zBa 0 ?_ (by simp[AV.purL,AV.pur,hpu,hpj]);simp only[push_cast,seval,↓kw2,k1,k2,k3,m1,m2,m3,hlen,hw,h1,h2,h3,h4,h5,h6,h7,h8,h9];exact⟨_,rfl,zAa rfl (by simp[h1,h2,h3,h4,h5,h6,h7,h8,h9])⟩
   ·skip
    refine goQ e251 zBa 0 ?_ (by simp[AV.purL,AV.pur,hpu,hpj]);simp only[push_cast,seval,↓kw2,k1,k2,k3,m1,m2,m3,hlen,hw,h1,h2,h3,h4,h5,h6,h7,h8,h9,h10];exact⟨_,rfl,zAa rfl (by simp[h1,h2,h3,h4,h5,h6,h7,h8,h9,h10])⟩
   ·skip
    refine goQ e251 zBa 0 ?_ (by simp[AV.purL,AV.pur,hpu,hpj]);simp only[push_cast,seval,↓kw2,k1,k2,k3,m1,m2,m3,hlen,hw,h1,h2,h3,h4,h5,h6,h7,h8,h9,h10];exact⟨_,rfl,zAa rfl (by simp[h1,h2,h3,h4,h5,h6,h7,h8,h9,h10])⟩
theorem IA_cells(x:Int):(IA x).cells=[I x]:=rfl
theorem U_cells(x:Int):(U x).cells=[U x]:=rfl
structure Kep where
 id:Int
 x:Int
 y:Int
 z:Int
 p:Int
 q:Int
 r:Int
 fr:Int
 till:Int
 deriving DecidableEq
abbrev KP(i x y z p q r f t:Int):AV:=.agg [I i,I x,I y,I z,I p,I q,I r,I f,I t]
def Kep.av(k:Kep):AV:=KP k.id k.x k.y k.z k.p k.q k.r k.fr k.till
instance:Inhabited Kep:=⟨⟨0,0,0,0,0,0,0,0,0⟩⟩
theorem Kep.cells(k:Kep):k.av.cells=[I k.id,I k.x,I k.y,I k.z,I k.p,I k.q,I k.r,I k.fr,I k.till]:=rfl
theorem e211:Ent Tryz.prog 211 Tryz.f211 [] 2:=.mk Tryz.func211 rfl
attribute [push_cast] Tryz.f211
theorem idxI{g:Nat}{caps:List AV}{pr:Nat→Bool}{l:List Int}{s:AV}(hs:IsSl s (l.map IA))(hl:l.length≤2^20)(St:Nat→List AO→Prop)
  (hp:∀(i:Nat) (H:List AO) (K:AV→List AO→Prop),i < l.length→St i H→(∀ H',St (i+1) H'→K (B (pr i)) H')→AC Tryz.prog GG g (IA (l.getD i 0)::caps) H K) {H:List AO} {K:AV→List AO→Prop} (h0:St 0 H)
  (hK:∀ H',(∃ i,i≤l.length∧St i H')→K (I (zBc pr l.length 0)) H'):AC Tryz.prog GG 211 [s,.fn g [] caps] H K:=by
 have hlen:=hs.len un56;rw[List.length_map]at hlen;have hidx:=fun(i:Nat) (hi:i < l.length) (H:List AO)=>hs.idx (P:=Tryz.prog) un56 sz3 (i:=(i:Int)) (by rw[List.length_map]; omega) (by omega) H
 refine goE e211 TOk.nil 0 ?_;simp only[push_cast,seval,↓kw2,hlen];refine FW.loopInv (fun m ts H'=>∃ i:Nat,i+m=l.length∧zBc pr m i=zBc pr l.length 0∧St i H'∧ts 0=s∧ts 1=.fn g [] caps∧ts 7=I (l.length:Int)∧ts 8=I (i:Int)) l.length
  ⟨0,by omega,rfl,h0,rfl,rfl,rfl,rfl⟩ ?_
 rintro m ih ts H' ⟨i,hi,hf,hst,t0,t1,t7,t8⟩
 refine FW.inLoop ?_
 by_cases hlt:i < l.length
 ·have hd1:decide ((i:Int) < (l.length:Int))=true:=by simp[hlt]
  have hx:=hidx i hlt;have hgy:=zAc IA l 0 hlt;simp only[Int.toNat_natCast]at hx;rw[hgy]at hx;have hpi:=hp i;obtain⟨m,rfl⟩:∃ m',m=m'+1:=⟨m - 1,by omega⟩
  generalize l.getD i 0=x at hx hpi
  have hcx:=IA_cells x;have hbb:(0≤(i:Int)∧(i:Int) < ((l.map IA).length:Int)):=⟨by omega,by rw[List.length_map]; omega⟩;refine goN ?_;simp only[push_cast,seval,↓kw2,t0,t1,t7,t8,hd1,hx,hcx]
  first
   | refine⟨hbb,?_⟩
   | refine⟨⟨hbb,rfl⟩,?_⟩
  refine hpi _ _ hlt hst ?_
  intro H2 hst2
  rw[zBm]at hf;cases hpx:pr i
  ·rw[hpx,if_neg (by decide)]at hf;refine goN ?_;simp only[push_cast,seval,↓kw2,t8];rw[zAg (n:=(i:Int)+1) (by omega) (by omega)];exact ih m (by omega) _ _ ⟨i+1,by omega,hf,hst2,t0,t1,t7,rfl⟩
  ·rw[hpx,if_pos rfl]at hf;refine goN ?_;simp only[push_cast,seval,↓kw2,t8];exact⟨_,rfl,by rw[hf]; exact hK _ ⟨i+1,by omega,hst2⟩⟩
 ·have hd1:decide ((i:Int) < (l.length:Int))=false:=by simp; omega
  have hm:m=0:=by omega
  subst hm;refine goN ?_;simp only[push_cast,seval,↓kw2,t7,t8,hd1];exact⟨_,rfl,by rw[show(-1:Int)=zBc pr l.length 0 from hf]; exact hK _ ⟨i,by omega,hst⟩⟩
theorem e162:Ent Tryz.prog 162 Tryz.f162 [] 2:=.mk Tryz.func162 rfl
attribute [push_cast] Tryz.f162
theorem hasI{g:Nat}{caps:List AV}{pr:Nat→Bool}{l:List Int}{s:AV}(hs:IsSl s (l.map IA))(hl:l.length≤2^20)(St:Nat→List AO→Prop)
  (hp:∀(i:Nat) (H:List AO) (K:AV→List AO→Prop),i < l.length→St i H→(∀ H',St (i+1) H'→K (B (pr i)) H')→AC Tryz.prog GG g (IA (l.getD i 0)::caps) H K) {H:List AO} {K:AV→List AO→Prop} (h0:St 0 H)
  (hK:∀ H',(∃ i,i≤l.length∧St i H')→K (B (anyN pr l.length 0)) H'):AC Tryz.prog GG 162 [s,.fn g [] caps] H K:=by
 simp only[← zCh]at hK;refine goE e162 TOk.nil 0 ?_;simp only[push_cast,seval,↓kw2];refine idxI hs hl St hp h0 ?_
 intro H' hh
 refine goN ?_;simp only[push_cast,seval,↓kw2];exact⟨_,rfl,hK _ hh⟩
theorem e164:Ent Tryz.prog 164 Tryz.f164 [] 2:=.mk Tryz.func164 rfl
attribute [push_cast] Tryz.f164
theorem idxJ{g:Nat}{caps:List AV}{pr:Nat→Bool}{l:List Jb}{s:AV}(hs:IsSl s (l.map Jb.av))(hl:l.length≤2^20)(St:Nat→List AO→Prop)
  (hp:∀(i:Nat) (H:List AO) (K:AV→List AO→Prop),i < l.length→St i H→(∀ H',St (i+1) H'→K (B (pr i)) H')→AC Tryz.prog GG g (Jb.av (l.getD i default)::caps) H K) {H:List AO} {K:AV→List AO→Prop} (h0:St 0 H)
  (hK:∀ H',(∃ i,i≤l.length∧St i H')→K (I (zBc pr l.length 0)) H'):AC Tryz.prog GG 164 [s,.fn g [] caps] H K:=by
 have hlen:=hs.len un53;rw[List.length_map]at hlen;have hidx:=fun(i:Nat) (hi:i < l.length) (H:List AO)=>hs.idx (P:=Tryz.prog) un53 sz83 (i:=(i:Int)) (by rw[List.length_map]; omega) (by omega) H
 refine goE e164 TOk.nil 0 ?_;simp only[push_cast,seval,↓kw2,hlen];refine FW.loopInv (fun m ts H'=>∃ i:Nat,i+m=l.length∧zBc pr m i=zBc pr l.length 0∧St i H'∧ts 0=s∧ts 1=.fn g [] caps∧ts 7=I (l.length:Int)∧ts 8=I (i:Int)) l.length
  ⟨0,by omega,rfl,h0,rfl,rfl,rfl,rfl⟩ ?_
 rintro m ih ts H' ⟨i,hi,hf,hst,t0,t1,t7,t8⟩
 refine FW.inLoop ?_
 by_cases hlt:i < l.length
 ·have hd1:decide ((i:Int) < (l.length:Int))=true:=by simp[hlt]
  have hx:=hidx i hlt;have hgy:=zAc Jb.av l default hlt;simp only[Int.toNat_natCast]at hx;rw[hgy]at hx;have hpi:=hp i;obtain⟨m,rfl⟩:∃ m',m=m'+1:=⟨m - 1,by omega⟩
  generalize l.getD i default=x at hx hpi
  have hcx:=Jb.cells x;have hbb:(0≤(i:Int)∧(i:Int) < ((l.map Jb.av).length:Int)):=⟨by omega,by rw[List.length_map]; omega⟩;refine goN ?_;simp only[push_cast,seval,↓kw2,t0,t1,t7,t8,hd1,hx,hcx]
  first
   | refine⟨hbb,?_⟩
   | refine⟨⟨hbb,rfl⟩,?_⟩
  refine hpi _ _ hlt hst ?_
  intro H2 hst2
  rw[zBm]at hf;cases hpx:pr i
  ·rw[hpx,if_neg (by decide)]at hf;refine goN ?_;simp only[push_cast,seval,↓kw2,t8];rw[zAg (n:=(i:Int)+1) (by omega) (by omega)];exact ih m (by omega) _ _ ⟨i+1,by omega,hf,hst2,t0,t1,t7,rfl⟩
  ·rw[hpx,if_pos rfl]at hf;refine goN ?_;simp only[push_cast,seval,↓kw2,t8];exact⟨_,rfl,by rw[hf]; exact hK _ ⟨i+1,by omega,hst2⟩⟩
 ·have hd1:decide ((i:Int) < (l.length:Int))=false:=by simp; omega
  have hm:m=0:=by omega
  subst hm;refine goN ?_;simp only[push_cast,seval,↓kw2,t7,t8,hd1];exact⟨_,rfl,by rw[show(-1:Int)=zBc pr l.length 0 from hf]; exact hK _ ⟨i,by omega,hst⟩⟩
theorem e108:Ent Tryz.prog 108 Tryz.f108 [] 2:=.mk Tryz.func108 rfl
attribute [push_cast] Tryz.f108
theorem hasJ{g:Nat}{caps:List AV}{pr:Nat→Bool}{l:List Jb}{s:AV}(hs:IsSl s (l.map Jb.av))(hl:l.length≤2^20)(St:Nat→List AO→Prop)
  (hp:∀(i:Nat) (H:List AO) (K:AV→List AO→Prop),i < l.length→St i H→(∀ H',St (i+1) H'→K (B (pr i)) H')→AC Tryz.prog GG g (Jb.av (l.getD i default)::caps) H K) {H:List AO} {K:AV→List AO→Prop} (h0:St 0 H)
  (hK:∀ H',(∃ i,i≤l.length∧St i H')→K (B (anyN pr l.length 0)) H'):AC Tryz.prog GG 108 [s,.fn g [] caps] H K:=by
 simp only[← zCh]at hK;refine goE e108 TOk.nil 0 ?_;simp only[push_cast,seval,↓kw2];refine idxJ hs hl St hp h0 ?_
 intro H' hh
 refine goN ?_;simp only[push_cast,seval,↓kw2];exact⟨_,rfl,hK _ hh⟩
theorem e169:Ent Tryz.prog 169 Tryz.f169 [] 2:=.mk Tryz.func169 rfl
attribute [push_cast] Tryz.f169
theorem idxP{g:Nat}{caps:List AV}{pr:Nat→Bool}{l:List Prt}{s:AV}(hs:IsSl s (l.map Prt.av))(hl:l.length≤2^20)(St:Nat→List AO→Prop)
  (hp:∀(i:Nat) (H:List AO) (K:AV→List AO→Prop),i < l.length→St i H→(∀ H',St (i+1) H'→K (B (pr i)) H')→AC Tryz.prog GG g (Prt.av (l.getD i default)::caps) H K) {H:List AO} {K:AV→List AO→Prop} (h0:St 0 H)
  (hK:∀ H',(∃ i,i≤l.length∧St i H')→K (I (zBc pr l.length 0)) H'):AC Tryz.prog GG 169 [s,.fn g [] caps] H K:=by
 have hlen:=hs.len un54;rw[List.length_map]at hlen;have hidx:=fun(i:Nat) (hi:i < l.length) (H:List AO)=>hs.idx (P:=Tryz.prog) un54 sz70 (i:=(i:Int)) (by rw[List.length_map]; omega) (by omega) H
 refine goE e169 TOk.nil 0 ?_;simp only[push_cast,seval,↓kw2,hlen];refine FW.loopInv (fun m ts H'=>∃ i:Nat,i+m=l.length∧zBc pr m i=zBc pr l.length 0∧St i H'∧ts 0=s∧ts 1=.fn g [] caps∧ts 7=I (l.length:Int)∧ts 8=I (i:Int)) l.length
  ⟨0,by omega,rfl,h0,rfl,rfl,rfl,rfl⟩ ?_
 rintro m ih ts H' ⟨i,hi,hf,hst,t0,t1,t7,t8⟩
 refine FW.inLoop ?_
 by_cases hlt:i < l.length
 ·have hd1:decide ((i:Int) < (l.length:Int))=true:=by simp[hlt]
  have hx:=hidx i hlt;have hgy:=zAc Prt.av l default hlt;simp only[Int.toNat_natCast]at hx;rw[hgy]at hx;have hpi:=hp i;obtain⟨m,rfl⟩:∃ m',m=m'+1:=⟨m - 1,by omega⟩
  generalize l.getD i default=x at hx hpi
  have hcx:=Prt.cells x;have hbb:(0≤(i:Int)∧(i:Int) < ((l.map Prt.av).length:Int)):=⟨by omega,by rw[List.length_map]; omega⟩;refine goN ?_;simp only[push_cast,seval,↓kw2,t0,t1,t7,t8,hd1,hx,hcx]
  first
   | refine⟨hbb,?_⟩
   | refine⟨⟨hbb,rfl⟩,?_⟩
  refine hpi _ _ hlt hst ?_
  intro H2 hst2
  rw[zBm]at hf;cases hpx:pr i
  ·rw[hpx,if_neg (by decide)]at hf;refine goN ?_;simp only[push_cast,seval,↓kw2,t8];rw[zAg (n:=(i:Int)+1) (by omega) (by omega)];exact ih m (by omega) _ _ ⟨i+1,by omega,hf,hst2,t0,t1,t7,rfl⟩
  ·rw[hpx,if_pos rfl]at hf;refine goN ?_;simp only[push_cast,seval,↓kw2,t8];exact⟨_,rfl,by rw[hf]; exact hK _ ⟨i+1,by omega,hst2⟩⟩
 ·have hd1:decide ((i:Int) < (l.length:Int))=false:=by simp; omega
  have hm:m=0:=by omega
  subst hm;refine goN ?_;simp only[push_cast,seval,↓kw2,t7,t8,hd1];exact⟨_,rfl,by rw[show(-1:Int)=zBc pr l.length 0 from hf]; exact hK _ ⟨i,by omega,hst⟩⟩
theorem e112:Ent Tryz.prog 112 Tryz.f112 [] 2:=.mk Tryz.func112 rfl
attribute [push_cast] Tryz.f112
theorem hasP{g:Nat}{caps:List AV}{pr:Nat→Bool}{l:List Prt}{s:AV}(hs:IsSl s (l.map Prt.av))(hl:l.length≤2^20)(St:Nat→List AO→Prop)
  (hp:∀(i:Nat) (H:List AO) (K:AV→List AO→Prop),i < l.length→St i H→(∀ H',St (i+1) H'→K (B (pr i)) H')→AC Tryz.prog GG g (Prt.av (l.getD i default)::caps) H K) {H:List AO} {K:AV→List AO→Prop} (h0:St 0 H)
  (hK:∀ H',(∃ i,i≤l.length∧St i H')→K (B (anyN pr l.length 0)) H'):AC Tryz.prog GG 112 [s,.fn g [] caps] H K:=by
 simp only[← zCh]at hK;refine goE e112 TOk.nil 0 ?_;simp only[push_cast,seval,↓kw2];refine idxP hs hl St hp h0 ?_
 intro H' hh
 refine goN ?_;simp only[push_cast,seval,↓kw2];exact⟨_,rfl,hK _ hh⟩
theorem e105:Ent Tryz.prog 105 Tryz.f105 [] 2:=.mk Tryz.func105 rfl
attribute [push_cast] Tryz.f105
theorem idxK{g:Nat}{caps:List AV}{pr:Nat→Bool}{l:List Kep}{s:AV}(hs:IsSl s (l.map Kep.av))(hl:l.length≤2^20)(St:Nat→List AO→Prop)
  (hp:∀(i:Nat) (H:List AO) (K:AV→List AO→Prop),i < l.length→St i H→(∀ H',St (i+1) H'→K (B (pr i)) H')→AC Tryz.prog GG g (Kep.av (l.getD i default)::caps) H K) {H:List AO} {K:AV→List AO→Prop} (h0:St 0 H)
  (hK:∀ H',(∃ i,i≤l.length∧St i H')→K (I (zBc pr l.length 0)) H'):AC Tryz.prog GG 105 [s,.fn g [] caps] H K:=by
 have hlen:=hs.len un55;rw[List.length_map]at hlen;have hidx:=fun(i:Nat) (hi:i < l.length) (H:List AO)=>hs.idx (P:=Tryz.prog) un55 sz68 (i:=(i:Int)) (by rw[List.length_map]; omega) (by omega) H
 refine goE e105 TOk.nil 0 ?_;simp only[push_cast,seval,↓kw2,hlen];refine FW.loopInv (fun m ts H'=>∃ i:Nat,i+m=l.length∧zBc pr m i=zBc pr l.length 0∧St i H'∧ts 0=s∧ts 1=.fn g [] caps∧ts 7=I (l.length:Int)∧ts 8=I (i:Int)) l.length
  ⟨0,by omega,rfl,h0,rfl,rfl,rfl,rfl⟩ ?_
 rintro m ih ts H' ⟨i,hi,hf,hst,t0,t1,t7,t8⟩
 refine FW.inLoop ?_
 by_cases hlt:i < l.length
 ·have hd1:decide ((i:Int) < (l.length:Int))=true:=by simp[hlt]
  have hx:=hidx i hlt;have hgy:=zAc Kep.av l default hlt;simp only[Int.toNat_natCast]at hx;rw[hgy]at hx;have hpi:=hp i;obtain⟨m,rfl⟩:∃ m',m=m'+1:=⟨m - 1,by omega⟩
  generalize l.getD i default=x at hx hpi
  have hcx:=Kep.cells x;have hbb:(0≤(i:Int)∧(i:Int) < ((l.map Kep.av).length:Int)):=⟨by omega,by rw[List.length_map]; omega⟩;refine goN ?_;simp only[push_cast,seval,↓kw2,t0,t1,t7,t8,hd1,hx,hcx]
  first
   | refine⟨hbb,?_⟩
   | refine⟨⟨hbb,rfl⟩,?_⟩
  refine hpi _ _ hlt hst ?_
  intro H2 hst2
  rw[zBm]at hf;cases hpx:pr i
  ·rw[hpx,if_neg (by decide)]at hf;refine goN ?_;simp only[push_cast,seval,↓kw2,t8];rw[zAg (n:=(i:Int)+1) (by omega) (by omega)];exact ih m (by omega) _ _ ⟨i+1,by omega,hf,hst2,t0,t1,t7,rfl⟩
  ·rw[hpx,if_pos rfl]at hf;refine goN ?_;simp only[push_cast,seval,↓kw2,t8];exact⟨_,rfl,by rw[hf]; exact hK _ ⟨i+1,by omega,hst2⟩⟩
 ·have hd1:decide ((i:Int) < (l.length:Int))=false:=by simp; omega
  have hm:m=0:=by omega
  subst hm;refine goN ?_;simp only[push_cast,seval,↓kw2,t7,t8,hd1];exact⟨_,rfl,by rw[show(-1:Int)=zBc pr l.length 0 from hf]; exact hK _ ⟨i,by omega,hst⟩⟩
theorem e127:Ent Tryz.prog 127 Tryz.f127 [] 2:=.mk Tryz.func127 rfl
attribute [push_cast] Tryz.f127
theorem hasK{g:Nat}{caps:List AV}{pr:Nat→Bool}{l:List Kep}{s:AV}(hs:IsSl s (l.map Kep.av))(hl:l.length≤2^20)(St:Nat→List AO→Prop)
  (hp:∀(i:Nat) (H:List AO) (K:AV→List AO→Prop),i < l.length→St i H→(∀ H',St (i+1) H'→K (B (pr i)) H')→AC Tryz.prog GG g (Kep.av (l.getD i default)::caps) H K) {H:List AO} {K:AV→List AO→Prop} (h0:St 0 H)
  (hK:∀ H',(∃ i,i≤l.length∧St i H')→K (B (anyN pr l.length 0)) H'):AC Tryz.prog GG 127 [s,.fn g [] caps] H K:=by
 simp only[← zCh]at hK;refine goE e127 TOk.nil 0 ?_;simp only[push_cast,seval,↓kw2];refine idxK hs hl St hp h0 ?_
 intro H' hh
 refine goN ?_;simp only[push_cast,seval,↓kw2];exact⟨_,rfl,hK _ hh⟩
theorem e280:Ent Tryz.prog 280 Tryz.f280 [] 2:=.mk Tryz.func280 rfl
attribute [push_cast] Tryz.f280
theorem idxU{g:Nat}{caps:List AV}{pr:Nat→Bool}{l:List Int}{s:AV}(hs:IsSl s (l.map U))(hl:l.length≤2^20)(St:Nat→List AO→Prop)
  (hp:∀(i:Nat) (H:List AO) (K:AV→List AO→Prop),i < l.length→St i H→(∀ H',St (i+1) H'→K (B (pr i)) H')→AC Tryz.prog GG g (U (l.getD i 0)::caps) H K) {H:List AO} {K:AV→List AO→Prop} (h0:St 0 H)
  (hK:∀ H',(∃ i,i≤l.length∧St i H')→K (I (zBc pr l.length 0)) H'):AC Tryz.prog GG 280 [s,.fn g [] caps] H K:=by
 have hlen:=hs.len un28;rw[List.length_map]at hlen;have hidx:=fun(i:Nat) (hi:i < l.length) (H:List AO)=>hs.idx (P:=Tryz.prog) un28 sz132 (i:=(i:Int)) (by rw[List.length_map]; omega) (by omega) H
 refine goE e280 TOk.nil 0 ?_;simp only[push_cast,seval,↓kw2,hlen];refine FW.loopInv (fun m ts H'=>∃ i:Nat,i+m=l.length∧zBc pr m i=zBc pr l.length 0∧St i H'∧ts 0=s∧ts 1=.fn g [] caps∧ts 7=I (l.length:Int)∧ts 8=I (i:Int)) l.length
  ⟨0,by omega,rfl,h0,rfl,rfl,rfl,rfl⟩ ?_
 rintro m ih ts H' ⟨i,hi,hf,hst,t0,t1,t7,t8⟩
 refine FW.inLoop ?_
 by_cases hlt:i < l.length
 ·have hd1:decide ((i:Int) < (l.length:Int))=true:=by simp[hlt]
  have hx:=hidx i hlt;have hgy:=zAc U l 0 hlt;simp only[Int.toNat_natCast]at hx;rw[hgy]at hx;have hpi:=hp i;obtain⟨m,rfl⟩:∃ m',m=m'+1:=⟨m - 1,by omega⟩
  generalize l.getD i 0=x at hx hpi
  have hcx:=U_cells x;have hbb:(0≤(i:Int)∧(i:Int) < ((l.map U).length:Int)):=⟨by omega,by rw[List.length_map]; omega⟩;refine goN ?_;simp only[push_cast,seval,↓kw2,t0,t1,t7,t8,hd1,hx,hcx]
  first
   | refine⟨hbb,?_⟩
   | refine⟨⟨hbb,rfl⟩,?_⟩
  refine hpi _ _ hlt hst ?_
  intro H2 hst2
  rw[zBm]at hf;cases hpx:pr i
  ·rw[hpx,if_neg (by decide)]at hf;refine goN ?_;simp only[push_cast,seval,↓kw2,t8];rw[zAg (n:=(i:Int)+1) (by omega) (by omega)];exact ih m (by omega) _ _ ⟨i+1,by omega,hf,hst2,t0,t1,t7,rfl⟩
  ·rw[hpx,if_pos rfl]at hf;refine goN ?_;simp only[push_cast,seval,↓kw2,t8];exact⟨_,rfl,by rw[hf]; exact hK _ ⟨i+1,by omega,hst2⟩⟩
 ·have hd1:decide ((i:Int) < (l.length:Int))=false:=by simp; omega
  have hm:m=0:=by omega
  subst hm;refine goN ?_;simp only[push_cast,seval,↓kw2,t7,t8,hd1];exact⟨_,rfl,by rw[show(-1:Int)=zBc pr l.length 0 from hf]; exact hK _ ⟨i,by omega,hst⟩⟩
theorem e260:Ent Tryz.prog 260 Tryz.f260 [] 2:=.mk Tryz.func260 rfl
attribute [push_cast] Tryz.f260
theorem hasU{g:Nat}{caps:List AV}{pr:Nat→Bool}{l:List Int}{s:AV}(hs:IsSl s (l.map U))(hl:l.length≤2^20)(St:Nat→List AO→Prop)
  (hp:∀(i:Nat) (H:List AO) (K:AV→List AO→Prop),i < l.length→St i H→(∀ H',St (i+1) H'→K (B (pr i)) H')→AC Tryz.prog GG g (U (l.getD i 0)::caps) H K) {H:List AO} {K:AV→List AO→Prop} (h0:St 0 H)
  (hK:∀ H',(∃ i,i≤l.length∧St i H')→K (B (anyN pr l.length 0)) H'):AC Tryz.prog GG 260 [s,.fn g [] caps] H K:=by
 simp only[← zCh]at hK;refine goE e260 TOk.nil 0 ?_;simp only[push_cast,seval,↓kw2];refine idxU hs hl St hp h0 ?_
 intro H' hh
 refine goN ?_;simp only[push_cast,seval,↓kw2];exact⟨_,rfl,hK _ hh⟩
def JobsS(s:AV)(l:List Jb):Prop:=IsSl s (l.map Jb.av)∧∀ j∈l,j.good
theorem purL_jobs:∀ {l:List Jb},(∀ j∈l,j.good)→AV.purL (l.map Jb.av)=true
 | [],_=>rfl
 | j::l,h=>by
  show(j.av.pur&&AV.purL (l.map Jb.av))=true;rw[Jb.pur (h j (by simp)),purL_jobs fun x hx=>h x (by simp[hx])]; rfl
theorem JobsS.pur{s:AV}{l:List Jb}(h:JobsS s l):s.pur=true:=h.1.pur (purL_jobs h.2)
theorem JobsS.get{s:AV}{l:List Jb}(h:JobsS s l)(i:Nat):(l.getD i default).good:=by
 by_cases hi:i < l.length
 ·have:l.getD i default=l[i]:=by simp[List.getD,hi]
  rw[this]; exact h.2 _ (List.getElem_mem hi)
 ·have:l.getD i default=default:=by simp[List.getD,List.getElem?_eq_none (by omega:l.length≤i)]
  rw[this]; exact Jb.good_default
def zBl(l:List Jb)(id:Int):Int:=zBc (fun i=>decide ((l.getD i default).id=id)) l.length 0
theorem e257:Ent Tryz.prog 257 Tryz.f257 [] 2:=.mk Tryz.func257 rfl
attribute [push_cast] Tryz.f257
theorem find1_ac{j:Jb}(hj:j.good){id:Int}{H:List AO}{q:Nat}(h0:H[q]?=some (.cells [I id])){K:AV→List AO→Prop}(hK:∀ l,K (B (decide (j.id=id))) (H++l)):AC Tryz.prog GG 257 [j.av,.ptr q 0] H K:=by
 obtain⟨m1,m2,m3⟩:=IsSl.cell hj;have h0':∀ l,(H++l)[q]?=some (.cells [I id]):=fun l=>(List.getElem?_append_left (zAe h0)).trans h0
 show AC Tryz.prog GG 257 [JB j.id j.user j.cls j.w j.wall j.prio j.held j.aft j.st j.came,.ptr q 0] H K;refine goE e257 TOk.nil 0 ?_;simp only[push_cast,seval,↓kw2,m1,m2,m3,h0,h0',zAf,getA,zAh,setA,zAb];exact⟨_,rfl,hK _⟩
theorem e216:Ent Tryz.prog 216 Tryz.f216 [] 2:=.mk Tryz.func216 rfl
attribute [push_cast] Tryz.f216
theorem find_pur{s:AV}{l:List Jb}(hs:JobsS s l)(hl:l.length≤2^20)(id:Int):Pur Tryz.prog GG 216 [s,I id] (.tup [I (if zBl l id < 0 then 0 else zBl l id),I (if zBl l id < 0 then 6 else 0)]):=by
 have hpu:=hs.pur;obtain⟨k1,k2,k3⟩:=hs.1.cell;refine goQ e216 TOk.nil 0 ?_ (by simp[AV.purL,AV.pur,hpu]);simp only[push_cast,seval,↓kw2,k1,k2,k3];refine idxJ hs.1 hl (fun _ H=>∃ l,H=AO.cells [I id]::l) (pr:=fun i=>decide ((l.getD i default).id=id)) ?_ ⟨[],rfl⟩ ?_
 ·rintro i H K hi ⟨l',rfl⟩ hK
  exact find1_ac (hs.get i) rfl fun l2=>hK _ ⟨l'++l2,rfl⟩
 rintro H' ⟨_,_,l',rfl⟩
 show FW _ _ _ _ _ (upd _ _ (I (zBl l id))) _ _
 by_cases h:zBl l id < 0
 ·rw[if_pos h,if_pos h];refine goN ?_;simp only[push_cast,seval,↓kw2,h];exact⟨_,rfl,zAa rfl rfl⟩
 ·rw[if_neg h,if_neg h];refine goN ?_;simp only[push_cast,seval,↓kw2,h];exact⟨_,rfl,zAa rfl rfl⟩
theorem e210:Ent Tryz.prog 210 Tryz.f210 [] 2:=.mk Tryz.func210 rfl
attribute [push_cast] Tryz.f210
def isJ(l:List Jb)(id:Int):Bool:=decide (0≤zBl l id)
theorem has_j{s:AV}{l:List Jb}(hs:JobsS s l)(hl:l.length≤2^20)(id:Int):Pur Tryz.prog GG 210 [s,I id] (B (isJ l id)):=by
 have hpu:=hs.pur;obtain⟨k1,k2,k3⟩:=hs.1.cell;have hf:=find_pur hs hl id;unfold isJ
 by_cases h:zBl l id < 0
 ·rw[if_pos h,if_pos h]at hf;rw[decide_eq_false (by omega)];refine goQ e210 TOk.nil 0 ?_ (by simp[AV.purL,AV.pur,hpu]);simp only[push_cast,seval,↓kw2,k1,k2,k3];refine AC.pur hf ?_;refine goN ?_;simp only[push_cast,seval,↓kw2];exact⟨_,rfl,zAa rfl rfl⟩
 ·rw[if_neg h,if_neg h]at hf;rw[decide_eq_true (by omega)];refine goQ e210 TOk.nil 0 ?_ (by simp[AV.purL,AV.pur,hpu]);simp only[push_cast,seval,↓kw2,k1,k2,k3];refine AC.pur hf ?_;refine goN ?_;simp only[push_cast,seval,↓kw2];exact⟨_,rfl,zAa rfl rfl⟩
def oddA(j:Jb)(i:Nat):Bool:=decide (j.after.getD i 0≤(if i=0 then 0 else j.after.getD (i - 1) 0))||decide (j.id≤j.after.getD i 0)
def Jb.rises(j:Jb):Bool:=decide ((j.after.length:Int)≤4)&&!anyN (oddA j) j.after.length 0
theorem e278:Ent Tryz.prog 278 Tryz.f278 [] 3:=.mk Tryz.func278 rfl
attribute [push_cast] Tryz.f278
theorem after1_ac{j:Jb}(hj:j.good){last k:Int}{H:List AO}{q r:Nat}(hq:H[q]?=some (.cells [I last]))(hr:H[r]?=some (.cells j.av.cells)){K:AV→List AO→Prop}
  (hK:K (B (decide (k≤last)||decide (j.id≤k))) (H.set q (.cells [I k]))):AC Tryz.prog GG 278 [I k,.ptr q 0,.ptr r 0] H K:=by
 obtain⟨m1,m2,m3⟩:=IsSl.cell hj;rw[Jb.cells]at hr
 by_cases h1:k≤last
 ·have d1:=decide_eq_true h1;rw[d1,Bool.true_or]at hK;refine goE e278 TOk.nil 0 ?_;simp only[push_cast,seval,↓kw2,hq,hr,d1];exact⟨_,rfl,hK⟩
 ·have d1:=decide_eq_false h1;rw[d1,Bool.false_or]at hK;refine goE e278 TOk.nil 0 ?_;simp only[push_cast,seval,↓kw2,hq,hr,d1];exact⟨_,rfl,hK⟩
theorem e252:Ent Tryz.prog 252 Tryz.f252 [] 1:=.mk Tryz.func252 rfl
attribute [push_cast] Tryz.f252
theorem after_pur{j:Jb}(hj:j.good):Pur Tryz.prog GG 252 [j.av] (B j.rises):=by
 have hpj:=IsSl.pur hj (zAd IA _ (fun _=>rfl));obtain⟨m1,m2,m3⟩:=IsSl.cell hj;have hlen:=IsSl.len hj un56;rw[List.length_map]at hlen;unfold Jb.rises;show Pur Tryz.prog GG 252 [JB j.id j.user j.cls j.w j.wall j.prio j.held j.aft j.st j.came] _
 by_cases h4:(j.after.length:Int)≤4
 ·rw[decide_eq_true h4];have d4:=decide_eq_true h4;refine goQ e252 TOk.nil 0 ?_ (by simp[AV.purL,AV.pur,hpj]);simp only[push_cast,seval,↓kw2,m1,m2,m3,hlen,d4];refine hasI hj (by omega) (fun i H=>H=[AO.cells j.av.cells,AO.cells [I (if i=0 then 0 else j.after.getD (i - 1) 0)]]) (pr:=oddA j) ?_ rfl ?_
  ·rintro i H K hi rfl hK
   refine after1_ac hj (q:=1) (r:=0) rfl rfl ?_;exact hK _ (by simp)
  rintro H' ⟨_,_,rfl⟩
  refine goN ?_;simp only[push_cast,seval,↓kw2];exact⟨_,rfl,zAa rfl (by simp)⟩
 ·rw[decide_eq_false h4];have d4:=decide_eq_false h4;refine goQ e252 TOk.nil 0 ?_ (by simp[AV.purL,AV.pur,hpj]);simp only[push_cast,seval,↓kw2,m1,m2,m3,hlen,d4];exact⟨_,rfl,zAa rfl rfl⟩
def fitT(a b c:Int)(t:Wnt):Prop:=t.p≤a∧t.q≤b∧t.r≤c
instance (a b c:Int) (t:Wnt):Decidable (fitT a b c t):=by unfold fitT; infer_instance
theorem e279:Ent Tryz.prog 279 Tryz.f279 [] 2:=.mk Tryz.func279 rfl
attribute [push_cast] Tryz.f279
theorem fits1_pur(a b c:Int)(t:Wnt):Pur Tryz.prog GG 279 [t.av,.iptr [I a,I b,I c] 0] (B (decide (fitT a b c t))):=by
 show Pur Tryz.prog GG 279 [WT t.p t.q t.r t.s t.t t.u t.v,.iptr [I a,I b,I c] 0] _
 by_cases h1:t.p≤a
 ·have d1:=decide_eq_true h1
  by_cases h2:t.q≤b
  ·have d2:=decide_eq_true h2;refine goQ e279 TOk.nil 0 ?_;simp only[push_cast,seval,↓kw2,d1,d2];exact⟨_,rfl,zAa rfl (by unfold fitT; simp[h1,h2])⟩
  ·have d2:=decide_eq_false h2;refine goQ e279 TOk.nil 0 ?_;simp only[push_cast,seval,↓kw2,d1,d2];exact⟨_,rfl,zAa rfl (by unfold fitT; simp[h1,h2])⟩
 ·have d1:=decide_eq_false h1;refine goQ e279 TOk.nil 0 ?_;simp only[push_cast,seval,↓kw2,d1];exact⟨_,rfl,zAa rfl (by unfold fitT; simp[h1])⟩
theorem e253:Ent Tryz.prog 253 Tryz.f253 [] 2:=.mk Tryz.func253 rfl
attribute [push_cast] Tryz.f253
theorem fits_pur{a b c:Int}(hd:okD a b c)(w:Wnt)(hw:okW w.p w.q w.r):Pur Tryz.prog GG 253 [.agg [I a,I b,I c],w.av] (.tup [B (w.turns.any fun t=>decide (fitT a b c t)),I 0]):=by
 have hk:=chk_ok.2 hd;show Pur Tryz.prog GG 253 [.agg [I a,I b,I c],WT w.p w.q w.r w.s w.t w.u w.v] _;refine goQ e253 S4_ok 0 ?_;simp only[push_cast,seval,↓kw2,hk];refine AC.pur (turnsA_pur w hw) ?_;refine goW S4_ok [] 0 ?_;simp only[push_cast,seval,↓kw2];refine containsW (pr:=fun t=>decide (fitT a b c t)) (by have:=w.turns_len; omega) ?_ ?_
 ·intro t K ht hK
  refine AC.view ggp (n:=3) (args':=[t.av,.iptr [I a,I b,I c] 0]) ?_ ?_ rfl (fits1_pur a b c t) hK
  ·simp[mapO,frz,Wnt.pur,AV.pur]
  ·simp[AV.purL,AV.pur,Wnt.pur]
 ·skip
  refine goW S4_ok [] 0 ?_;simp only[push_cast,seval,↓kw2];exact⟨_,rfl,zAa rfl rfl⟩
def Jb.cl(x:Cfg)(j:Jb):Cls:=x.cls.getD j.cls.toNat default
def Jb.fits(x:Cfg)(j:Jb):Bool:=j.w.turns.any fun t=>decide (fitT x.a x.b x.c t)
def Jb.chk(x:Cfg)(j:Jb):Int :=
 if j.plain x=true then (if j.rises=true then (if wchk j.w.p j.w.q j.w.r=0 then (if j.fits x=true then (if (j.cl x).b < j.wall∨(j.cl x).c < j.w.p*j.w.q*j.w.r then 181 else 0) else 180) else 2) else 182) else 2
theorem FW.walkD{P:Program}{G:Gl}(hm:P.follows .mixedOrders=true){ops:Array Oper}{imp:Nat→Bool}{A:Nat→Bool}{ex:Nat→List Nat}(hA:∀ a,A a=true→a < ops.size)(hD:delayB ops A ex=true){l:List (Nat × Bool)}(hB:ordGB (dl A ex ops) imp l=true)(hq:qtB (dl A ex ops) l=true)
  {rd:Option Nat} {n id:Nat} {k:List Item} {Q:Lv→(Nat→AV)→List AO→Prop} {ts:Nat→AV} {H:List AO}
  (h:symG P G Tab.nil (dl A ex ops) (wt (dl A ex ops)) imp (fun _ ts H=>FW P G rd n k ts H Q) true l Go.Ab.WT ts H):FW P G rd n (.code (.region id ops true)::k) ts H Q :=
 FW.drawD hm hA hD hB (symG_runG (fun _ _ h=>h) l _ _ _ hq h)
def A90:Nat→Bool:=fun i=>i==9||i==10
def ex90:Nat→List Nat:=fun i=>if i=10 then [9] else []
def imp90:Nat→Bool:=fun i=>i==11
def ord90:List (Nat × Bool):=[(0,true),(1,true),(2,true),(3,true),(4,true),(5,true),(6,true),(7,true),(8,true),(9,false),(10,false),(11,false),(12,false)]
theorem okW_mul{p q r:Int}(h:okW p q r):-9223372036854775808≤p*q∧p*q < 9223372036854775808∧-9223372036854775808≤p*q*r∧p*q*r < 9223372036854775808:=by
 unfold okW at h;have m1:0≤p*q:=Int.mul_nonneg (by omega) (by omega);have m2:p*q≤16*16:=Int.mul_le_mul h.1.2 h.2.1.2 (by omega) (by omega);have m3:0≤p*q*r:=Int.mul_nonneg m1 (by omega);have m4:p*q*r≤256*16:=Int.mul_le_mul (by omega) h.2.2.2 (by omega) (by omega);omega
theorem e208:Ent Tryz.prog 208 Tryz.f208 [7] 2:=.mk Tryz.func208 rfl
attribute [push_cast] Tryz.f208
theorem jchk_pur(x:Cfg)(hm:x.may=true){j:Jb}{s:AV}(hs:IsSl s (x.cls.map Cls.av))(hj:j.good):Pur Tryz.prog GG 208 [x.av s,j.av] (I (j.chk x)):=by
 have hpu:=hs.pur (zAd Cls.av _ (fun _=>rfl));have hpj:=IsSl.pur hj (zAd IA _ (fun _=>rfl));obtain⟨k1,k2,k3⟩:=hs.cell;obtain⟨m1,m2,m3⟩:=IsSl.cell hj;have hm':=hm;unfold Cfg.may at hm';simp only[Bool.and_eq_true,decide_eq_true_eq,witV_t]at hm';have hd:okD x.a x.b x.c:=hm'.1.1.1.1;have hl4:=hm'.1.2.2;have hp:=jplain_pur x hs (by omega) hj;have ha:=after_pur hj;simp only[Cfg.av,Jb.av]at hp ha;unfold Jb.chk;show Pur Tryz.prog GG 208 [CF x.a x.b x.c x.boot x.free x.tries x.age s,JB j.id j.user j.cls j.w j.wall j.prio j.held j.aft j.st j.came] _;cases h1:j.plain x
 ·rw[h1]at hp;rw[if_neg (by decide)];refine goQ e208 zBa 0 ?_ (by simp[AV.purL,AV.pur,hpu,hpj]);simp only[push_cast,seval,↓kw2,k1,k2,k3,m1,m2,m3];refine AC.pur hp ?_;refine goW zBa [7] 0 ?_;simp only[push_cast,seval,↓kw2,k1,k2,k3,m1,m2,m3];exact⟨_,rfl,zAa rfl rfl⟩
 rw[h1]at hp;rw[if_pos rfl];cases h2:j.rises
 ·rw[h2]at ha;rw[if_neg (by decide)];refine goQ e208 zBa 0 ?_ (by simp[AV.purL,AV.pur,hpu,hpj]);simp only[push_cast,seval,↓kw2,k1,k2,k3,m1,m2,m3];refine AC.pur hp ?_;refine goW zBa [7] 0 ?_;simp only[push_cast,seval,↓kw2,k1,k2,k3,m1,m2,m3];refine AC.pur ha ?_;refine goW zBa [7] 0 ?_;simp only[push_cast,seval,↓kw2,k1,k2,k3,m1,m2,m3];exact⟨_,rfl,zAa rfl rfl⟩
 rw[h2]at ha;rw[if_pos rfl]
 by_cases h3:wchk j.w.p j.w.q j.w.r=0
 ·rw[if_pos h3];have hw:okW j.w.p j.w.q j.w.r:=by
   unfold wchk at h3
   split at h3
   ·assumption
   ·cases h3
  have hf:=fits_pur hd j.w hw;simp only[Wnt.av]at hf;have hcl:0≤j.cls∧j.cls.toNat < x.cls.length:=by
   have:=h1;unfold Jb.plain at this;simp only[Bool.and_eq_true,witV_t]at this;omega
  have hx:=hs.idx (P:=Tryz.prog) un50 sz72 (i:=j.cls) (by rw[List.length_map]; omega) hcl.1;have hgy:=zAc Cls.av x.cls default hcl.2;rw[hgy]at hx;have hbb:(0≤j.cls∧j.cls < ((x.cls.map Cls.av).length:Int)):=⟨hcl.1,by rw[List.length_map]; omega⟩;have hcc:=Cls.cells (x.cls.getD j.cls.toNat default);unfold Jb.fits Jb.cl;cases h4:(j.w.turns.any fun t=>decide (fitT x.a x.b x.c t))
  ·rw[h4]at hf;rw[if_neg (by decide)];refine goQ e208 zBa 0 ?_ (by simp[AV.purL,AV.pur,hpu,hpj]);simp only[push_cast,seval,↓kw2,k1,k2,k3,m1,m2,m3];refine AC.pur hp ?_;refine goW zBa [7] 0 ?_;simp only[push_cast,seval,↓kw2,k1,k2,k3,m1,m2,m3];refine AC.pur ha ?_;refine goW zBa [7] 0 ?_;simp only[push_cast,seval,↓kw2,k1,k2,k3,m1,m2,m3,h3,List.contains_cons,Bool.true_or,Bool.false_or,Bool.or_true];refine FW.walkD hmix (A:=A90) (ex:=ex90) (imp:=imp90) (l:=ord90) (fun a ha=>by unfold A90 at ha; simp at ha; rcases ha with rfl | rfl <;> decide) (by kernel_rfl) (by kernel_rfl) (by kernel_rfl) ?_;simp only[ord90];simp only[push_cast,seval,↓kw2,zCu,zCt,zBi,↓zBh,Bool.or_false,Bool.or_true,Bool.true_or,Bool.false_or,Bool.or_self,Nat.add_assoc,zBt,zEh,wat,clOf,Int.toNat_natCast,dl_get,dlO,A90,ex90,imp90,k1,k2,k3,m1,m2,m3,hx,hcc];refine⟨hbb,fun _=>by simp only[eq_true hbb],?_⟩;refine goW zBa [7] 0 ?_;simp only[push_cast,seval,↓kw2,k1,k2,k3,m1,m2,m3];refine AC.pur hf ?_;refine goW zBa [7] 0 ?_;simp only[push_cast,seval,↓kw2];exact⟨_,rfl,zAa rfl rfl⟩
  ·rw[h4]at hf;rw[if_pos rfl];have hv1:=zAg (n:=j.w.p*j.w.q) (okW_mul hw).1 (okW_mul hw).2.1;have hv2:=zAg (n:=j.w.p*j.w.q*j.w.r) (okW_mul hw).2.2.1 (okW_mul hw).2.2.2
   by_cases h5:(x.cls.getD j.cls.toNat default).b < j.wall
   ·rw[if_pos (.inl h5)];have d5:=decide_eq_true h5;refine goQ e208 zBa 0 ?_ (by simp[AV.purL,AV.pur,hpu,hpj]);simp only[push_cast,seval,↓kw2,k1,k2,k3,m1,m2,m3];refine AC.pur hp ?_;refine goW zBa [7] 0 ?_;simp only[push_cast,seval,↓kw2,k1,k2,k3,m1,m2,m3];refine AC.pur ha ?_;refine goW zBa [7] 0 ?_;simp only[push_cast,seval,↓kw2,k1,k2,k3,m1,m2,m3,h3,List.contains_cons,Bool.true_or,Bool.false_or,Bool.or_true];refine FW.walkD hmix (A:=A90) (ex:=ex90) (imp:=imp90) (l:=ord90) (fun a ha=>by unfold A90 at ha; simp at ha; rcases ha with rfl | rfl <;> decide) (by kernel_rfl) (by kernel_rfl) (by kernel_rfl) ?_;simp only[ord90];simp only[push_cast,seval,↓kw2,zCu,zCt,zBi,↓zBh,Bool.or_false,Bool.or_true,Bool.true_or,Bool.false_or,Bool.or_self,Nat.add_assoc,zBt,zEh,wat,clOf,Int.toNat_natCast,dl_get,dlO,A90,ex90,imp90,k1,k2,k3,m1,m2,m3,hx,hcc];refine⟨hbb,fun _=>by simp only[eq_true hbb],?_⟩;refine goW zBa [7] 0 ?_;simp only[push_cast,seval,↓kw2,k1,k2,k3,m1,m2,m3];refine AC.pur hf ?_;refine goW zBa [7] 0 ?_;simp only[push_cast,seval,↓kw2,d5];exact⟨_,rfl,zAa rfl rfl⟩
   ·have d5:=decide_eq_false h5
    by_cases h6:(x.cls.getD j.cls.toNat default).c < j.w.p*j.w.q*j.w.r
    ·rw[if_pos (.inr h6)];have d6:=decide_eq_true h6;refine goQ e208 zBa 0 ?_ (by simp[AV.purL,AV.pur,hpu,hpj]);simp only[push_cast,seval,↓kw2,k1,k2,k3,m1,m2,m3];refine AC.pur hp ?_;refine goW zBa [7] 0 ?_;simp only[push_cast,seval,↓kw2,k1,k2,k3,m1,m2,m3];refine AC.pur ha ?_;refine goW zBa [7] 0 ?_;simp only[push_cast,seval,↓kw2,k1,k2,k3,m1,m2,m3,h3,List.contains_cons,Bool.true_or,Bool.false_or,Bool.or_true];refine FW.walkD hmix (A:=A90) (ex:=ex90) (imp:=imp90) (l:=ord90) (fun a ha=>by unfold A90 at ha; simp at ha; rcases ha with rfl | rfl <;> decide) (by kernel_rfl) (by kernel_rfl) (by kernel_rfl) ?_;simp only[ord90];simp only[push_cast,seval,↓kw2,zCu,zCt,zBi,↓zBh,Bool.or_false,Bool.or_true,Bool.true_or,Bool.false_or,Bool.or_self,Nat.add_assoc,zBt,zEh,wat,clOf,Int.toNat_natCast,dl_get,dlO,A90,ex90,imp90,k1,k2,k3,m1,m2,m3,hx,hcc];refine⟨hbb,fun _=>by simp only[eq_true hbb],?_⟩;refine goW zBa [7] 0 ?_;simp only[push_cast,seval,↓kw2,k1,k2,k3,m1,m2,m3];refine AC.pur hf ?_;refine goW zBa [7] 0 ?_;simp only[push_cast,seval,↓kw2,d5,d6,hv1,hv2];exact⟨_,rfl,zAa rfl rfl⟩
    ·rw[if_neg (fun h=>h.elim h5 h6)];have d6:=decide_eq_false h6;refine goQ e208 zBa 0 ?_ (by simp[AV.purL,AV.pur,hpu,hpj]);simp only[push_cast,seval,↓kw2,k1,k2,k3,m1,m2,m3];refine AC.pur hp ?_;refine goW zBa [7] 0 ?_;simp only[push_cast,seval,↓kw2,k1,k2,k3,m1,m2,m3];refine AC.pur ha ?_;refine goW zBa [7] 0 ?_;simp only[push_cast,seval,↓kw2,k1,k2,k3,m1,m2,m3,h3,List.contains_cons,Bool.true_or,Bool.false_or,Bool.or_true];refine FW.walkD hmix (A:=A90) (ex:=ex90) (imp:=imp90) (l:=ord90) (fun a ha=>by unfold A90 at ha; simp at ha; rcases ha with rfl | rfl <;> decide) (by kernel_rfl) (by kernel_rfl) (by kernel_rfl) ?_;simp only[ord90];simp only[push_cast,seval,↓kw2,zCu,zCt,zBi,↓zBh,Bool.or_false,Bool.or_true,Bool.true_or,Bool.false_or,Bool.or_self,Nat.add_assoc,zBt,zEh,wat,clOf,Int.toNat_natCast,dl_get,dlO,A90,ex90,imp90,k1,k2,k3,m1,m2,m3,hx,hcc];refine⟨hbb,fun _=>by simp only[eq_true hbb],?_⟩;refine goW zBa [7] 0 ?_;simp only[push_cast,seval,↓kw2,k1,k2,k3,m1,m2,m3];refine AC.pur hf ?_;refine goW zBa [7] 0 ?_;simp only[push_cast,seval,↓kw2,d5,d6,hv1,hv2];exact⟨_,rfl,zAa rfl rfl⟩
 ·rw[if_neg h3];have h3':¬wchk j.w.p j.w.q j.w.r=0:=h3;refine goQ e208 zBa 0 ?_ (by simp[AV.purL,AV.pur,hpu,hpj]);simp only[push_cast,seval,↓kw2,k1,k2,k3,m1,m2,m3];refine AC.pur hp ?_;refine goW zBa [7] 0 ?_;simp only[push_cast,seval,↓kw2,k1,k2,k3,m1,m2,m3];refine AC.pur ha ?_;refine goW zBa [7] 0 ?_;simp only[push_cast,seval,↓kw2,k1,k2,k3,m1,m2,m3,h3];exact⟨_,rfl,zAa rfl rfl⟩
def chkL(x:Cfg):List Jb→Int
 | []=>0
 | j::l=>if j.chk x=0 then chkL x l else j.chk x
def risN(l:List Jb):Nat→Bool
 | 0=>true
 | i+1=>risN l i&&(decide (i=0)||decide ((l.getD (i - 1) default).id < (l.getD i default).id))
def oddT(l:List Jb)(j:Jb):Bool:=anyN (fun i=>!isJ l (j.after.getD i 0)) j.after.length 0
def tblE(x:Cfg)(l:List Jb):Int :=
 if x.chk=0 then (if 24 < (l.length:Int) then 4 else if chkL x l=0 then (if risN l l.length=true then (if l.any (oddT l)=true then 182 else 0) else 8) else chkL x l) else x.chk
theorem chkL_mem{x:Cfg}:∀ {l:List Jb},chkL x l=0→∀ j∈l,j.chk x=0
 | [],_=>by simp
 | y::l,h=>by
  unfold chkL at h
  split at h
  ·rename_i hy
   intro j hj
   rcases List.mem_cons.1 hj with rfl | hj
   ·exact hy
   ·exact chkL_mem h j hj
  ·rename_i hy; exact absurd h hy
theorem Jb.chk_facts{x:Cfg}{j:Jb}(h:j.chk x=0):j.plain x=true∧j.rises=true∧okW j.w.p j.w.q j.w.r∧j.fits x=true:=by
 unfold Jb.chk at h
 split at h
 ·split at h
  ·split at h
   ·split at h
    ·refine⟨by assumption,by assumption,?_,by assumption⟩;rename_i h3 _;unfold wchk at h3
     split at h3
     ·assumption
     ·cases h3
    ·cases h
   ·cases h
  ·cases h
 ·cases h
theorem Jb.rises_len{j:Jb}(h:j.rises=true):j.after.length≤4:=by
 unfold Jb.rises at h;simp only[Bool.and_eq_true,decide_eq_true_eq]at h;omega
theorem e209:Ent Tryz.prog 209 Tryz.f209 [] 2:=.mk Tryz.func209 rfl
attribute [push_cast] Tryz.f209
theorem table1_ac{s:AV}{l:List Jb}(hs:JobsS s l)(hl:l.length≤2^20){k:Int}{H:List AO}{q:Nat}(hq:H[q]?=some (.cells [s])){K:AV→List AO→Prop}(hK:K (B (!isJ l k)) H):AC Tryz.prog GG 209 [I k,.ptr q 0] H K:=by
 obtain⟨k1,k2,k3⟩:=hs.1.cell;refine goE e209 TOk.nil 0 ?_;simp only[push_cast,seval,↓kw2,hq,k1,k2,k3];refine AC.pur (has_j hs hl k) ?_;refine goN ?_;simp only[push_cast,seval,↓kw2];exact⟨_,rfl,hK⟩
theorem e160:Ent Tryz.prog 160 Tryz.f160 [] 2:=.mk Tryz.func160 rfl
attribute [push_cast] Tryz.f160
theorem table_pur(x:Cfg){s sl:AV}(hs:IsSl s (x.cls.map Cls.av)){l:List Jb}(hl:JobsS sl l):Pur Tryz.prog GG 160 [x.av s,sl] (I (tblE x l)):=by
 have hpu:=hs.pur (zAd Cls.av _ (fun _=>rfl));have hpl:=hl.pur;obtain⟨k1,k2,k3⟩:=hs.cell;obtain⟨n1,n2,n3⟩:=hl.1.cell;have hlen:=hl.1.len un53;rw[List.length_map]at hlen;have hc:=pchk_pur x hs;unfold tblE;show Pur Tryz.prog GG 160 [CF x.a x.b x.c x.boot x.free x.tries x.age s,sl] _
 by_cases h0:x.chk=0
 ·rw[if_pos h0];rw[h0]at hc;have hm:=Cfg.chk_may h0
  by_cases h24:24 < (l.length:Int)
  ·rw[if_pos h24];refine goQ e160 zBa 0 ?_ (by simp[AV.purL,AV.pur,hpu,hpl]);simp only[push_cast,seval,↓kw2,k1,k2,k3,n1,n2,n3];refine AC.pur hc ?_;refine goW zBa [] 0 ?_;simp only[push_cast,seval,↓kw2,k1,k2,k3,n1,n2,n3,hlen,h24];exact⟨_,rfl,zAa rfl rfl⟩
  ·rw[if_neg h24];have hll:l.length≤24:=by omega
   have hidx:=fun(i:Nat) (hi:i < l.length) (H:List AO)=>hl.1.idx (P:=Tryz.prog) un53 sz83 (i:=(i:Int)) (by rw[List.length_map]; omega) (by omega) H
   refine goQ e160 zBa 0 ?_ (by simp[AV.purL,AV.pur,hpu,hpl]);simp only[push_cast,seval,↓kw2,k1,k2,k3,n1,n2,n3];refine AC.pur hc ?_;refine goW zBa [] 0 ?_;simp only[push_cast,seval,↓kw2,k1,k2,k3,n1,n2,n3,hlen,h24];refine FW.loopInv (fun m ts H=>∃ i:Nat,i+m=l.length∧chkL x (l.drop i)=chkL x l∧H[0]?=some (.cells [I x.a,I x.b,I x.c,I x.boot,I x.free,I x.tries,I x.age,s])∧H[1]?=some (.cells [sl])∧ts 2=.ptr 0 0∧ts 3=.ptr 1 0∧ts 6=B (risN l i)∧ts 20=sl∧ts 21=I (l.length:Int)∧ts 22=I (i:Int)) l.length
    ⟨0,by omega,rfl,rfl,rfl,rfl,rfl,rfl,rfl,rfl,rfl⟩ ?_
   rintro m ih ts H ⟨i,hi,hch,m0,m1,t2,t3,t6,t20,t21,t22⟩
   refine FW.inLoop ?_
   by_cases hlt:i < l.length
   ·have hd1:decide ((i:Int) < (l.length:Int))=true:=by simp[hlt]
    have hx:=hidx i hlt;have hgy:=zAc Jb.av l default hlt;simp only[Int.toNat_natCast]at hx;rw[hgy]at hx;rw[zAn default hlt]at hch;have hg:=hl.get i;have hri:risN l (i+1)=(risN l i&&(decide (i=0)||decide ((l.getD (i - 1) default).id < (l.getD i default).id))):=rfl
    generalize hj:l.getD i default=j at hx hch hg hri
    have hcx:=Jb.cells j;obtain⟨m1',m2',m3'⟩:=IsSl.cell hg;have hk:=jchk_pur x hm hs hg;have hbb:(0≤(i:Int)∧(i:Int) < ((l.map Jb.av).length:Int)):=⟨by omega,by rw[List.length_map]; omega⟩;have mm0:∀ X,(H++X)[0]?=some (.cells [I x.a,I x.b,I x.c,I x.boot,I x.free,I x.tries,I x.age,s]):=fun X=>(List.getElem?_append_left (zAe m0)).trans m0
    have mm1:∀ X,(H++X)[1]?=some (.cells [sl]):=fun X=>(List.getElem?_append_left (zAe m1)).trans m1
    simp only[Cfg.av,Jb.av]at hk;refine goW zBa [] 0 ?_;simp only[push_cast,seval,↓kw2,t2,t3,t6,t20,t21,t22,hd1,hx,hcx,m1',m2',m3',mm0,mm1,zAf,getA,zAh,setA,zAb];refine⟨hbb,?_⟩;refine AC.pur hk ?_;have hchk:chkL x (j::l.drop (i+1))=if j.chk x=0 then chkL x (l.drop (i+1)) else j.chk x:=rfl
    rw[hchk]at hch;have hi1:=zAg (n:=(i:Int)+1) (by omega) (by omega)
    by_cases hj0:j.chk x=0
    ·rw[if_pos hj0]at hch;cases hr:risN l i
     ·rw[hr]at t6 hri;rw[Bool.false_and]at hri;refine goW zBa [] 0 ?_;simp only[push_cast,seval,↓kw2,t2,t3,t6,t20,t21,t22,m1',m2',m3',mm0,mm1,zAf,getA,zAh,setA,zAb,hj0];refine goW zBa [] 0 ?_;simp only[push_cast,seval,↓kw2,t2,t3,t6,t20,t21,t22,m1',m2',m3',mm0,mm1,zAf,getA,zAh,setA,zAb,hi1];exact ih (m - 1) (by omega) _ _ ⟨i+1,by omega,hch,mm0 _,mm1 _,t2,t3,by rw[hri]; rfl,t20,t21,rfl⟩
     ·rw[hr]at t6 hri;rw[Bool.true_and]at hri
      by_cases hi0:i=0
      ·rw[decide_eq_true hi0,Bool.true_or]at hri;have d0:decide ((i:Int)=0)=true:=decide_eq_true (by omega);refine goW zBa [] 0 ?_;simp only[push_cast,seval,↓kw2,t2,t3,t6,t20,t21,t22,m1',m2',m3',mm0,mm1,zAf,getA,zAh,setA,zAb,hj0,d0];refine goW zBa [] 0 ?_;simp only[push_cast,seval,↓kw2,t2,t3,t6,t20,t21,t22,m1',m2',m3',mm0,mm1,zAf,getA,zAh,setA,zAb,hi1];exact ih (m - 1) (by omega) _ _ ⟨i+1,by omega,hch,mm0 _,mm1 _,t2,t3,by rw[hri]; rfl,t20,t21,rfl⟩
      ·rw[decide_eq_false hi0,Bool.false_or]at hri;have d0:decide ((i:Int)=0)=false:=decide_eq_false (by omega);have hw1:=zAg (n:=(i:Int) - 1) (by omega) (by omega);have hx2:=hidx (i - 1) (by omega);have hgy2:=zAc Jb.av l default (by omega:i - 1 < l.length);rw[show((i - 1:Nat):Int)=(i:Int) - 1 by omega]at hx2;rw[show((i:Int) - 1).toNat=i - 1 by omega,hgy2]at hx2
       generalize hj2:l.getD (i - 1) default=j2 at hx2 hri
       have hcx2:=Jb.cells j2;have hbb2:(0≤(i:Int) - 1∧(i:Int) - 1 < ((l.map Jb.av).length:Int)):=⟨by omega,by rw[List.length_map]; omega⟩;refine goW zBa [] 0 ?_;simp only[push_cast,seval,↓kw2,t2,t3,t6,t20,t21,t22,m1',m2',m3',mm0,mm1,zAf,getA,zAh,setA,zAb,hj0,d0,hw1,hx2,hcx2];refine⟨hbb2,?_⟩;refine goW zBa [] 0 ?_;simp only[push_cast,seval,↓kw2,t2,t3,t6,t20,t21,t22,m1',m2',m3',mm0,mm1,zAf,getA,zAh,setA,zAb,hi1];exact ih (m - 1) (by omega) _ _ ⟨i+1,by omega,hch,mm0 _,mm1 _,t2,t3,by rw[hri]; rfl,t20,t21,rfl⟩
    ·rw[if_neg hj0]at hch;refine goW zBa [] 0 ?_;simp only[push_cast,seval,↓kw2,t2,t3,t6,t20,t21,t22,m1',m2',m3',mm0,mm1,zAf,getA,zAh,setA,zAb,hj0];exact⟨_,rfl,zAa rfl (by rw[← hch,if_neg hj0])⟩
   ·have hd1:decide ((i:Int) < (l.length:Int))=false:=by simp; omega
    rw[List.drop_eq_nil_of_le (by omega)]at hch;have hc0:chkL x l=0:=hch.symm;have hil:i=l.length:=by omega
    rw[hil]at t6;rw[if_pos hc0];cases hr:risN l l.length
    ·rw[hr]at t6;rw[if_neg (by decide)];refine goW zBa [] 0 ?_;simp only[push_cast,seval,↓kw2,t6,t21,t22,hd1];exact⟨_,rfl,zAa rfl rfl⟩
    ·rw[hr]at t6;rw[if_pos rfl];refine goW zBa [] 0 ?_;simp only[push_cast,seval,↓kw2,t3,t6,t21,t22,hd1,m1,hlen];clear ih hi hch t6 t20 t21 t22 hd1 hil hlt;refine FW.loopInv (fun m ts H=>∃ i:Nat,i+m=l.length∧(l.drop i).any (oddT l)=l.any (oddT l)∧H[1]?=some (.cells [sl])∧ts 3=.ptr 1 0∧ts 52=sl∧ts 53=I (l.length:Int)∧ts 54=I (i:Int)) l.length
      ⟨0,by omega,rfl,m1,t3,rfl,rfl,rfl⟩ ?_
     clear m0 m1 t2 t3
     rintro m ih ts H ⟨i,hi,han,m1,t3,t52,t53,t54⟩
     refine FW.inLoop ?_
     by_cases hlt:i < l.length
     ·have hd1:decide ((i:Int) < (l.length:Int))=true:=by simp[hlt]
      have hx:=hidx i hlt;have hgy:=zAc Jb.av l default hlt;simp only[Int.toNat_natCast]at hx;rw[hgy]at hx;rw[zAn default hlt,List.any_cons]at han;have hg:=hl.get i;have h4:=Jb.rises_len (Jb.chk_facts (chkL_mem hc0 (l.getD i default) (by simp[List.getD,hlt]))).2.1
      generalize l.getD i default=j at hx han hg h4
      have hcx:=Jb.cells j;obtain⟨m1',m2',m3'⟩:=IsSl.cell hg;have hbb:(0≤(i:Int)∧(i:Int) < ((l.map Jb.av).length:Int)):=⟨by omega,by rw[List.length_map]; omega⟩;have mm1:∀ X,(H++X)[1]?=some (.cells [sl]):=fun X=>(List.getElem?_append_left (zAe m1)).trans m1
      have hi1:=zAg (n:=(i:Int)+1) (by omega) (by omega);refine goW zBa [] 0 ?_;simp only[push_cast,seval,↓kw2,t3,t52,t53,t54,hd1,hx,hcx,m1',m2',m3',mm1,zAf,getA,zAh,setA,zAb];refine⟨hbb,?_⟩;refine hasI hg (by omega) (fun _ H'=>H'=H++[AO.cells [I j.id,I j.user,I j.cls,I j.w.p,I j.w.q,I j.w.r,B j.w.s,B j.w.t,B j.w.u,B j.w.v,I j.wall,I j.prio,B j.held,j.aft,.c (.int .u8 j.st),I j.came]]) (pr:=fun i=>!isJ l (j.after.getD i 0)) ?_ rfl ?_
      ·rintro i H K hi rfl hK
       exact table1_ac hl (by omega) (mm1 _) (hK _ rfl)
      rintro H' ⟨_,_,rfl⟩
      have hod:oddT l j=anyN (fun i=>!isJ l (j.after.getD i 0)) j.after.length 0:=rfl;rw[hod]at han;cases hA:anyN (fun i=>!isJ l (j.after.getD i 0)) j.after.length 0
      ·rw[hA,Bool.false_or]at han;refine goW zBa [] 0 ?_;simp only[push_cast,seval,↓kw2,t54];refine goW zBa [] 0 ?_;simp only[push_cast,seval,↓kw2,t54,hi1];exact ih (m - 1) (by omega) _ _ ⟨i+1,by omega,han,mm1 _,t3,t52,t53,rfl⟩
      ·rw[hA,Bool.true_or]at han;refine goW zBa [] 0 ?_;simp only[push_cast,seval,↓kw2];exact⟨_,rfl,zAa rfl (by rw[← han]; rfl)⟩
     ·have hd1:decide ((i:Int) < (l.length:Int))=false:=by simp; omega
      rw[List.drop_eq_nil_of_le (by omega)]at han;refine goW zBa [] 0 ?_;simp only[push_cast,seval,↓kw2,t53,t54,hd1];exact⟨_,rfl,zAa rfl (by rw[← han]; rfl)⟩
 ·rw[if_neg h0];refine goQ e160 zBa 0 ?_ (by simp[AV.purL,AV.pur,hpu,hpl]);simp only[push_cast,seval,↓kw2,k1,k2,k3,n1,n2,n3];refine AC.pur hc ?_;refine goW zBa [] 0 ?_;simp only[push_cast,seval,↓kw2,k1,k2,k3,n1,n2,n3,h0];exact⟨_,rfl,zAa rfl rfl⟩
end Go.Ab.Pd
