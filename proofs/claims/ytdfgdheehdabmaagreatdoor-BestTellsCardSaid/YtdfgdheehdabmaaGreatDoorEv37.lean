/- One of the texts that this claim stands on. -/
import Derived.Test.YtdfgdheehdabmaaGreatDoorEv35
import Derived.Test.YtdfgdheehdabmaaGreatDoorEv36
set_option maxHeartbeats 40000000
set_option maxRecDepth 400000
set_option linter.all false
namespace Go.Ab.Pd
open Go.Proofs
theorem e66:Ent Tryz.prog 66 Tryz.f66 [] 3:=.mk Tryz.func66 rfl
attribute [push_cast] Tryz.f66
theorem fsets_pur{n e1 e2:Int}{s1 s2:AV}(q1:IsSet s1)(q2:IsSet s2)(hn:0≤n∧n≤4096)(p1:Pur Tryz.prog GG 24 [I n,s1] (I e1))(p2:Pur Tryz.prog GG 24 [I (3*n),s2] (I e2)) :
  Pur Tryz.prog GG 66 [I n,s1,s2] (I (if e1=0∧e2=0 then 0 else 8)):=by
 have h1:=q1.pur;have h2:=q2.pur;have w3:=zAf (n:=3*n) (by omega) (by omega)
 by_cases k1:e1=0
 ·subst k1
  by_cases k2:e2=0
  ·subst k2;refine goQ e66 TOk.nil 0 ?_ (by simp[AV.purL,AV.pur,h1,h2]);simp(maxSteps:=2000000)only[push_cast,seval,↓kw2,w3];refine AC.pur p1 ?_;refine goN ?_;simp(maxSteps:=2000000)only[push_cast,seval,↓kw2,w3];refine AC.pur p2 ?_;refine goN ?_;simp(maxSteps:=2000000)only[push_cast,seval,↓kw2,w3];exact⟨_,rfl,zAa rfl rfl⟩
  ·skip
   refine goQ e66 TOk.nil 0 ?_ (by simp[AV.purL,AV.pur,h1,h2]);simp(maxSteps:=2000000)only[push_cast,seval,↓kw2,w3];refine AC.pur p1 ?_;refine goN ?_;simp(maxSteps:=2000000)only[push_cast,seval,↓kw2,w3];refine AC.pur p2 ?_;refine goN ?_;simp(maxSteps:=2000000)only[push_cast,seval,↓kw2,w3,k2];exact⟨_,rfl,zAa rfl (by simp[k2])⟩
 ·skip
  refine goQ e66 TOk.nil 0 ?_ (by simp[AV.purL,AV.pur,h1,h2]);simp(maxSteps:=2000000)only[push_cast,seval,↓kw2,w3];refine AC.pur p1 ?_;refine goN ?_;simp(maxSteps:=2000000)only[push_cast,seval,↓kw2,w3,k1];exact⟨_,rfl,zAa rfl (by simp[k1])⟩
theorem e67:Ent Tryz.prog 67 Tryz.f67 [] 6:=.mk Tryz.func67 rfl
attribute [push_cast] Tryz.f67
theorem both_ac{n e1 e2:Int}{g:Nat}{m l m' l' r1 r2:AV}(hn:0≤n∧n≤4096)(p1:Pur Tryz.prog GG g [I n,m,m'] (.tup [r1,I e1]))(p2:Pur Tryz.prog GG g [I (3*n),l,l'] (.tup [r2,I e2])){H:List AO}{K:AV→List AO→Prop}(hK:K (.tup [r1,r2]) H) :
  AC Tryz.prog GG 67 [I n,.fn g [] [],m,l,m',l'] H K:=by
 have w3:=zAf (n:=3*n) (by omega) (by omega);refine goE e67 TOk.nil 0 ?_;simp(maxSteps:=2000000)only[push_cast,seval,↓kw2];refine AC.pur p1 ?_;refine goN ?_;simp(maxSteps:=2000000)only[push_cast,seval,↓kw2,w3];refine AC.pur p2 ?_;refine goN ?_;simp(maxSteps:=2000000)only[push_cast,seval,↓kw2];exact⟨_,rfl,hK⟩
theorem e35:Ent Tryz.prog 35 Tryz.f35 [] 4:=.mk Tryz.func35 rfl
attribute [push_cast] Tryz.f35
def Pred(g:Nat)(caps:List AV)(pr:Plc→Bool)(l:List Plc)(s:AV)(H:List AO):Prop :=
 ∀(H':List AO) (x:Plc) (K:AV→List AO→Prop),x∈l→(∀ j,j < H.length→zAl s≠some j→H'[j]?=H[j]?)→K (B (pr x)) H'→AC Tryz.prog GG g (x.av::caps) H' K
def zFi{α:Type}(pr:α→Bool):List α→Nat→Int
 | [],_=>-1
 | x::l,i=>if pr x=true then (i:Int) else zFi pr l (i+1)
theorem firstI_cons{α:Type}(pr:α→Bool)(x:α)(l:List α)(i:Nat):zFi pr (x::l) i=if pr x=true then (i:Int) else zFi pr l (i+1):=rfl
theorem firstI_no{α:Type}{pr:α→Bool}:∀ {l:List α} {i:Nat},zFi pr l i=-1→∀ x∈l,pr x=false
 | [],_,_=>by simp
 | x::l,i,h=>by
  unfold zFi at h
  split at h
  ·omega
  ·rename_i hx
   intro y hy
   rcases List.mem_cons.1 hy with rfl | hy
   ·simpa using hx
   ·exact firstI_no h y hy
theorem firstI_yes{α:Type}[Inhabited α]{pr:α→Bool}:∀ {l:List α} {i:Nat},¬ zFi pr l i=-1→∃ k,k < l.length∧zFi pr l i=((i+k:Nat):Int)∧pr (l.getD k default)=true∧∀ x∈l.take k,pr x=false
 | [],_,h=>absurd rfl h
 | x::l,i,h=>by
  unfold zFi at h ⊢
  split
  ·rename_i hx;exact⟨0,by simp,by simp,by simpa using hx,by simp⟩
  ·rename_i hx;rw[if_neg hx]at h;obtain⟨k,h1,h2,h3,h4⟩:=firstI_yes h;refine⟨k+1,by simp; omega,by rw[h2]; congr 1; omega,by simpa using h3,fun y hy=>?_⟩;rw[List.take_succ_cons]at hy
   rcases List.mem_cons.1 hy with rfl | hy
   ·simpa using hx
   ·exact h4 y hy
theorem e59:Ent Tryz.prog 59 Tryz.f59 [] 2:=.mk Tryz.func59 rfl
attribute [push_cast] Tryz.f59
theorem indexP{g:Nat}{caps:List AV}{pr:Plc→Bool}{l:List Plc}{s:AV}{H:List AO}(hseg:SegP H s l)(hl:l.length≤2^20)(hp:Pred g caps pr l s H){K:AV→List AO→Prop}(hK:K (I (zFi pr l 0)) H) :
  AC Tryz.prog GG 59 [s,.fn g [] caps] H K:=by
 cases hseg with
 | nil =>
  refine goE e59 TOk.nil 0 ?_;simp(maxSteps:=2000000)only[push_cast,seval,↓kw2];refine FW.inLoop ?_;refine goN ?_;simp(maxSteps:=2000000)only[push_cast,seval,↓kw2];exact⟨_,rfl,hK⟩
 | row hid hn hr hc ht =>
  rename_i id n cap rs;refine goE e59 TOk.nil 0 ?_;simp(maxSteps:=2000000)only[push_cast,seval,↓kw2];refine FW.loopInv (fun m ts H'=>∃ i:Nat,i+m=l.length∧zFi pr (l.drop i) i=zFi pr l 0∧H'=H∧ts 0=.sl id 0 n cap∧ts 1=.fn g [] caps∧ts 7=I (n:Int)∧ts 8=I (i:Int)) l.length
   ⟨0,by omega,rfl,rfl,rfl,rfl,rfl,rfl⟩ ?_
  rintro m ih ts H' ⟨i,hi,hf,rfl,t0,t1,t7,t8⟩
  refine FW.inLoop ?_
  by_cases hlt:i < n
  ·have hd1:decide ((i:Int) < (n:Int))=true:=by simp[hlt]
   have hg:=SegP.get hn ht hlt;have hb:i < rs.length:=by omega
   rw[zBi default (by omega:i < l.length)]at hf;have hmem:l.getD i default∈l:=by simp[List.getD,(by omega:i < l.length)]
   generalize l.getD i default=x at hg hf hmem
   have hcl:=Plc.cells x;refine goN ?_;simp(maxSteps:=2000000)only[push_cast,seval,↓kw2,t0,t1,t7,t8,hid,hd1,hg,hb,hcl,Int.toNat_natCast]
   repeat (refine⟨by omega,?_⟩)
   refine hp _ x _ hmem (fun _ _ _=>rfl) ?_;rw[firstI_cons]at hf;cases hpx:pr x
   ·rw[hpx,if_neg (by decide)]at hf;refine goN ?_;simp(maxSteps:=2000000)only[push_cast,seval,↓kw2,t8];rw[zAf (n:=(i:Int)+1) (by omega) (by omega)];exact ih (m - 1) (by omega) _ _ ⟨i+1,by omega,hf,rfl,t0,t1,t7,rfl⟩
   ·rw[hpx,if_pos rfl]at hf;refine goN ?_;simp(maxSteps:=2000000)only[push_cast,seval,↓kw2,t8];exact⟨_,rfl,by rw[hf]; exact hK⟩
  ·have hd1:decide ((i:Int) < (n:Int))=false:=by simp; omega
   rw[List.drop_eq_nil_of_le (by omega)]at hf;refine goN ?_;simp(maxSteps:=2000000)only[push_cast,seval,↓kw2,t7,t8,hd1];exact⟨_,rfl,by rw[show(-1:Int)=zFi pr l 0 from hf]; exact hK⟩
def SameK(s s':AV):Prop:=(s=.c (.slice none 0 0)∧s'=.c (.slice none 0 0))∨∃ id n cap n' cap',s=.sl id 0 n cap∧s'=.sl id 0 n' cap'
theorem SegP.same{H:List AO}{s:AV}{l:List Plc}(h:SegP H s l):SameK s s:=by
 cases h with
 | nil=>exact .inl ⟨rfl,rfl⟩
 | row=>exact .inr ⟨_,_,_,_,_,rfl,rfl⟩
theorem e32:Ent Tryz.prog 32 Tryz.f32 [] 2:=.mk Tryz.func32 rfl
attribute [push_cast] Tryz.f32
theorem deleteP{g:Nat}{caps:List AV}{pr:Plc→Bool}{l:List Plc}{s:AV}{H:List AO}(hseg:SegP H s l)(hl:l.length≤2^20)(hp:Pred g caps pr l s H){K:AV→List AO→Prop}
  (hK:∀ H' s',SegP H' s' (l.filter fun x=>!pr x)→SameK s s'→(∀ j,j < H.length→zAl s≠some j→H'[j]?=H[j]?)→K s' H') :
  AC Tryz.prog GG 32 [s,.fn g [] caps] H K:=by
 by_cases hno:zFi pr l 0=-1
 ·have hall:=firstI_no hno;have hfl:(l.filter fun x=>!pr x)=l:=List.filter_eq_self.2 fun x hx=>by rw[hall x hx]; rfl
  rw[hfl]at hK;refine goE e32 TOk.nil 0 ?_;simp(maxSteps:=2000000)only[push_cast,seval,↓kw2];refine indexP hseg hl hp ?_;rw[hno];refine goN ?_;simp(maxSteps:=2000000)only[push_cast,seval,↓kw2];exact⟨_,rfl,hK _ _ hseg hseg.same fun _ _ _=>rfl⟩
 ·obtain⟨k,hk,hfi,hpk,hpre⟩:=firstI_yes hno;rw[Nat.zero_add]at hfi;have hseg0:=hseg;cases hseg with
  | nil=>simp at hk
  | row hid hn hr hc ht =>
   rename_i id n cap rs;have hk1:¬ (k:Int)=-1:=by omega
   have w1:=zAf (n:=(k:Int)+1) (by omega) (by omega);refine goE e32 TOk.nil 0 ?_;simp(maxSteps:=2000000)only[push_cast,seval,↓kw2];refine indexP hseg0 hl hp ?_;rw[hfi];refine goN ?_;simp(maxSteps:=2000000)only[push_cast,seval,↓kw2,hk1,w1];have hfk:(l.take (k+1)).filter (fun x=>!pr x)=l.take k:=by
    rw[zBn default hk,List.filter_append,List.filter_eq_self.2 fun x hx=>by rw[hpre x hx]; rfl];have:([l.getD k default].filter fun x=>!pr x)=[]:=by rw[List.filter_cons_of_neg (by rw[hpk]; decide),List.filter_nil]
    rw[this,List.append_nil]
   have htk0:rs.take k=(l.take k).map Plc.av:=by
    have h:=congrArg (List.take k) ht;rw[List.take_take,Nat.min_eq_left (by omega),← List.map_take]at h;exact h
   refine FW.loopInv (fun m ts H'=>∃(i j:Nat) (rs':List AV),j+m=l.length∧i < j∧H'[id]?=some (.arr 9 rs')∧rs'.length=rs.length∧i=((l.take j).filter fun x=>!pr x).length∧rs'.take i=((l.take j).filter fun x=>!pr x).map Plc.av ∧
    (∀ q,i≤q→q < n→∃ y:Plc,rs'.getD q .un=y.av)∧(∀ q,j≤q→q < n→rs'.getD q .un=(l.getD q default).av)∧(∀ q,q < H.length→q≠id→H'[q]?=H[q]?)∧H.length≤H'.length∧ts 0=.sl id 0 n cap∧ts 1=.fn g [] caps∧ts 5=I (i:Int)∧ts 6=I (j:Int)) (l.length - (k+1))
    ⟨k,k+1,rs,by omega,by omega,hid,rfl,by rw[hfk,List.length_take]; omega,by rw[hfk]; exact htk0,(fun q _ h2=>⟨_,SegP.get hn ht h2⟩),(fun q _ h2=>SegP.get hn ht h2),(fun _ _ _=>rfl),Nat.le_refl _,rfl,rfl,rfl,rfl⟩ ?_
   have hidl:=zAb hid
   rintro m ih ts H' ⟨i,j,rs',hj,hij,hr',hrl,hil,hit,hiy,hjy,hoth,hlen,t0,t1,t5,t6⟩
   refine FW.inLoop ?_
   by_cases hlt:j < n
   ·have hd1:decide ((j:Int) < (n:Int))=true:=by simp[hlt]
    have hg:=hjy j (Nat.le_refl _) hlt;obtain⟨y,hy⟩:=hiy i (Nat.le_refl _) (by omega);have hb:j < rs'.length:=by omega
    have hb2:i < rs'.length:=by omega
    have htk:=zBn default (by omega:j < l.length);have hmem:l.getD j default∈l:=by simp[List.getD,(by omega:j < l.length)]
    have w2:=zAf (n:=(j:Int)+1) (by omega) (by omega);have w3:=zAf (n:=(i:Int)+1) (by omega) (by omega)
    generalize hx:l.getD j default=x at hg hmem htk
    have hcl:=Plc.cells x;have hcy:=Plc.cells y;have hri:∀ X,(H'++X)[id]?=some (.arr 9 rs'):=fun X=>by rw[List.getElem?_append_left (by omega)]; exact hr'
    refine goN ?_;simp(maxSteps:=2000000)only[push_cast,seval,↓kw2,t0,t1,t5,t6,hr',hri,hd1,hg,hb,hcl,Int.toNat_natCast,zAw,zCf,Plc.av]
    repeat (refine⟨by omega,?_⟩)
    refine hp _ x _ hmem (fun q h1 h2=>by rw[List.getElem?_append_left (by omega)]; exact hoth q h1 (fun e=>h2 (by rw[e]; rfl))) ?_;cases hpx:pr x
    ·have hset:∀ X Y,((H'++X).set id Y)[id]?=some Y:=fun X Y=>List.getElem?_set_self (by simp; omega)
     refine goN ?_;simp(maxSteps:=2000000)only[push_cast,seval,↓kw2,t0,t1,t5,t6,hri,hy,hb2,hcy,w2,w3,Int.toNat_natCast,zAw,zCf,Plc.av]
     repeat (refine⟨by omega,?_⟩)
     have hft:(l.take (j+1)).filter (fun x=>!pr x)=(l.take j).filter (fun x=>!pr x)++[x]:=by rw[htk,List.filter_append]; simp[hpx]
     exact ih (m - 1) (by omega) _ _ ⟨i+1,j+1,rs'.set i x.av,by omega,by omega,hset _ _,by rw[List.length_set]; exact hrl,by rw[hft,List.length_append,List.length_singleton,← hil],(by
       rw[hft,List.map_append,← hit,List.take_add_one,List.getElem?_set_self hb2,List.take_set_of_le (Nat.le_refl _)];rfl),(fun q h1 h2=>by rw[List.getD_eq_getElem?_getD,List.getElem?_set_ne (by omega),← List.getD_eq_getElem?_getD]; exact hiy q (by omega) h2),
      (fun q h1 h2=>by rw[List.getD_eq_getElem?_getD,List.getElem?_set_ne (by omega),← List.getD_eq_getElem?_getD]; exact hjy q (by omega) h2),(fun q h1 h2=>by rw[List.getElem?_set_ne (fun e=>h2 e.symm),List.getElem?_append_left (by omega)]; exact hoth q h1 h2),by simp; omega,t0,t1,rfl,rfl⟩
    ·skip
     have hft:(l.take (j+1)).filter (fun x=>!pr x)=(l.take j).filter (fun x=>!pr x):=by rw[htk,List.filter_append]; simp[hpx]
     refine goN ?_;simp(maxSteps:=2000000)only[push_cast,seval,↓kw2,t5,t6,w2];exact ih (m - 1) (by omega) _ _ ⟨i,j+1,rs',by omega,by omega,hri _,hrl,by rw[hft]; exact hil,by rw[hft]; exact hit,hiy,(fun q h1 h2=>hjy q (by omega) h2),(fun q h1 h2=>by rw[List.getElem?_append_left (by omega)]; exact hoth q h1 h2),by simp; omega,t0,t1,t5,rfl⟩
   ·have hd1:decide ((j:Int) < (n:Int))=false:=by simp; omega
    have hjl:j=l.length:=by omega
    rw[hjl,List.take_length]at hil hit;have b4:i+(n - i)≤rs'.length:=by omega
    have b5:0 < cap - i:=by omega
    have hset:∀ X,(H'.set id X)[id]?=some X:=fun X=>List.getElem?_set_self (zAb hr')
    refine goN ?_;simp(maxSteps:=2000000)only[push_cast,seval,↓kw2,t0,t5,t6,hr',hd1,Int.toNat_natCast,zCy,zBk,aClear,b4,b5,hset]
    repeat (refine⟨by omega,?_⟩)
    refine⟨_,rfl,hK _ _ (SegP.row (n:=i) (cap:=cap) (hset _) hil ?_ (by omega) ?_) (.inr ⟨_,_,_,_,_,rfl,rfl⟩) fun q h1 h2=>?_⟩
    ·simp only[List.length_append,List.length_take,List.length_replicate,List.length_drop]; omega
    ·rw[List.take_append_of_le_length (by rw[List.length_take]; omega),List.take_take,Nat.min_self]; exact hit
    ·have hq:q≠id:=fun e=>h2 (by rw[e]; rfl)
     rw[List.getElem?_set_ne (fun e=>hq e.symm)]; exact hoth q h1 hq
theorem e34:Ent Tryz.prog 34 Tryz.f34 [] 4:=.mk Tryz.func34 rfl
attribute [push_cast] Tryz.f34
theorem all1_pur{a b c e:Int}{s1 s2:AV}{g:Bool}(h1:s1.pur=true)(h2:s2.pur=true)(k1:s1.isCell=true∧s1.isEl=true∧s1.cells=[s1])(k2:s2.isCell=true∧s2.isEl=true∧s2.cells=[s2])(x:Plc)(hp:Pur Tryz.prog GG 35 [.agg [I a,I b,I c],x.av,s1,s2] (.tup [B g,I e])) :
  Pur Tryz.prog GG 34 [x.av,.iptr [I a,I b,I c] 0,.iptr [s1] 0,.iptr [s2] 0] (B (!g)):=by
 obtain⟨k11,k12,k13⟩:=k1;obtain⟨k21,k22,k23⟩:=k2;simp only[Plc.av]at hp;show Pur Tryz.prog GG 34 [PL x.x x.y x.z x.p x.q x.r x.s x.t x.u,.iptr [I a,I b,I c] 0,.iptr [s1] 0,.iptr [s2] 0] _;refine goQ e34 TOk.nil 0 ?_ (by simp[AV.purL,AV.pur,h1,h2]);simp(maxSteps:=2000000)only[push_cast,seval,↓kw2,k11,k12,k13,k21,k22,k23];refine AC.pur hp ?_;refine goN ?_;simp(maxSteps:=2000000)only[push_cast,seval,↓kw2];exact⟨_,rfl,zAa rfl rfl⟩
def rsl(a b c:Int)(w:Wnt)(l:List Plc):AV:=if wholeL a b c w=[] then .c (.slice none 0 0) else .isl (l.map Plc.av)
theorem rsl_is{a b c:Int}{w:Wnt}(f:Plc→Bool):IsSl (rsl a b c w ((wholeL a b c w).filter f)) (((wholeL a b c w).filter f).map Plc.av):=by
 unfold rsl
 split
 ·rename_i h;rw[h]; exact .inr ⟨rfl,rfl⟩
 ·exact .inl rfl
theorem e14:Ent Tryz.prog 14 Tryz.f14 [] 4:=.mk Tryz.func14 rfl
attribute [push_cast] Tryz.f14
theorem spotsA_bad{a b c:Int}(w:Wnt){s1 s2:AV}(q1:IsSet s1)(q2:IsSet s2)(h:¬zEs a b c w.p w.q w.r=0):Pur Tryz.prog GG 14 [.agg [I a,I b,I c],w.av,s1,s2] (.tup [.c (.slice none 0 0),I (zEs a b c w.p w.q w.r)]):=by
 have h1:=q1.pur;have h2:=q2.pur;obtain⟨k11,k12,k13⟩:=q1.cell;obtain⟨k21,k22,k23⟩:=q2.cell;show Pur Tryz.prog GG 14 [.agg [I a,I b,I c],WT w.p w.q w.r w.s w.t w.u w.v,s1,s2] _;refine goQ e14 zFp 0 ?_ (by simp[AV.purL,AV.pur,h1,h2]);simp(maxSteps:=2000000)only[push_cast,seval,↓kw2,k11,k12,k13,k21,k22,k23,h];exact⟨_,rfl,zAa rfl rfl⟩
theorem dwchk_ok{a b c p q r:Int}:zEs a b c p q r=0 ↔ okD a b c∧okW p q r:=by
 unfold zEs wchk
 split
 ·split <;> simp_all
 ·simp_all
theorem spotsA_sets{a b c:Int}(w:Wnt){s1 s2:AV}(q1:IsSet s1)(q2:IsSet s2)(h:zEs a b c w.p w.q w.r=0){e1 e2:Int}(p1:Pur Tryz.prog GG 24 [I (zAg a b c),s1] (I e1))(p2:Pur Tryz.prog GG 24 [I (3*zAg a b c),s2] (I e2))(he:¬(e1=0∧e2=0)) :
  Pur Tryz.prog GG 14 [.agg [I a,I b,I c],w.av,s1,s2] (.tup [.c (.slice none 0 0),I 8]):=by
 have h1:=q1.pur;have h2:=q2.pur;obtain⟨k11,k12,k13⟩:=q1.cell;obtain⟨k21,k22,k23⟩:=q2.cell;have hd:=(dwchk_ok.1 h).1;have hmu:=zAy hd;have hmv:zAg a b c=a*b*c:=by rw[zAg,if_pos hd]
 have w3:=zAf (n:=3*zAg a b c) (by omega) (by omega);show Pur Tryz.prog GG 14 [.agg [I a,I b,I c],WT w.p w.q w.r w.s w.t w.u w.v,s1,s2] _
 by_cases z1:e1=0
 ·have z2:¬e2=0:=fun z2=>he ⟨z1,z2⟩
  subst z1;refine goQ e14 zFp 0 ?_ (by simp[AV.purL,AV.pur,h1,h2]);simp(maxSteps:=2000000)only[push_cast,seval,↓kw2,k11,k12,k13,k21,k22,k23,h];refine AC.pur p1 ?_;refine goW zFp [] 0 ?_;simp(maxSteps:=2000000)only[push_cast,seval,↓kw2,w3,k11,k12,k13,k21,k22,k23];refine AC.pur p2 ?_;refine goW zFp [] 0 ?_;simp(maxSteps:=2000000)only[push_cast,seval,↓kw2,z2];exact⟨_,rfl,zAa rfl rfl⟩
 ·skip
  refine goQ e14 zFp 0 ?_ (by simp[AV.purL,AV.pur,h1,h2]);simp(maxSteps:=2000000)only[push_cast,seval,↓kw2,k11,k12,k13,k21,k22,k23,h];refine AC.pur p1 ?_;refine goW zFp [] 0 ?_;simp(maxSteps:=2000000)only[push_cast,seval,↓kw2,z1];exact⟨_,rfl,zAa rfl rfl⟩
theorem fm_le{a b c:Int}(hd:okD a b c):∀ l:List Wnt,(l.flatMap (plL a b c)).length≤l.length*4096
 | []=>by simp
 | x::l=>by
  have h1:=plL_le hd x;have h2:=fm_le hd l;rw[List.flatMap_cons,List.length_append,List.length_cons,Nat.succ_mul]; omega
theorem whole_le{a b c:Int}(hd:okD a b c)(w:Wnt):(wholeL a b c w).length≤24576:=by
 have h1:=fm_le hd w.turns;have h2:=w.turns_len;have h3:=compL_le default ((rawL a b c w).mergeSort fun x y=>decide (Plc.cmp a b c x y≤0)) ((rawL a b c w).mergeSort fun x y=>decide (Plc.cmp a b c x y≤0)).length;have h4:wholeL a b c w=zDb default ((rawL a b c w).mergeSort fun x y=>decide (Plc.cmp a b c x y≤0)) ((rawL a b c w).mergeSort fun x y=>decide (Plc.cmp a b c x y≤0)).length:=rfl;rw[h4];refine Nat.le_trans h3 ?_;rw[List.length_mergeSort];unfold rawL;omega
theorem spotsA_ok{a b c:Int}(w:Wnt){s1 s2:AV}(q1:IsSet s1)(q2:IsSet s2)(h:zEs a b c w.p w.q w.r=0)(p1:Pur Tryz.prog GG 24 [I (zAg a b c),s1] (I 0))(p2:Pur Tryz.prog GG 24 [I (3*zAg a b c),s2] (I 0))
  {hold:Plc→Bool} (hh:∀ x,x.ok a b c→Pur Tryz.prog GG 35 [.agg [I a,I b,I c],x.av,s1,s2] (.tup [B (hold x),I 0])) :
  Pur Tryz.prog GG 14 [.agg [I a,I b,I c],w.av,s1,s2] (.tup [rsl a b c w ((wholeL a b c w).filter hold),I 0]):=by
 have h1:=q1.pur;have h2:=q2.pur;have k1:=q1.cell;have k2:=q2.cell;obtain⟨k11,k12,k13⟩:=k1;obtain⟨k21,k22,k23⟩:=k2;obtain⟨hd,hw⟩:=dwchk_ok.1 h;have hmu:=zAy hd;have hmv:zAg a b c=a*b*c:=by rw[zAg,if_pos hd]
 have w3:=zAf (n:=3*zAg a b c) (by omega) (by omega);show Pur Tryz.prog GG 14 [.agg [I a,I b,I c],WT w.p w.q w.r w.s w.t w.u w.v,s1,s2] _;refine goQ e14 zFp 0 ?_ (by simp[AV.purL,AV.pur,h1,h2]);simp(maxSteps:=2000000)only[push_cast,seval,↓kw2,k11,k12,k13,k21,k22,k23,h];refine AC.pur p1 ?_;refine goW zFp [] 0 ?_;simp(maxSteps:=2000000)only[push_cast,seval,↓kw2,w3,k11,k12,k13,k21,k22,k23];refine AC.pur p2 ?_;refine goW zFp [] 0 ?_;simp(maxSteps:=2000000)only[push_cast,seval,↓kw2];refine whole_ac hd w hw ?_
 intro H1 s hseg hnil hoth hs
 have g0:H1[0]?=some (.cells [I a,I b,I c]):=hoth 0 (by simp);have g2:H1[2]?=some (.cells [s1]):=hoth 2 (by simp);have g3:H1[3]?=some (.cells [s2]):=hoth 3 (by simp);have hl4:∀ j,j < 4→j < H1.length∧zAl s≠some j:=fun j hj=>⟨by
  have:=zAb g3; omega,fun e=>by have:=hs j e; simp at this; omega⟩
 refine goW zFp [] 0 ?_;simp(maxSteps:=2000000)only[push_cast,seval,↓kw2];refine deleteP (pr:=fun x=>!(hold x)) hseg (by have:=whole_le hd w; omega) ?_ ?_
 ·intro H' x K hx hfr hK
  have okx:=raw_ok (whole_mem.1 hx);have f0:=(hfr 0 (hl4 0 (by omega)).1 (hl4 0 (by omega)).2).trans g0;have f2:=(hfr 2 (hl4 2 (by omega)).1 (hl4 2 (by omega)).2).trans g2;have f3:=(hfr 3 (hl4 3 (by omega)).1 (hl4 3 (by omega)).2).trans g3;refine AC.view ggp (n:=3) (args':=[x.av,.iptr [I a,I b,I c] 0,.iptr [s1] 0,.iptr [s2] 0]) ?_ ?_ rfl (all1_pur h1 h2 q1.cell q2.cell x (hh x okx)) hK
  ·simp[mapO,frz,Plc.pur,AV.pur,f0,f2,f3,h1,h2]
  ·simp[AV.purL,AV.pur,Plc.pur,h1,h2]
 ·intro H2 s' hseg' hsame _
  have hff:((wholeL a b c w).filter fun x=>!(!(hold x)))=(wholeL a b c w).filter hold:=by simp
  rw[hff]at hseg';refine goW zFp [] 0 ?_;simp(maxSteps:=2000000)only[push_cast,seval,↓kw2];refine⟨_,rfl,?_⟩
  rcases hsame with ⟨hs0,rfl⟩ | ⟨id,n,cap,n',cap',rfl,rfl⟩
  ·subst hs0;have hw0:wholeL a b c w=[]:=by
    generalize wholeL a b c w=L at hseg
    cases hseg; rfl
   unfold rsl;rw[if_pos hw0];exact zAa rfl rfl
  ·have hw0:¬ wholeL a b c w=[]:=fun e=>by have:=hnil e; cases this
   unfold rsl;rw[if_neg hw0];cases hseg' with
   | row hid hn hr hc ht =>
    have:=seg_done2 (cap:=cap') (v:=I 0) hid hr (by rw[ht]; exact zAe Plc.av _ (fun _=>rfl)) rfl;rw[ht]at this;exact this
def isT(t:Wnt)(x:Plc):Prop:=(t.p=x.p∧t.q=x.q∧t.r=x.r)∧(torV t.s t.p=x.s∧torV t.t t.q=x.t∧torV t.u t.r=x.u)
instance (t:Wnt) (x:Plc):Decidable (isT t x):=by unfold isT; infer_instance
theorem of_at{a b c x y z:Int}(hd:okD a b c)(hp:okP a b c x y z):ofX a b c (atV a b c x y z)=x∧ofY a b c (atV a b c x y z)=y∧ofZ a b c (atV a b c x y z)=z:=by
 obtain⟨_,r1,r2⟩:=zFl hd hp;have hin:inM a b c (atV a b c x y z):=⟨hd,r1,r2⟩;rw[ofX,if_pos hin,ofY,if_pos hin,ofZ,if_pos hin];rw[atV,if_pos ⟨hd,hp⟩];unfold okP at hp;unfold okD at hd;have e1:x+a*y+a*b*z=x+a*(y+b*z):=by rw[Int.mul_add,← Int.mul_assoc]; omega
 have e2:(x+a*(y+b*z)) / a=y+b*z:=by rw[Int.add_mul_ediv_left _ _ (by omega),Int.ediv_eq_zero_of_lt hp.1.1 hp.1.2]; omega
 have e3:(x+a*(y+b*z)) % a=x:=by rw[Int.add_mul_emod_self_left]; exact Int.emod_eq_of_lt hp.1.1 hp.1.2
 have e4:(y+b*z) % b=y:=by rw[Int.add_mul_emod_self_left]; exact Int.emod_eq_of_lt hp.2.1.1 hp.2.1.2
 have e5:(x+a*(y+b*z)) / (a*b)=z:=by
  rw[← Int.ediv_ediv_of_nonneg (by omega),e2,Int.add_mul_ediv_left _ _ (by omega),Int.ediv_eq_zero_of_lt hp.2.1.1 hp.2.1.2]; omega
 have e6:z % c=z:=Int.emod_eq_of_lt hp.2.2.1 hp.2.2.2;rw[e1,e2,e3,e4,e5,e6];exact⟨rfl,rfl,rfl⟩
theorem zFd{α:Type}{f:Int→List α}{x:α}:∀ {n:Nat} {k i:Int},k≤i→i < k+n→x∈f i→x∈upto f k n
 | 0,k,i,h1,h2,_=>by omega
 | n+1,k,i,h1,h2,h=>by
  rw[zCq,List.mem_append]
  by_cases e:k=i
  ·subst e; exact .inl h
  ·exact .inr (zFd (by omega) (by omega) h)
theorem plL_mem{a b c:Int}(hd:okD a b c){t:Wnt}{x:Plc}:x∈plL a b c t ↔ x.ok a b c∧isT t x:=by
 constructor
 ·intro h
  refine⟨plL_ok h,?_⟩;obtain⟨m,_,_,hm⟩:=zDi h;unfold plAt at hm
  split at hm
  ·rw[List.mem_singleton]at hm;rw[hm];exact⟨⟨rfl,rfl,rfl⟩,rfl,rfl,rfl⟩
  ·simp at hm
 ·rintro⟨hk,⟨h1,h2,h3⟩,h4,h5,h6⟩
  have hb:=hk.2.1;unfold okB ok1 at hb;have hp:okP a b c x.x x.y x.z:=by unfold okP; omega
  obtain⟨o1,o2,o3⟩:=of_at hd hp;obtain⟨_,r1,r2⟩:=zFl hd hp;have hx:plOf a b c t (atV a b c x.x x.y x.z)=x:=by
   obtain⟨x1,x2,x3,x4,x5,x6,x7,x8,x9⟩:=x;simp only[plOf]at *;simp only[o1,o2,o3,h1,h2,h3,h4,h5,h6];rw[← h1,← h2,← h3,h4,h5,h6]
  refine zFd (i:=atV a b c x.x x.y x.z) r1 (by omega) ?_;unfold plAt;rw[hx,if_pos hk];simp
theorem wholeL_mem{a b c:Int}(hd:okD a b c){w:Wnt}{x:Plc}:x∈wholeL a b c w ↔ x.ok a b c∧(w.turns.any fun t=>decide (isT t x))=true:=by
 rw[whole_mem,rawL,List.mem_flatMap,List.any_eq_true]
 constructor
 ·rintro⟨t,ht,hx⟩
  obtain⟨h1,h2⟩:=(plL_mem hd).1 hx;exact⟨h1,t,ht,decide_eq_true h2⟩
 ·rintro⟨h1,t,ht,h2⟩
  exact⟨t,ht,(plL_mem hd).2 ⟨h1,of_decide_eq_true h2⟩⟩
end Go.Ab.Pd
