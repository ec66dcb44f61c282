/- A text of this claim. -/
import Derived.Test.YtplmblgihfogjaaGreatDoorEv33
set_option maxHeartbeats 40000000
set_option maxRecDepth 400000
set_option linter.all false
namespace Go.Ab.Pd
open Go.Proofs
open Go.Proofs.Tryz renaming prog->zP
theorem setsN_pur(a b c x y z p q r:Int)(s t u:Bool)(h:¬pchk a b c x y z p q r s t u=0):Pur zP GG 28 [.agg [I a,I b,I c],PL x y z p q r s t u] (.tup [.c (.slice none 0 0),.c (.slice none 0 0),I (pchk a b c x y z p q r s t u)]):=by
 refine goQ e28 T21_ok 0 ?_;simp only[push_cast,seval,↓kw2,h];exact⟨_,rfl,zAa rfl rfl⟩
theorem e181:Ent zP 181 Tryz.f181 [] 3:=.mk Tryz.func181 rfl
theorem fsets_pur{n e1 e2:Int}{s1 s2:AV}(q1:IsSet s1)(q2:IsSet s2)(hn:0<=n/\n<=4096)(p1:Pur zP GG 107 [I n,s1] (I e1))(p2:Pur zP GG 107 [I (3*n),s2] (I e2)) :
  Pur zP GG 181 [I n,s1,s2] (I (if e1=0/\e2=0 then 0 else 8)):=by
 have h1:=q1.pur;have h2:=q2.pur;have w3:=zAl (n:=3*n) (by omega) (by omega)
 by_cases k1:e1=0
 ·subst k1
  by_cases k2:e2=0
  ·subst k2;refine goQ e181 TOk.nil 0 ?_ (by simp[AV.purL,AV.pur,h1,h2]);simp only[push_cast,seval,↓kw2,w3];refine AC.pur p1 ?_;refine goN ?_;simp only[push_cast,seval,↓kw2,w3];refine AC.pur p2 ?_;refine goN ?_;simp only[push_cast,seval,↓kw2,w3];exact⟨_,rfl,zAa rfl rfl⟩
  ·skip
   refine goQ e181 TOk.nil 0 ?_ (by simp[AV.purL,AV.pur,h1,h2]);simp only[push_cast,seval,↓kw2,w3];refine AC.pur p1 ?_;refine goN ?_;simp only[push_cast,seval,↓kw2,w3];refine AC.pur p2 ?_;refine goN ?_;simp only[push_cast,seval,↓kw2,w3,k2];exact⟨_,rfl,zAa rfl (by simp[k2])⟩
 ·skip
  refine goQ e181 TOk.nil 0 ?_ (by simp[AV.purL,AV.pur,h1,h2]);simp only[push_cast,seval,↓kw2,w3];refine AC.pur p1 ?_;refine goN ?_;simp only[push_cast,seval,↓kw2,w3,k1];exact⟨_,rfl,zAa rfl (by simp[k1])⟩
theorem e182:Ent zP 182 Tryz.f182 [] 6:=.mk Tryz.func182 rfl
theorem both_ac{n e1 e2:Int}{g:Nat}{m l m' l' r1 r2:AV}(hn:0<=n/\n<=4096)(p1:Pur zP GG g [I n,m,m'] (.tup [r1,I e1]))(p2:Pur zP GG g [I (3*n),l,l'] (.tup [r2,I e2])){H:List AO}{K:AV->List AO->Prop}(hK:K (.tup [r1,r2]) H) :
  AC zP GG 182 [I n,.fn g [] [],m,l,m',l'] H K:=by
 have w3:=zAl (n:=3*n) (by omega) (by omega);refine goE e182 TOk.nil 0 ?_;simp only[push_cast,seval,↓kw2];refine AC.pur p1 ?_;refine goN ?_;simp only[push_cast,seval,↓kw2,w3];refine AC.pur p2 ?_;refine goN ?_;simp only[push_cast,seval,↓kw2];exact⟨_,rfl,hK⟩
theorem e111:Ent zP 111 Tryz.f111 [] 4:=.mk Tryz.func111 rfl
def Pred(g:Nat)(caps:List AV)(pr:Plc->Bool)(l:List Plc)(s:AV)(H:List AO):Prop :=
 ∀(H':List AO) (x:Plc) (K:AV->List AO->Prop),x∈l->(∀ j,j < H.length->zAw s≠some j->H'[j]?=H[j]?)->K (B (pr x)) H'->AC zP GG g (x.av::caps) H' K
def zEd{α:Type}(pr:α->Bool):List α->Nat->Int
 | [],_=>-1
 | x::l,i=>if pr x=true then (i:Int) else zEd pr l (i+1)
theorem firstI_cons{α:Type}(pr:α->Bool)(x:α)(l:List α)(i:Nat):zEd pr (x::l) i=if pr x=true then (i:Int) else zEd pr l (i+1):=rfl
theorem firstI_no{α:Type}{pr:α->Bool}:∀ {l:List α} {i:Nat},zEd pr l i=-1->∀ x∈l,pr x=false
 | [],_,_=>by simp
 | x::l,i,h=>by
  unfold zEd at h
  split at h
  ·omega
  ·rename_i hx
   intro y hy
   rcases List.mem_cons.1 hy with rfl | hy
   ·simpa using hx
   ·exact firstI_no h y hy
theorem firstI_yes{α:Type}[Inhabited α]{pr:α->Bool}:∀ {l:List α} {i:Nat},¬ zEd pr l i=-1->∃ k,k < l.length/\zEd pr l i=((i+k:Nat):Int)/\pr (l.getD k default)=true/\∀ x∈l.take k,pr x=false
 | [],_,h=>absurd rfl h
 | x::l,i,h=>by
  unfold zEd at h ⊢
  split
  ·rename_i hx;exact⟨0,by simp,by simp,by simpa using hx,by simp⟩
  ·rename_i hx;rw[if_neg hx]at h;obtain⟨k,h1,h2,h3,h4⟩:=firstI_yes h;refine⟨k+1,by simp; omega,by rw[h2]; congr 1; omega,by simpa using h3,fun y hy=>?_⟩;rw[List.take_succ_cons]at hy
   rcases List.mem_cons.1 hy with rfl | hy
   ·simpa using hx
   ·exact h4 y hy
theorem e175:Ent zP 175 Tryz.f175 [] 2:=.mk Tryz.func175 rfl
theorem indexP{g:Nat}{caps:List AV}{pr:Plc->Bool}{l:List Plc}{s:AV}{H:List AO}(hseg:SegP H s l)(hl:l.length<=2^20)(hp:Pred g caps pr l s H){K:AV->List AO->Prop}(hK:K (I (zEd pr l 0)) H) :
  AC zP GG 175 [s,.fn g [] caps] H K:=by
 cases hseg with
 | nil =>
  refine goE e175 TOk.nil 0 ?_;simp only[push_cast,seval,↓kw2];refine FW.inLoop ?_;refine goN ?_;simp only[push_cast,seval,↓kw2];exact⟨_,rfl,hK⟩
 | row hid hn hr hc ht =>
  rename_i id n cap rs;refine goE e175 TOk.nil 0 ?_;simp only[push_cast,seval,↓kw2];refine FW.loopInv (fun m ts H'=>∃ i:Nat,i+m=l.length/\zEd pr (l.drop i) i=zEd pr l 0/\H'=H/\ts 0=.sl id 0 n cap/\ts 1=.fn g [] caps/\ts 7=I (n:Int)/\ts 8=I (i:Int)) l.length
   ⟨0,by omega,rfl,rfl,rfl,rfl,rfl,rfl⟩ ?_
  rintro m ih ts H' ⟨i,hi,hf,rfl,t0,t1,t7,t8⟩
  refine FW.inLoop ?_
  by_cases hlt:i < n
  ·have hd1:decide ((i:Int) < (n:Int))=true:=by simp[hlt]
   have hg:=SegP.get hn ht hlt;have hb:i < rs.length:=by omega
   rw[zBa default (by omega:i < l.length)]at hf;have hmem:l.getD i default∈l:=by simp[List.getD,(by omega:i < l.length)]
   generalize l.getD i default=x at hg hf hmem
   have hcl:=Plc.cells x;refine goN ?_;simp only[push_cast,seval,↓kw2,t0,t1,t7,t8,hid,hd1,hg,hb,hcl,Int.toNat_natCast]
   repeat (refine⟨by omega,?_⟩)
   refine hp _ x _ hmem (fun _ _ _=>rfl) ?_;rw[firstI_cons]at hf;cases hpx:pr x
   ·rw[hpx,if_neg (by decide)]at hf;refine goN ?_;simp only[push_cast,seval,↓kw2,t8];rw[zAl (n:=(i:Int)+1) (by omega) (by omega)];exact ih (m - 1) (by omega) _ _ ⟨i+1,by omega,hf,rfl,t0,t1,t7,rfl⟩
   ·rw[hpx,if_pos rfl]at hf;refine goN ?_;simp only[push_cast,seval,↓kw2,t8];exact⟨_,rfl,by rw[hf]; exact hK⟩
  ·have hd1:decide ((i:Int) < (n:Int))=false:=by simp; omega
   rw[List.drop_eq_nil_of_le (by omega)]at hf;refine goN ?_;simp only[push_cast,seval,↓kw2,t7,t8,hd1];exact⟨_,rfl,by rw[show(-1:Int)=zEd pr l 0 from hf]; exact hK⟩
def SameK(s s':AV):Prop:=(s=.c (.slice none 0 0)/\s'=.c (.slice none 0 0))\/∃ id n cap n' cap',s=.sl id 0 n cap/\s'=.sl id 0 n' cap'
theorem SegP.same{H:List AO}{s:AV}{l:List Plc}(h:SegP H s l):SameK s s:=by
 cases h with
 | nil=>exact .inl ⟨rfl,rfl⟩
 | row=>exact .inr ⟨_,_,_,_,_,rfl,rfl⟩
theorem e108:Ent zP 108 Tryz.f108 [] 2:=.mk Tryz.func108 rfl
theorem deleteP{g:Nat}{caps:List AV}{pr:Plc->Bool}{l:List Plc}{s:AV}{H:List AO}(hseg:SegP H s l)(hl:l.length<=2^20)(hp:Pred g caps pr l s H){K:AV->List AO->Prop}
  (hK:∀ H' s',SegP H' s' (l.filter fun x=>!pr x)->SameK s s'->(∀ j,j < H.length->zAw s≠some j->H'[j]?=H[j]?)->K s' H') :
  AC zP GG 108 [s,.fn g [] caps] H K:=by
 by_cases hno:zEd pr l 0=-1
 ·have hall:=firstI_no hno;have hfl:(l.filter fun x=>!pr x)=l:=List.filter_eq_self.2 fun x hx=>by rw[hall x hx]; rfl
  rw[hfl]at hK;refine goE e108 TOk.nil 0 ?_;simp only[push_cast,seval,↓kw2];refine indexP hseg hl hp ?_;rw[hno];refine goN ?_;simp only[push_cast,seval,↓kw2];exact⟨_,rfl,hK _ _ hseg hseg.same fun _ _ _=>rfl⟩
 ·obtain⟨k,hk,hfi,hpk,hpre⟩:=firstI_yes hno;rw[Nat.zero_add]at hfi;have hseg0:=hseg;cases hseg with
  | nil=>simp at hk
  | row hid hn hr hc ht =>
   rename_i id n cap rs;have hk1:¬ (k:Int)=-1:=by omega
   have w1:=zAl (n:=(k:Int)+1) (by omega) (by omega);refine goE e108 TOk.nil 0 ?_;simp only[push_cast,seval,↓kw2];refine indexP hseg0 hl hp ?_;rw[hfi];refine goN ?_;simp only[push_cast,seval,↓kw2,hk1,w1];have hfk:(l.take (k+1)).filter (fun x=>!pr x)=l.take k:=by
    rw[zCf default hk,List.filter_append,List.filter_eq_self.2 fun x hx=>by rw[hpre x hx]; rfl];have:([l.getD k default].filter fun x=>!pr x)=[]:=by rw[List.filter_cons_of_neg (by rw[hpk]; decide),List.filter_nil]
    rw[this,List.append_nil]
   have htk0:rs.take k=(l.take k).map Plc.av:=by
    have h:=congrArg (List.take k) ht;rw[List.take_take,Nat.min_eq_left (by omega),<- List.map_take]at h;exact h
   refine FW.loopInv (fun m ts H'=>∃(i j:Nat) (rs':List AV),j+m=l.length/\i < j/\H'[id]?=some (.arr 9 rs')/\rs'.length=rs.length/\i=((l.take j).filter fun x=>!pr x).length/\rs'.take i=((l.take j).filter fun x=>!pr x).map Plc.av /\
    (∀ q,i<=q->q < n->∃ y:Plc,rs'.getD q .un=y.av)/\(∀ q,j<=q->q < n->rs'.getD q .un=(l.getD q default).av)/\(∀ q,q < H.length->q≠id->H'[q]?=H[q]?)/\H.length<=H'.length/\ts 0=.sl id 0 n cap/\ts 1=.fn g [] caps/\ts 5=I (i:Int)/\ts 6=I (j:Int)) (l.length - (k+1))
    ⟨k,k+1,rs,by omega,by omega,hid,rfl,by rw[hfk,List.length_take]; omega,by rw[hfk]; exact htk0,(fun q _ h2=>⟨_,SegP.get hn ht h2⟩),(fun q _ h2=>SegP.get hn ht h2),(fun _ _ _=>rfl),Nat.le_refl _,rfl,rfl,rfl,rfl⟩ ?_
   have hidl:=zAc hid
   rintro m ih ts H' ⟨i,j,rs',hj,hij,hr',hrl,hil,hit,hiy,hjy,hoth,hlen,t0,t1,t5,t6⟩
   refine FW.inLoop ?_
   by_cases hlt:j < n
   ·have hd1:decide ((j:Int) < (n:Int))=true:=by simp[hlt]
    have hg:=hjy j (Nat.le_refl _) hlt;obtain⟨y,hy⟩:=hiy i (Nat.le_refl _) (by omega);have hb:j < rs'.length:=by omega
    have hb2:i < rs'.length:=by omega
    have htk:=zCf default (by omega:j < l.length);have hmem:l.getD j default∈l:=by simp[List.getD,(by omega:j < l.length)]
    have w2:=zAl (n:=(j:Int)+1) (by omega) (by omega);have w3:=zAl (n:=(i:Int)+1) (by omega) (by omega)
    generalize hx:l.getD j default=x at hg hmem htk
    have hcl:=Plc.cells x;have hcy:=Plc.cells y;have hri:∀ X,(H'++X)[id]?=some (.arr 9 rs'):=fun X=>by rw[zL (by omega)]; exact hr'
    refine goN ?_;simp only[push_cast,seval,↓kw2,t0,t1,t5,t6,hr',hri,hd1,hg,hb,hcl,Int.toNat_natCast,zAd,zAe,Plc.av]
    repeat (refine⟨by omega,?_⟩)
    refine hp _ x _ hmem (fun q h1 h2=>by rw[zL (by omega)]; exact hoth q h1 (fun e=>h2 (by rw[e]; rfl))) ?_;cases hpx:pr x
    ·have hset:∀ X Y,((H'++X).set id Y)[id]?=some Y:=fun X Y=>zS (by simp; omega)
     refine goN ?_;simp only[push_cast,seval,↓kw2,t0,t1,t5,t6,hri,hy,hb2,hcy,w2,w3,Int.toNat_natCast,zAd,zAe,Plc.av]
     repeat (refine⟨by omega,?_⟩)
     have hft:(l.take (j+1)).filter (fun x=>!pr x)=(l.take j).filter (fun x=>!pr x)++[x]:=by rw[htk,List.filter_append]; simp[hpx]
     exact ih (m - 1) (by omega) _ _ ⟨i+1,j+1,rs'.set i x.av,by omega,by omega,hset _ _,by rw[List.length_set]; exact hrl,by rw[hft,List.length_append,List.length_singleton,<- hil],(by
       rw[hft,List.map_append,<- hit,List.take_add_one,zS hb2,List.take_set_of_le (Nat.le_refl _)];rfl),(fun q h1 h2=>by rw[List.getD_eq_getElem?_getD,zQ (by omega),<- List.getD_eq_getElem?_getD]; exact hiy q (by omega) h2),
      (fun q h1 h2=>by rw[List.getD_eq_getElem?_getD,zQ (by omega),<- List.getD_eq_getElem?_getD]; exact hjy q (by omega) h2),(fun q h1 h2=>by rw[zQ (fun e=>h2 e.symm),zL (by omega)]; exact hoth q h1 h2),by simp; omega,t0,t1,rfl,rfl⟩
    ·skip
     have hft:(l.take (j+1)).filter (fun x=>!pr x)=(l.take j).filter (fun x=>!pr x):=by rw[htk,List.filter_append]; simp[hpx]
     refine goN ?_;simp only[push_cast,seval,↓kw2,t5,t6,w2];exact ih (m - 1) (by omega) _ _ ⟨i,j+1,rs',by omega,by omega,hri _,hrl,by rw[hft]; exact hil,by rw[hft]; exact hit,hiy,(fun q h1 h2=>hjy q (by omega) h2),(fun q h1 h2=>by rw[zL (by omega)]; exact hoth q h1 h2),by simp; omega,t0,t1,t5,rfl⟩
   ·have hd1:decide ((j:Int) < (n:Int))=false:=by simp; omega
    have hjl:j=l.length:=by omega
    rw[hjl,List.take_length]at hil hit;have b4:i+(n - i)<=rs'.length:=by omega
    have b5:0 < cap - i:=by omega
    have hset:∀ X,(H'.set id X)[id]?=some X:=fun X=>zS (zAc hr')
    refine goN ?_;simp only[push_cast,seval,↓kw2,t0,t5,t6,hr',hd1,Int.toNat_natCast,zCm,zBi,aClear,b4,b5,hset]
    repeat (refine⟨by omega,?_⟩)
    refine⟨_,rfl,hK _ _ (SegP.row (n:=i) (cap:=cap) (hset _) hil ?_ (by omega) ?_) (.inr ⟨_,_,_,_,_,rfl,rfl⟩) fun q h1 h2=>?_⟩
    ·simp only[List.length_append,List.length_take,List.length_replicate,List.length_drop]; omega
    ·rw[List.take_append_of_le_length (by rw[List.length_take]; omega),List.take_take,Nat.min_self]; exact hit
    ·have hq:q≠id:=fun e=>h2 (by rw[e]; rfl)
     rw[zQ (fun e=>hq e.symm)]; exact hoth q h1 hq
theorem e110:Ent zP 110 Tryz.f110 [] 4:=.mk Tryz.func110 rfl
theorem all1_pur{a b c e:Int}{s1 s2:AV}{g:Bool}(h1:s1.pur=true)(h2:s2.pur=true)(k1:s1.isCell=true/\s1.isEl=true/\s1.cells=[s1])(k2:s2.isCell=true/\s2.isEl=true/\s2.cells=[s2])(x:Plc)(hp:Pur zP GG 111 [.agg [I a,I b,I c],x.av,s1,s2] (.tup [B g,I e])) :
  Pur zP GG 110 [x.av,.iptr [I a,I b,I c] 0,.iptr [s1] 0,.iptr [s2] 0] (B (!g)):=by
 obtain⟨k11,k12,k13⟩:=k1;obtain⟨k21,k22,k23⟩:=k2;simp only[Plc.av]at hp;show Pur zP GG 110 [PL x.x x.y x.z x.p x.q x.r x.s x.t x.u,.iptr [I a,I b,I c] 0,.iptr [s1] 0,.iptr [s2] 0] _;refine goQ e110 TOk.nil 0 ?_ (by simp[AV.purL,AV.pur,h1,h2]);simp only[push_cast,seval,↓kw2,k11,k12,k13,k21,k22,k23];refine AC.pur hp ?_;refine goN ?_;simp only[push_cast,seval,↓kw2];exact⟨_,rfl,zAa rfl rfl⟩
def rsl(a b c:Int)(w:Wnt)(l:List Plc):AV:=if wholeL a b c w=[] then .c (.slice none 0 0) else .isl (l.map Plc.av)
theorem rsl_is{a b c:Int}{w:Wnt}(f:Plc->Bool):IsSl (rsl a b c w ((wholeL a b c w).filter f)) (((wholeL a b c w).filter f).map Plc.av):=by
 unfold rsl
 split
 ·rename_i h;rw[h]; exact .inr ⟨rfl,rfl⟩
 ·exact .inl rfl
theorem e59:Ent zP 59 Tryz.f59 [] 4:=.mk Tryz.func59 rfl
theorem dwchk_ok{a b c p q r:Int}:dwchk a b c p q r=0 ↔ okD a b c/\okW p q r:=by
 unfold dwchk wchk
 split
 ·split <;> simp_all
 ·simp_all
theorem fm_le{a b c:Int}(hd:okD a b c):∀ l:List Wnt,(l.flatMap (plL a b c)).length<=l.length*4096
 | []=>by simp
 | x::l=>by
  have h1:=plL_le hd x;have h2:=fm_le hd l;rw[List.flatMap_cons,List.length_append,List.length_cons,Nat.succ_mul]; omega
theorem whole_le{a b c:Int}(hd:okD a b c)(w:Wnt):(wholeL a b c w).length<=24576:=by
 have h1:=fm_le hd w.turns;have h2:=w.turns_len;have h3:=compL_le default ((rawL a b c w).mergeSort fun x y=>decide (Plc.cmp a b c x y<=0)) ((rawL a b c w).mergeSort fun x y=>decide (Plc.cmp a b c x y<=0)).length;have h4:wholeL a b c w=zCz default ((rawL a b c w).mergeSort fun x y=>decide (Plc.cmp a b c x y<=0)) ((rawL a b c w).mergeSort fun x y=>decide (Plc.cmp a b c x y<=0)).length:=rfl;rw[h4];refine Nat.le_trans h3 ?_;rw[List.length_mergeSort];unfold rawL;omega
theorem spotsA_ok{a b c:Int}(w:Wnt){s1 s2:AV}(q1:IsSet s1)(q2:IsSet s2)(h:dwchk a b c w.p w.q w.r=0)(p1:Pur zP GG 107 [I (zAf a b c),s1] (I 0))(p2:Pur zP GG 107 [I (3*zAf a b c),s2] (I 0))
  {hold:Plc->Bool} (hh:∀ x,x.ok a b c->Pur zP GG 111 [.agg [I a,I b,I c],x.av,s1,s2] (.tup [B (hold x),I 0])) :
  Pur zP GG 59 [.agg [I a,I b,I c],w.av,s1,s2] (.tup [rsl a b c w ((wholeL a b c w).filter hold),I 0]):=by
 have h1:=q1.pur;have h2:=q2.pur;have k1:=q1.cell;have k2:=q2.cell;obtain⟨k11,k12,k13⟩:=k1;obtain⟨k21,k22,k23⟩:=k2;obtain⟨hd,hw⟩:=dwchk_ok.1 h;have hmu:=zBx hd;have hmv:zAf a b c=a*b*c:=by rw[zAf,if_pos hd]
 have w3:=zAl (n:=3*zAf a b c) (by omega) (by omega);show Pur zP GG 59 [.agg [I a,I b,I c],WT w.p w.q w.r w.s w.t w.u w.v,s1,s2] _;refine goQ e59 S3_ok 0 ?_ (by simp[AV.purL,AV.pur,h1,h2]);simp only[push_cast,seval,↓kw2,k11,k12,k13,k21,k22,k23,h];refine AC.pur p1 ?_;refine goW S3_ok [] 0 ?_;simp only[push_cast,seval,↓kw2,w3,k11,k12,k13,k21,k22,k23];refine AC.pur p2 ?_;refine goW S3_ok [] 0 ?_;simp only[push_cast,seval,↓kw2];refine whole_ac hd w hw ?_
 intro H1 s hseg hnil hoth hs
 have g0:H1[0]?=some (.cells [I a,I b,I c]):=hoth 0 (by simp);have g2:H1[2]?=some (.cells [s1]):=hoth 2 (by simp);have g3:H1[3]?=some (.cells [s2]):=hoth 3 (by simp);have hl4:∀ j,j < 4->j < H1.length/\zAw s≠some j:=fun j hj=>⟨by
  have:=zAc g3; omega,fun e=>by have:=hs j e; simp at this; omega⟩
 refine goW S3_ok [] 0 ?_;simp only[push_cast,seval,↓kw2];refine deleteP (pr:=fun x=>!(hold x)) hseg (by have:=whole_le hd w; omega) ?_ ?_
 ·intro H' x K hx hfr hK
  have okx:=raw_ok (whole_mem.1 hx);have f0:=(hfr 0 (hl4 0 (by omega)).1 (hl4 0 (by omega)).2).trans g0;have f2:=(hfr 2 (hl4 2 (by omega)).1 (hl4 2 (by omega)).2).trans g2;have f3:=(hfr 3 (hl4 3 (by omega)).1 (hl4 3 (by omega)).2).trans g3;refine AC.view ggp (n:=3) (args':=[x.av,.iptr [I a,I b,I c] 0,.iptr [s1] 0,.iptr [s2] 0]) ?_ ?_ rfl (all1_pur h1 h2 q1.cell q2.cell x (hh x okx)) hK
  ·simp[mapO,frz,Plc.pur,AV.pur,f0,f2,f3,h1,h2]
  ·simp[AV.purL,AV.pur,Plc.pur,h1,h2]
 ·intro H2 s' hseg' hsame _
  have hff:((wholeL a b c w).filter fun x=>!(!(hold x)))=(wholeL a b c w).filter hold:=by simp
  rw[hff]at hseg';refine goW S3_ok [] 0 ?_;simp only[push_cast,seval,↓kw2];refine⟨_,rfl,?_⟩
  rcases hsame with ⟨hs0,rfl⟩ | ⟨id,n,cap,n',cap',rfl,rfl⟩
  ·subst hs0;have hw0:wholeL a b c w=[]:=by
    generalize wholeL a b c w=L at hseg
    cases hseg; rfl
   unfold rsl;rw[if_pos hw0];exact zAa rfl rfl
  ·have hw0:¬ wholeL a b c w=[]:=fun e=>by have:=hnil e; cases this
   unfold rsl;rw[if_neg hw0];cases hseg' with
   | row hid hn hr hc ht =>
    have:=seg_done2 (cap:=cap') (v:=I 0) hid hr (by rw[ht]; exact zAi Plc.av _ (fun _=>rfl)) rfl;rw[ht]at this;exact this
theorem eq3i0(p q r p' q' r':Int):aEqS zP 22 (.agg [I p,I q,I r]) (.agg [I p',I q',I r'])=some (p==p'&&(q==q'&&(r==r'&&true))):=by kernel_rfl
theorem eq3i(p q r p' q' r':Int):aEqS zP 22 (.agg [I p,I q,I r]) (.agg [I p',I q',I r'])=some (decide (p=p'/\q=q'/\r=r')):=by
 rw[eq3i0,Option.some.injEq,Bool.eq_iff_iff,decide_eq_true_iff];simp
theorem eq3b0(p q r p' q' r':Bool):aEqS zP 35 (.agg [B p,B q,B r]) (.agg [B p',B q',B r'])=some (p==p'&&(q==q'&&(r==r'&&true))):=by kernel_rfl
theorem eq3b(p q r p' q' r':Bool):aEqS zP 35 (.agg [B p,B q,B r]) (.agg [B p',B q',B r'])=some (decide (p=p'/\q=q'/\r=r')):=by
 rw[eq3b0,Option.some.injEq,Bool.eq_iff_iff,decide_eq_true_iff];simp
def isT(t:Wnt)(x:Plc):Prop:=(t.p=x.p/\t.q=x.q/\t.r=x.r)/\(torV t.s t.p=x.s/\torV t.t t.q=x.t/\torV t.u t.r=x.u)
instance (t:Wnt) (x:Plc):Decidable (isT t x):=by unfold isT; infer_instance
theorem e96:Ent zP 96 Tryz.f96 [] 2:=.mk Tryz.func96 rfl
theorem is1_pur(t:Wnt)(x:Plc):Pur zP GG 96 [t.av,.iptr [I x.x,I x.y,I x.z,I x.p,I x.q,I x.r,B x.s,B x.t,B x.u] 0] (B (decide (isT t x))):=by
 show Pur zP GG 96 [WT t.p t.q t.r t.s t.t t.u t.v,.iptr [I x.x,I x.y,I x.z,I x.p,I x.q,I x.r,B x.s,B x.t,B x.u] 0] _
 by_cases h:t.p=x.p/\t.q=x.q/\t.r=x.r
 ·have hd:=eq3i t.p t.q t.r x.p x.q x.r;rw[zT h]at hd;refine goQ e96 S4_ok 0 ?_;simp only[push_cast,seval,↓kw2,hd,zAn,eq3b];exact⟨_,rfl,zAa rfl (by congr 2; unfold isT; simp[h])⟩
 ·have hd:=eq3i t.p t.q t.r x.p x.q x.r;rw[zF h]at hd;refine goQ e96 S4_ok 0 ?_;simp only[push_cast,seval,↓kw2,hd,zAn,eq3b];exact⟨_,rfl,zAa rfl (by
   have:¬ isT t x:=fun hh=>h hh.1
   rw[zF this])⟩
theorem e167:Ent zP 167 Tryz.f167 [] 2:=.mk Tryz.func167 rfl
theorem indexW{g:Nat}{caps:List AV}{pr:Wnt->Bool}{l:List Wnt}{H:List AO}(hl:l.length<=2^20)(hp:∀(x:Wnt) (K:AV->List AO->Prop),x∈l->K (B (pr x)) H->AC zP GG g (x.av::caps) H K){K:AV->List AO->Prop}(hK:K (I (zEd pr l 0)) H) :
  AC zP GG 167 [.isl (l.map Wnt.av),.fn g [] caps] H K:=by
 refine goE e167 TOk.nil 0 ?_;simp only[push_cast,seval,↓kw2];refine FW.loopInv (fun m ts H'=>∃ i:Nat,i+m=l.length/\zEd pr (l.drop i) i=zEd pr l 0/\H'=H/\ts 0=.isl (l.map Wnt.av)/\ts 1=.fn g [] caps/\ts 7=I (l.map Wnt.av).length/\ts 8=I (i:Int)) l.length
  ⟨0,by omega,rfl,rfl,rfl,rfl,rfl,rfl⟩ ?_
 rintro m ih ts H' ⟨i,hi,hf,rfl,t0,t1,t7,t8⟩
 rw[zM]at t7;refine FW.inLoop ?_
 by_cases hlt:i < l.length
 ·have hd1:decide ((i:Int) < (l.length:Int))=true:=by simp[hlt]
  have hg:=zAj Wnt.av l default hlt;rw[zBa default hlt]at hf;have hmem:l.getD i default∈l:=by simp[List.getD,hlt]
  generalize l.getD i default=x at hg hf hmem
  have hcl:=Wnt.cells x;refine goN ?_;simp only[push_cast,seval,↓kw2,t0,t1,t7,t8,hd1,hg,hcl,zM,Int.toNat_natCast]
  repeat (refine⟨by omega,?_⟩)
  refine hp x _ hmem ?_;rw[firstI_cons]at hf;cases hpx:pr x
  ·rw[hpx,if_neg (by decide)]at hf;refine goN ?_;simp only[push_cast,seval,↓kw2,t8];rw[zAl (n:=(i:Int)+1) (by omega) (by omega)];exact ih (m - 1) (by omega) _ _ ⟨i+1,by omega,hf,rfl,t0,t1,by rw[zM]; exact t7,rfl⟩
  ·rw[hpx,if_pos rfl]at hf;refine goN ?_;simp only[push_cast,seval,↓kw2,t8];exact⟨_,rfl,by rw[hf]; exact hK⟩
 ·have hd1:decide ((i:Int) < (l.length:Int))=false:=by simp; omega
  rw[List.drop_eq_nil_of_le (by omega)]at hf;refine goN ?_;simp only[push_cast,seval,↓kw2,t7,t8,hd1];exact⟨_,rfl,by rw[show(-1:Int)=zEd pr l 0 from hf]; exact hK⟩
theorem firstI_any{α:Type}[Inhabited α](pr:α->Bool)(l:List α):decide (0<=zEd pr l 0)=l.any pr:=by
 by_cases h:zEd pr l 0=-1
 ·have h1:=firstI_no h;rw[h];have:l.any pr=false:=List.any_eq_false.2 fun x hx=>by rw[h1 x hx]; decide
  rw[this]; rfl
 ·obtain⟨k,h1,h2,h3,_⟩:=firstI_yes h;have:l.any pr=true:=List.any_eq_true.2 ⟨l.getD k default,by simp[List.getD,h1],h3⟩;rw[this,h2];exact zT (by omega)
theorem e95:Ent zP 95 Tryz.f95 [] 2:=.mk Tryz.func95 rfl
theorem containsW{g:Nat}{caps:List AV}{pr:Wnt->Bool}{l:List Wnt}{H:List AO}(hl:l.length<=2^20)(hp:∀(x:Wnt) (K:AV->List AO->Prop),x∈l->K (B (pr x)) H->AC zP GG g (x.av::caps) H K){K:AV->List AO->Prop}(hK:K (B (l.any pr)) H) :
  AC zP GG 95 [.isl (l.map Wnt.av),.fn g [] caps] H K:=by
 rw[<- firstI_any]at hK;refine goE e95 TOk.nil 0 ?_;simp only[push_cast,seval,↓kw2];refine indexW hl hp ?_;refine goN ?_;simp only[push_cast,seval,↓kw2];exact⟨_,rfl,hK⟩
theorem e51:Ent zP 51 Tryz.f51 [] 3:=.mk Tryz.func51 rfl
def isE(a b c:Int)(w:Wnt)(x:Plc):Int:=if dwchk a b c w.p w.q w.r=0 then pchk a b c x.x x.y x.z x.p x.q x.r x.s x.t x.u else dwchk a b c w.p w.q w.r
def isV(a b c:Int)(w:Wnt)(x:Plc):Bool:=if isE a b c w x=0 then w.turns.any fun t=>decide (isT t x) else false
theorem spotsIs_pur(a b c:Int)(w:Wnt)(x:Plc):Pur zP GG 51 [.agg [I a,I b,I c],w.av,x.av] (.tup [B (isV a b c w x),I (isE a b c w x)]):=by
 show Pur zP GG 51 [.agg [I a,I b,I c],WT w.p w.q w.r w.s w.t w.u w.v,PL x.x x.y x.z x.p x.q x.r x.s x.t x.u] _;unfold isV
 by_cases h:dwchk a b c w.p w.q w.r=0
 ·have he:isE a b c w x=pchk a b c x.x x.y x.z x.p x.q x.r x.s x.t x.u:=by rw[isE,if_pos h]
  rw[he];have hw:=(dwchk_ok.1 h).2
  by_cases h2:pchk a b c x.x x.y x.z x.p x.q x.r x.s x.t x.u=0
  ·rw[if_pos h2,h2];refine goQ e51 S4_ok 0 ?_;simp only[push_cast,seval,↓kw2,h,h2];refine AC.pur (turnsA_pur w hw) ?_;refine goW S4_ok [] 0 ?_;simp only[push_cast,seval,↓kw2];refine containsW (pr:=fun t=>decide (isT t x)) (by have:=w.turns_len; omega) ?_ ?_
   ·intro t K ht hK
    refine AC.view ggp (n:=3) (args':=[t.av,.iptr [I x.x,I x.y,I x.z,I x.p,I x.q,I x.r,B x.s,B x.t,B x.u] 0]) ?_ ?_ rfl (is1_pur t x) hK
    ·simp[mapO,frz,Wnt.pur,AV.pur]
    ·simp[AV.purL,AV.pur,Wnt.pur]
   ·skip
    refine goW S4_ok [] 0 ?_;simp only[push_cast,seval,↓kw2];exact⟨_,rfl,zAa rfl rfl⟩
  ·rw[if_neg h2];refine goQ e51 S4_ok 0 ?_;simp only[push_cast,seval,↓kw2,h,h2];exact⟨_,rfl,zAa rfl rfl⟩
 ·have he:isE a b c w x=dwchk a b c w.p w.q w.r:=by rw[isE,if_neg h]
  rw[he,if_neg h];refine goQ e51 S4_ok 0 ?_;simp only[push_cast,seval,↓kw2,h];exact⟨_,rfl,zAa rfl rfl⟩
theorem of_at{a b c x y z:Int}(hd:okD a b c)(hp:okP a b c x y z):ofX a b c (atV a b c x y z)=x/\ofY a b c (atV a b c x y z)=y/\ofZ a b c (atV a b c x y z)=z:=by
 obtain⟨_,r1,r2⟩:=at_range hd hp;have hin:inM a b c (atV a b c x y z):=⟨hd,r1,r2⟩;rw[ofX,if_pos hin,ofY,if_pos hin,ofZ,if_pos hin];rw[atV,if_pos ⟨hd,hp⟩];unfold okP at hp;unfold okD at hd;have e1:x+a*y+a*b*z=x+a*(y+b*z):=by rw[Int.mul_add,<- Int.mul_assoc]; omega
 have e2:(x+a*(y+b*z)) / a=y+b*z:=by rw[Int.add_mul_ediv_left _ _ (by omega),Int.ediv_eq_zero_of_lt hp.1.1 hp.1.2]; omega
 have e3:(x+a*(y+b*z)) % a=x:=by rw[Int.add_mul_emod_self_left]; exact Int.emod_eq_of_lt hp.1.1 hp.1.2
 have e4:(y+b*z) % b=y:=by rw[Int.add_mul_emod_self_left]; exact Int.emod_eq_of_lt hp.2.1.1 hp.2.1.2
 have e5:(x+a*(y+b*z)) / (a*b)=z:=by
  rw[<- Int.ediv_ediv_of_nonneg (by omega),e2,Int.add_mul_ediv_left _ _ (by omega),Int.ediv_eq_zero_of_lt hp.2.1.1 hp.2.1.2]; omega
 have e6:z % c=z:=Int.emod_eq_of_lt hp.2.2.1 hp.2.2.2;rw[e1,e2,e3,e4,e5,e6];exact⟨rfl,rfl,rfl⟩
theorem upto_mem{α:Type}{f:Int->List α}{x:α}:∀ {n:Nat} {k i:Int},k<=i->i < k+n->x∈f i->x∈upto f k n
 | 0,k,i,h1,h2,_=>by omega
 | n+1,k,i,h1,h2,h=>by
  rw[zDk,List.mem_append]
  by_cases e:k=i
  ·subst e; exact .inl h
  ·exact .inr (upto_mem (by omega) (by omega) h)
theorem plL_mem{a b c:Int}(hd:okD a b c){t:Wnt}{x:Plc}:x∈plL a b c t ↔ x.ok a b c/\isT t x:=by
 constructor
 ·intro h
  refine⟨plL_ok h,?_⟩;obtain⟨m,_,_,hm⟩:=mem_upto h;unfold plAt at hm
  split at hm
  ·rw[List.mem_singleton]at hm;rw[hm];exact⟨⟨rfl,rfl,rfl⟩,rfl,rfl,rfl⟩
  ·simp at hm
 ·rintro⟨hk,⟨h1,h2,h3⟩,h4,h5,h6⟩
  have hb:=hk.2.1;unfold okB ok1 at hb;have hp:okP a b c x.x x.y x.z:=by unfold okP; omega
  obtain⟨o1,o2,o3⟩:=of_at hd hp;obtain⟨_,r1,r2⟩:=at_range hd hp;have hx:plOf a b c t (atV a b c x.x x.y x.z)=x:=by
   obtain⟨x1,x2,x3,x4,x5,x6,x7,x8,x9⟩:=x;simp only[plOf]at *;simp only[o1,o2,o3,h1,h2,h3,h4,h5,h6];rw[<- h1,<- h2,<- h3,h4,h5,h6]
  refine upto_mem (i:=atV a b c x.x x.y x.z) r1 (by omega) ?_;unfold plAt;rw[hx,if_pos hk];simp
theorem wholeL_mem{a b c:Int}(hd:okD a b c){w:Wnt}{x:Plc}:x∈wholeL a b c w ↔ x.ok a b c/\(w.turns.any fun t=>decide (isT t x))=true:=by
 rw[whole_mem,rawL,List.mem_flatMap,List.any_eq_true]
 constructor
 ·rintro⟨t,ht,hx⟩
  obtain⟨h1,h2⟩:=(plL_mem hd).1 hx;exact⟨h1,t,ht,zT h2⟩
 ·rintro⟨h1,t,ht,h2⟩
  exact⟨t,ht,(plL_mem hd).2 ⟨h1,of_decide_eq_true h2⟩⟩
def witV(n a b:Int):Bool:=decide (a<=n/\n<=b)
theorem witV_t{n a b:Int}:witV n a b=true ↔ a<=n/\n<=b:=decide_eq_true_iff
theorem e123:Ent zP 123 Tryz.f123 [] 3:=.mk Tryz.func123 rfl
theorem within_pur(n a b:Int):Pur zP GG 123 [I n,I a,I b] (B (witV n a b)):=by
 refine goQ e123 S4_ok 0 ?_;simp(maxSteps:=2000000)only[push_cast,seval,↓kw2];unfold witV
 repeat' (first | apply And.intro | intro _)
 all_goals
  refine⟨_,rfl,zAa rfl ?_⟩;simp only[AV.c.injEq,Value.bool.injEq]
  first
   | exact decide_eq_decide.2 (by omega)
   | exact(zF (by omega)).symm
   | exact(zT (by omega)).symm
   | (simp at *; omega)
@[push_cast] def g123:List AV->Option (Prop × AV)
 | [(.c (.int .i64 n)),(.c (.int .i64 a)),(.c (.int .i64 b))]=>some (True,B (witV n a b))
 | _=>none
theorem g123_ok:∀ args p,g123 args=some p->p.1->Pur zP GG 123 args p.2:=by
 intro args p hp hc
 unfold g123 at hp
 split at hp
 ·cases hp;exact within_pur _ _ _
 ·cases hp
@[push_cast] def V1:Tab:=Tab.ext S4 123 g123
theorem V1_ok:TOk zP GG V1:=TOk.ext S4_ok g123_ok
structure Cls where
 a:Int
 b:Int
 c:Int
 d:Int
 deriving DecidableEq
abbrev CL(a b c d:Int):AV:=.agg [I a,I b,I c,I d]
def Cls.av(x:Cls):AV:=CL x.a x.b x.c x.d
instance:Inhabited Cls:=⟨⟨0,0,0,0⟩⟩
theorem Cls.cells(x:Cls):x.av.cells=[I x.a,I x.b,I x.c,I x.d]:=rfl
def Cls.odd(x:Cls):Bool:=!(witV x.a (-1000) 1000&&witV x.b 1 1048576&&witV x.c 1 4096&&witV x.d 1 24)
theorem e122:Ent zP 122 Tryz.f122 [] 1:=.mk Tryz.func122 rfl
theorem clsOdd_pur(a b c d:Int):Pur zP GG 122 [CL a b c d] (B (Cls.odd ⟨a,b,c,d⟩)):=by
 refine goQ e122 V1_ok 0 ?_;simp(maxSteps:=2000000)only[push_cast,seval,↓kw2,zDz,gsK_var];unfold Cls.odd
 repeat' (first | apply And.intro | intro _)
 all_goals
  refine⟨_,rfl,zAa rfl ?_⟩;simp[*]
@[push_cast] def g122:List AV->Option (Prop × AV)
 | [.agg [(.c (.int .i64 a)),(.c (.int .i64 b)),(.c (.int .i64 c)),(.c (.int .i64 d))]]=>some (True,B (Cls.odd ⟨a,b,c,d⟩))
 | _=>none
theorem g122_ok:∀ args p,g122 args=some p->p.1->Pur zP GG 122 args p.2:=by
 intro args p hp hc
 unfold g122 at hp
 split at hp
 ·cases hp;exact clsOdd_pur _ _ _ _
 ·cases hp
@[push_cast] def V2:Tab:=Tab.ext V1 122 g122
theorem zBp:TOk zP GG V2:=TOk.ext V1_ok g122_ok
def zBz(pr:Nat->Bool):Nat->Nat->Int
 | 0,_=>-1
 | n+1,i=>if pr i=true then (i:Int) else zBz pr n (i+1)
theorem zCv(pr:Nat->Bool)(n i:Nat):zBz pr (n+1) i=if pr i=true then (i:Int) else zBz pr n (i+1):=rfl
def anyN(pr:Nat->Bool):Nat->Nat->Bool
 | 0,_=>false
 | n+1,i=>pr i||anyN pr n (i+1)
theorem zDw(pr:Nat->Bool):∀ n i:Nat,decide (0<=zBz pr n i)=anyN pr n i
 | 0,i=>rfl
 | n+1,i=>by
  rw[zCv,anyN];cases h:pr i
  ·rw[if_neg (by decide),zDw pr n (i+1),Bool.false_or]
  ·rw[if_pos rfl,Bool.true_or]; exact zT (by omega)
theorem anyN_iff{pr:Nat->Bool}:∀ {n i:Nat},anyN pr n i=true ↔ ∃ j,i<=j/\j < i+n/\pr j=true
 | 0,i=>by simp[anyN]; omega
 | n+1,i=>by
  rw[anyN,Bool.or_eq_true,anyN_iff]
  constructor
  ·rintro(h | ⟨j,h1,h2,h3⟩)
   ·exact⟨i,by omega,by omega,h⟩
   ·exact⟨j,by omega,by omega,h3⟩
  ·rintro⟨j,h1,h2,h3⟩
   by_cases e:j=i
   ·subst e; exact .inl h3
   ·exact .inr ⟨j,by omega,by omega,h3⟩
theorem firstN_yes{pr:Nat->Bool}:∀ {n i:Nat},¬zBz pr n i=-1->∃ j,i<=j/\j < i+n/\zBz pr n i=(j:Int)/\pr j=true/\∀ k,i<=k->k < j->pr k=false
 | 0,i,h=>absurd rfl h
 | n+1,i,h=>by
  rw[zCv]at h ⊢;cases hp:pr i
  ·rw[hp,if_neg (by decide)]at h;rw[if_neg (by decide)];obtain⟨j,h1,h2,h3,h4,h5⟩:=firstN_yes h;refine⟨j,by omega,by omega,h3,h4,fun k k1 k2=>?_⟩
   by_cases e:k=i
   ·rw[e]; exact hp
   ·exact h5 k (by omega) k2
  ·rw[if_pos rfl];exact⟨i,by omega,by omega,rfl,hp,fun k k1 k2=>absurd k1 (by omega)⟩
theorem e190:Ent zP 190 Tryz.f190 [] 2:=.mk Tryz.func190 rfl
theorem idxCls{g:Nat}{caps:List AV}{pr:Nat->Bool}{l:List Cls}{s:AV}(hs:IsSl s (l.map Cls.av))(hl:l.length<=2^20)(St:Nat->List AO->Prop)
  (hp:∀(i:Nat) (H:List AO) (K:AV->List AO->Prop),i < l.length->St i H->(∀ H',St (i+1) H'->K (B (pr i)) H')->AC zP GG g (Cls.av (l.getD i default)::caps) H K) {H:List AO} {K:AV->List AO->Prop} (h0:St 0 H)
  (hK:∀ H',(∃ i,i<=l.length/\St i H')->K (I (zBz pr l.length 0)) H'):AC zP GG 190 [s,.fn g [] caps] H K:=by
 have hlen:=hs.len un24;rw[zM]at hlen;have hidx:=fun(i:Nat) (hi:i < l.length) (H:List AO)=>hs.idx (P:=zP) un24 sz93 (i:=(i:Int)) (by rw[zM]; omega) (by omega) H
 refine goE e190 TOk.nil 0 ?_;simp only[push_cast,seval,↓kw2,hlen];refine FW.loopInv (fun m ts H'=>∃ i:Nat,i+m=l.length/\zBz pr m i=zBz pr l.length 0/\St i H'/\ts 0=s/\ts 1=.fn g [] caps/\ts 7=I (l.length:Int)/\ts 8=I (i:Int)) l.length
  ⟨0,by omega,rfl,h0,rfl,rfl,rfl,rfl⟩ ?_
 rintro m ih ts H' ⟨i,hi,hf,hst,t0,t1,t7,t8⟩
 refine FW.inLoop ?_
 by_cases hlt:i < l.length
 ·have hd1:decide ((i:Int) < (l.length:Int))=true:=by simp[hlt]
  have hx:=hidx i hlt;have hgy:=zAj Cls.av l default hlt;simp only[Int.toNat_natCast]at hx;rw[hgy]at hx;have hpi:=hp i;obtain⟨m,rfl⟩:∃ m',m=m'+1:=⟨m - 1,by omega⟩
  generalize l.getD i default=x at hx hpi
  have hcx:=Cls.cells x;have hbb:(0<=(i:Int)/\(i:Int) < ((l.map Cls.av).length:Int)):=⟨by omega,by rw[zM]; omega⟩;refine goN ?_;simp only[push_cast,seval,↓kw2,t0,t1,t7,t8,hd1,hx,hcx]
  first
   | refine⟨hbb,?_⟩
   | refine⟨⟨hbb,rfl⟩,?_⟩
  refine hpi _ _ hlt hst ?_
  intro H2 hst2
  rw[zCv]at hf;cases hpx:pr i
  ·rw[hpx,if_neg (by decide)]at hf;refine goN ?_;simp only[push_cast,seval,↓kw2,t8];rw[zAl (n:=(i:Int)+1) (by omega) (by omega)];exact ih m (by omega) _ _ ⟨i+1,by omega,hf,hst2,t0,t1,t7,rfl⟩
  ·rw[hpx,if_pos rfl]at hf;refine goN ?_;simp only[push_cast,seval,↓kw2,t8];exact⟨_,rfl,by rw[hf]; exact hK _ ⟨i+1,by omega,hst2⟩⟩
 ·have hd1:decide ((i:Int) < (l.length:Int))=false:=by simp; omega
  have hm:m=0:=by omega
  subst hm;refine goN ?_;simp only[push_cast,seval,↓kw2,t7,t8,hd1];exact⟨_,rfl,by rw[show(-1:Int)=zBz pr l.length 0 from hf]; exact hK _ ⟨i,by omega,hst⟩⟩
theorem e124:Ent zP 124 Tryz.f124 [] 2:=.mk Tryz.func124 rfl
theorem hasCls{g:Nat}{caps:List AV}{pr:Nat->Bool}{l:List Cls}{s:AV}(hs:IsSl s (l.map Cls.av))(hl:l.length<=2^20)(St:Nat->List AO->Prop)
  (hp:∀(i:Nat) (H:List AO) (K:AV->List AO->Prop),i < l.length->St i H->(∀ H',St (i+1) H'->K (B (pr i)) H')->AC zP GG g (Cls.av (l.getD i default)::caps) H K) {H:List AO} {K:AV->List AO->Prop} (h0:St 0 H)
  (hK:∀ H',(∃ i,i<=l.length/\St i H')->K (B (anyN pr l.length 0)) H'):AC zP GG 124 [s,.fn g [] caps] H K:=by
 simp only[<- zDw]at hK;refine goE e124 TOk.nil 0 ?_;simp only[push_cast,seval,↓kw2];refine idxCls hs hl St hp h0 ?_
 intro H' hh
 refine goN ?_;simp only[push_cast,seval,↓kw2];exact⟨_,rfl,hK _ hh⟩
structure Cfg where
 a:Int
 b:Int
 c:Int
 boot:Int
 free:Int
 tries:Int
 age:Int
 cls:List Cls
abbrev CF(a b c p q r t:Int)(s:AV):AV:=.agg [I a,I b,I c,I p,I q,I r,I t,s]
def Cfg.may(x:Cfg):Bool:=decide (okD x.a x.b x.c)&&witV x.boot 1 1048576&&witV x.free 1 1048576&&(witV x.tries 1 5&&witV x.age 1 1048576&&witV x.cls.length 1 4)&&!anyN (fun i=>(x.cls.getD i default).odd) x.cls.length 0
def Cfg.chk(x:Cfg):Int:=if x.may=true then 0 else 8
theorem e65:Ent zP 65 Tryz.f65 [] 1:=.mk Tryz.func65 rfl
theorem pchk_pur(x:Cfg){s:AV}(hs:IsSl s (x.cls.map Cls.av)):Pur zP GG 65 [CF x.a x.b x.c x.boot x.free x.tries x.age s] (I x.chk):=by
 obtain⟨a,b,c,p,q,r,t,cs⟩:=x;have hpu:=hs.pur (zAi Cls.av _ (fun _=>rfl));obtain⟨k1,k2,k3⟩:=hs.cell;have hlen:=hs.len un24;rw[zM]at hlen;simp only at hs hlen;unfold Cfg.chk Cfg.may;simp only;have one:(chk a b c=8/\¬okD a b c)\/((chk a b c=0/\okD a b c)/\witV p 1 1048576=false)\/((chk a b c=0/\okD a b c)/\witV p 1 1048576=true/\witV q 1 1048576=false)\/((chk a b c=0/\okD a b c)/\witV p 1 1048576=true/\witV q 1 1048576=true):=by
  by_cases hd:okD a b c
  ·have:=chk_ok.2 hd;cases h1:witV p 1 1048576 <;> cases h2:witV q 1 1048576 <;> simp[*]
  ·exact .inl ⟨chk_no hd,hd⟩
 have two:witV r 1 5=false\/(witV r 1 5=true/\witV t 1 1048576=false)\/(witV r 1 5=true/\witV t 1 1048576=true/\witV cs.length 1 4=false)\/(witV r 1 5=true/\witV t 1 1048576=true/\witV cs.length 1 4=true):=by
  cases witV r 1 5 <;> cases witV t 1 1048576 <;> cases witV (cs.length:Int) 1 4 <;> simp
 rcases one with ⟨hc,hd⟩ | ⟨⟨hc,hd⟩,h1⟩ | ⟨⟨hc,hd⟩,h1,h2⟩ | ⟨⟨hc,hd⟩,h1,h2⟩
 ·rcases two with h4 | ⟨h4,h5⟩ | ⟨h4,h5,h6⟩ | ⟨h4,h5,h6⟩
  ·skip
   refine goQ e65 zBp 0 ?_ (by simp[AV.purL,AV.pur,hpu]);simp only[push_cast,seval,↓kw2,k1,k2,k3,hlen,hc,h4];exact⟨_,rfl,zAa rfl (by simp[hd,h4])⟩
  ·skip
   refine goQ e65 zBp 0 ?_ (by simp[AV.purL,AV.pur,hpu]);simp only[push_cast,seval,↓kw2,k1,k2,k3,hlen,hc,h4,h5];exact⟨_,rfl,zAa rfl (by simp[hd,h4,h5])⟩
  ·skip
   refine goQ e65 zBp 0 ?_ (by simp[AV.purL,AV.pur,hpu]);simp only[push_cast,seval,↓kw2,k1,k2,k3,hlen,hc,h4,h5,h6];exact⟨_,rfl,zAa rfl (by simp[hd,h4,h5,h6])⟩
  ·skip
   refine goQ e65 zBp 0 ?_ (by simp[AV.purL,AV.pur,hpu]);simp only[push_cast,seval,↓kw2,k1,k2,k3,hlen,hc,h4,h5,h6];exact⟨_,rfl,zAa rfl (by simp[hd,h4,h5,h6])⟩
 ·rcases two with h4 | ⟨h4,h5⟩ | ⟨h4,h5,h6⟩ | ⟨h4,h5,h6⟩
  ·skip
   refine goQ e65 zBp 0 ?_ (by simp[AV.purL,AV.pur,hpu]);simp only[push_cast,seval,↓kw2,k1,k2,k3,hlen,hc,h1,h4];exact⟨_,rfl,zAa rfl (by simp[hd,h1,h4])⟩
  ·skip
   refine goQ e65 zBp 0 ?_ (by simp[AV.purL,AV.pur,hpu]);simp only[push_cast,seval,↓kw2,k1,k2,k3,hlen,hc,h1,h4,h5];exact⟨_,rfl,zAa rfl (by simp[hd,h1,h4,h5])⟩
  ·skip
   refine goQ e65 zBp 0 ?_ (by simp[AV.purL,AV.pur,hpu]);simp only[push_cast,seval,↓kw2,k1,k2,k3,hlen,hc,h1,h4,h5,h6];exact⟨_,rfl,zAa rfl (by simp[hd,h1,h4,h5,h6])⟩
  ·skip
   refine goQ e65 zBp 0 ?_ (by simp[AV.purL,AV.pur,hpu]);simp only[push_cast,seval,↓kw2,k1,k2,k3,hlen,hc,h1,h4,h5,h6];exact⟨_,rfl,zAa rfl (by simp[hd,h1,h4,h5,h6])⟩
 ·rcases two with h4 | ⟨h4,h5⟩ | ⟨h4,h5,h6⟩ | ⟨h4,h5,h6⟩
  ·skip
   refine goQ e65 zBp 0 ?_ (by simp[AV.purL,AV.pur,hpu]);simp only[push_cast,seval,↓kw2,k1,k2,k3,hlen,hc,h1,h2,h4];exact⟨_,rfl,zAa rfl (by simp[hd,h1,h2,h4])⟩
  ·skip
   refine goQ e65 zBp 0 ?_ (by simp[AV.purL,AV.pur,hpu]);simp only[push_cast,seval,↓kw2,k1,k2,k3,hlen,hc,h1,h2,h4,h5];exact⟨_,rfl,zAa rfl (by simp[hd,h1,h2,h4,h5])⟩
  ·skip
   refine goQ e65 zBp 0 ?_ (by simp[AV.purL,AV.pur,hpu]);simp only[push_cast,seval,↓kw2,k1,k2,k3,hlen,hc,h1,h2,h4,h5,h6];exact⟨_,rfl,zAa rfl (by simp[hd,h1,h2,h4,h5,h6])⟩
  ·skip
   refine goQ e65 zBp 0 ?_ (by simp[AV.purL,AV.pur,hpu]);simp only[push_cast,seval,↓kw2,k1,k2,k3,hlen,hc,h1,h2,h4,h5,h6];exact⟨_,rfl,zAa rfl (by simp[hd,h1,h2,h4,h5,h6])⟩
 ·rcases two with h4 | ⟨h4,h5⟩ | ⟨h4,h5,h6⟩ | ⟨h4,h5,h6⟩
  ·skip
   refine goQ e65 zBp 0 ?_ (by simp[AV.purL,AV.pur,hpu]);simp only[push_cast,seval,↓kw2,k1,k2,k3,hlen,hc,h1,h2,h4];exact⟨_,rfl,zAa rfl (by simp[hd,h1,h2,h4])⟩
  ·skip
   refine goQ e65 zBp 0 ?_ (by simp[AV.purL,AV.pur,hpu]);simp only[push_cast,seval,↓kw2,k1,k2,k3,hlen,hc,h1,h2,h4,h5];exact⟨_,rfl,zAa rfl (by simp[hd,h1,h2,h4,h5])⟩
  ·skip
   refine goQ e65 zBp 0 ?_ (by simp[AV.purL,AV.pur,hpu]);simp only[push_cast,seval,↓kw2,k1,k2,k3,hlen,hc,h1,h2,h4,h5,h6];exact⟨_,rfl,zAa rfl (by simp[hd,h1,h2,h4,h5,h6])⟩
  ·skip
   refine goQ e65 zBp 0 ?_ (by simp[AV.purL,AV.pur,hpu]);simp only[push_cast,seval,↓kw2,k1,k2,k3,hlen,hc,h1,h2,h4,h5,h6];have hl4:cs.length<=4:=by have:=witV_t.1 h6; omega
   refine hasCls hs (by omega) (fun _ H=>H=[AO.cells [I a,I b,I c,I p,I q,I r,I t,s]]) (pr:=fun i=>(cs.getD i default).odd) ?_ rfl ?_
   ·rintro i H K hi rfl hK
    exact AC.pur (clsOdd_pur _ _ _ _) (hK _ rfl)
   rintro H' ⟨_,_,rfl⟩
   rw[zT hd];cases hodd:anyN (fun i=>(cs.getD i default).odd) cs.length 0
   ·skip
    refine goW zBp [] 0 ?_;simp only[push_cast,seval,↓kw2];exact⟨_,rfl,zAa rfl rfl⟩
   ·skip
    refine goW zBp [] 0 ?_;simp only[push_cast,seval,↓kw2];exact⟨_,rfl,zAa rfl rfl⟩
structure Prt where
 job:Int
 pl:Plc
 ph:Int
 tries:Int
 since:Int
 deriving DecidableEq
abbrev PA(j:Int)(x:Plc)(ph t s:Int):AV:=.agg [I j,I x.x,I x.y,I x.z,I x.p,I x.q,I x.r,B x.s,B x.t,B x.u,.c (.int .u8 ph),I t,I s]
def Prt.av(p:Prt):AV:=PA p.job p.pl p.ph p.tries p.since
instance:Inhabited Prt:=⟨⟨0,default,0,0,0⟩⟩
theorem Prt.cells(p:Prt):p.av.cells=[I p.job,I p.pl.x,I p.pl.y,I p.pl.z,I p.pl.p,I p.pl.q,I p.pl.r,B p.pl.s,B p.pl.t,B p.pl.u,.c (.int .u8 p.ph),I p.tries,I p.since]:=rfl
def Cfg.av(x:Cfg)(s:AV):AV:=CF x.a x.b x.c x.boot x.free x.tries x.age s
def Cfg.part(x:Cfg)(p:Prt):Bool:=witV p.job 1 2147483647&&!decide (p.ph < 1)&&!decide (3 < p.ph)&&witV p.tries 1 x.tries&&witV p.since 0 1099511627776
def Cfg.pchk(x:Cfg)(p:Prt):Int:=if x.chk=0 then (if x.part p=true then 0 else 8) else x.chk
theorem e248:Ent zP 248 Tryz.f248 [] 2:=.mk Tryz.func248 rfl
theorem partc_pur(x:Cfg)(p:Prt){s:AV}(hs:IsSl s (x.cls.map Cls.av)):Pur zP GG 248 [x.av s,p.av] (I (x.pchk p)):=by
 have hpu:=hs.pur (zAi Cls.av _ (fun _=>rfl));obtain⟨k1,k2,k3⟩:=hs.cell;have hc:=pchk_pur x hs;unfold Cfg.pchk;show Pur zP GG 248 [CF x.a x.b x.c x.boot x.free x.tries x.age s,PA p.job p.pl p.ph p.tries p.since] _
 by_cases h0:x.chk=0
 ·rw[if_pos h0];rw[h0]at hc;unfold Cfg.part;have hch:(witV p.job 1 2147483647=false)\/(witV p.job 1 2147483647=true/\decide (p.ph < 1)=true)\/(witV p.job 1 2147483647=true/\decide (p.ph < 1)=false/\decide (3 < p.ph)=true)\/(witV p.job 1 2147483647=true/\decide (p.ph < 1)=false/\decide (3 < p.ph)=false/\witV p.tries 1 x.tries=false)\/(witV p.job 1 2147483647=true/\decide (p.ph < 1)=false/\decide (3 < p.ph)=false/\witV p.tries 1 x.tries=true/\witV p.since 0 1099511627776=false)\/(witV p.job 1 2147483647=true/\decide (p.ph < 1)=false/\decide (3 < p.ph)=false/\witV p.tries 1 x.tries=true/\witV p.since 0 1099511627776=true):=by
   generalize witV p.job 1 2147483647=qh1
   generalize decide (p.ph < 1)=qh2
   generalize decide (3 < p.ph)=qh3
   generalize witV p.tries 1 x.tries=qh4
   generalize witV p.since 0 1099511627776=qh5
   cases qh1 <;> cases qh2 <;> cases qh3 <;> cases qh4 <;> cases qh5 <;> simp
  rcases hch with h1 | ⟨h1,h2⟩ | ⟨h1,h2,h3⟩ | ⟨h1,h2,h3,h4⟩ | ⟨h1,h2,h3,h4,h5⟩ | ⟨h1,h2,h3,h4,h5⟩
  ·skip
   refine goQ e248 zBp 0 ?_ (by simp[AV.purL,AV.pur,hpu]);simp only[push_cast,seval,↓kw2,k1,k2,k3];refine AC.pur hc ?_;refine goW zBp [] 0 ?_;simp only[push_cast,seval,↓kw2,k1,k2,k3,h1];exact⟨_,rfl,zAa rfl (by simp[h1])⟩
  ·skip
   refine goQ e248 zBp 0 ?_ (by simp[AV.purL,AV.pur,hpu]);simp only[push_cast,seval,↓kw2,k1,k2,k3];refine AC.pur hc ?_;refine goW zBp [] 0 ?_;simp only[push_cast,seval,↓kw2,k1,k2,k3,h1,h2];exact⟨_,rfl,zAa rfl (by simp[h1,h2])⟩
  ·skip
   refine goQ e248 zBp 0 ?_ (by simp[AV.purL,AV.pur,hpu]);simp only[push_cast,seval,↓kw2,k1,k2,k3];refine AC.pur hc ?_;refine goW zBp [] 0 ?_;simp only[push_cast,seval,↓kw2,k1,k2,k3,h1,h2,h3];exact⟨_,rfl,zAa rfl (by simp[h1,h2,h3])⟩
  ·skip
   refine goQ e248 zBp 0 ?_ (by simp[AV.purL,AV.pur,hpu]);simp only[push_cast,seval,↓kw2,k1,k2,k3];refine AC.pur hc ?_;refine goW zBp [] 0 ?_;simp only[push_cast,seval,↓kw2,k1,k2,k3,h1,h2,h3,h4];exact⟨_,rfl,zAa rfl (by simp[h1,h2,h3,h4])⟩
  ·skip
   refine goQ e248 zBp 0 ?_ (by simp[AV.purL,AV.pur,hpu]);simp only[push_cast,seval,↓kw2,k1,k2,k3];refine AC.pur hc ?_;refine goW zBp [] 0 ?_;simp only[push_cast,seval,↓kw2,k1,k2,k3,h1,h2,h3,h4,h5];exact⟨_,rfl,zAa rfl (by simp[h1,h2,h3,h4,h5])⟩
  ·skip
   refine goQ e248 zBp 0 ?_ (by simp[AV.purL,AV.pur,hpu]);simp only[push_cast,seval,↓kw2,k1,k2,k3];refine AC.pur hc ?_;refine goW zBp [] 0 ?_;simp only[push_cast,seval,↓kw2,k1,k2,k3,h1,h2,h3,h4,h5];exact⟨_,rfl,zAa rfl (by simp[h1,h2,h3,h4,h5])⟩
 ·rw[if_neg h0];refine goQ e248 zBp 0 ?_ (by simp[AV.purL,AV.pur,hpu]);simp only[push_cast,seval,↓kw2,k1,k2,k3];refine AC.pur hc ?_;refine goW zBp [] 0 ?_;simp only[push_cast,seval,↓kw2,k1,k2,k3,h0];exact⟨_,rfl,zAa rfl rfl⟩
theorem Cfg.pchk_0{x:Cfg}{p:Prt}(h:x.pchk p=0):x.chk=0/\x.part p=true:=by
 unfold Cfg.pchk at h
 split at h
 ·split at h
  ·exact⟨by assumption,by assumption⟩
  ·omega
 ·exact absurd h (by assumption)
theorem Cfg.part_ph{x:Cfg}{p:Prt}(h:x.part p=true):p.ph=1\/p.ph=2\/p.ph=3:=by
 unfold Cfg.part at h;simp only[zA,Bool.not_eq_true',decide_eq_false_iff_not]at h;omega
def Cfg.spE(x:Cfg)(p:Prt)(wall:Int):Int:=if x.pchk p=0 then (if witV wall 1 1048576=true then 0 else 2) else x.pchk p
theorem u80:IntKind.u8.wrap 0=0:=by decide
theorem u81:IntKind.u8.wrap 1=1:=by decide
theorem u82:IntKind.u8.wrap 2=2:=by decide
theorem e195:Ent zP 195 Tryz.f195 [] 3:=.mk Tryz.func195 rfl
theorem spans_err(x:Cfg)(p:Prt)(wall:Int){s:AV}(hs:IsSl s (x.cls.map Cls.av))(h:¬x.spE p wall=0):Pur zP GG 195 [x.av s,p.av,I wall] (.tup [.c (.slice none 0 0),I (x.spE p wall)]):=by
 have hpu:=hs.pur (zAi Cls.av _ (fun _=>rfl));obtain⟨k1,k2,k3⟩:=hs.cell;have hc:=partc_pur x p hs;simp only[Cfg.av,Prt.av]at hc;show Pur zP GG 195 [CF x.a x.b x.c x.boot x.free x.tries x.age s,PA p.job p.pl p.ph p.tries p.since,I wall] _;unfold Cfg.spE at *
 by_cases h0:x.pchk p=0
 ·rw[if_pos h0]at h ⊢;rw[h0]at hc;cases h1:witV wall 1 1048576
  ·rw[if_neg (by decide)];refine goQ e195 zBp 0 ?_ (by simp[AV.purL,AV.pur,hpu]);simp only[push_cast,seval,↓kw2,k1,k2,k3];refine AC.pur hc ?_;refine goW zBp [] 0 ?_;simp only[push_cast,seval,↓kw2,k1,k2,k3,h1];exact⟨_,rfl,zAa rfl rfl⟩
  ·rw[h1,if_pos rfl]at h; exact absurd rfl h
 ·rw[if_neg h0];refine goQ e195 zBp 0 ?_ (by simp[AV.purL,AV.pur,hpu]);simp only[push_cast,seval,↓kw2,k1,k2,k3];refine AC.pur hc ?_;refine goW zBp [] 0 ?_;simp only[push_cast,seval,↓kw2,k1,k2,k3,h0];exact⟨_,rfl,zAa rfl rfl⟩
theorem spans_ac(x:Cfg)(p:Prt)(wall:Int){s:AV}(hs:IsSl s (x.cls.map Cls.av))(h:x.spE p wall=0){H:List AO}{K:AV->List AO->Prop}
  (hK:∀(H':List AO) (id:Nat),(∀(j:Nat) (o:AO),H[j]?=some o->H'[j]?=some o)->H'[id]?=some (.cells [I x.boot,I wall,I x.free])->K (.tup [.bs id (p.ph - 1).toNat (4 - p.ph).toNat (4 - p.ph).toNat 1,I 0]) H') :
  AC zP GG 195 [x.av s,p.av,I wall] H K:=by
 obtain⟨k1,k2,k3⟩:=hs.cell;have hc:=partc_pur x p hs;simp only[Cfg.av,Prt.av]at hc;show AC zP GG 195 [CF x.a x.b x.c x.boot x.free x.tries x.age s,PA p.job p.pl p.ph p.tries p.since,I wall] H K;unfold Cfg.spE at h
 by_cases h0:x.pchk p=0
 ·rw[if_pos h0]at h;rw[h0]at hc;cases h1:witV wall 1 1048576
  ·rw[h1,if_neg (by decide)]at h; cases h
  ·rcases Cfg.part_ph (Cfg.pchk_0 h0).2 with hph | hph | hph
   ·rw[hph]at hc hK ⊢;refine goE e195 zBp 0 ?_;simp only[push_cast,seval,↓kw2,k1,k2,k3,zAd,getA,zAe,setA,zAb];refine AC.pur hc ?_;refine goW zBp [] 0 ?_;simp only[push_cast,seval,↓kw2,k1,k2,k3,h1,zCm,zBi,zCy,u80,u81,u82,zAd,getA,zAe,setA,zAb,Nat.add_assoc];exact⟨_,rfl,hK _ (H.length+2) (fun j o h=>(zL (zAc h)).trans h) (by rw[getA]; rfl)⟩
   ·rw[hph]at hc hK ⊢;refine goE e195 zBp 0 ?_;simp only[push_cast,seval,↓kw2,k1,k2,k3,zAd,getA,zAe,setA,zAb];refine AC.pur hc ?_;refine goW zBp [] 0 ?_;simp only[push_cast,seval,↓kw2,k1,k2,k3,h1,zCm,zBi,zCy,u80,u81,u82,zAd,getA,zAe,setA,zAb,Nat.add_assoc];exact⟨_,rfl,hK _ (H.length+2) (fun j o h=>(zL (zAc h)).trans h) (by rw[getA]; rfl)⟩
   ·rw[hph]at hc hK ⊢;refine goE e195 zBp 0 ?_;simp only[push_cast,seval,↓kw2,k1,k2,k3,zAd,getA,zAe,setA,zAb];refine AC.pur hc ?_;refine goW zBp [] 0 ?_;simp only[push_cast,seval,↓kw2,k1,k2,k3,h1,zCm,zBi,zCy,u80,u81,u82,zAd,getA,zAe,setA,zAb,Nat.add_assoc];exact⟨_,rfl,hK _ (H.length+2) (fun j o h=>(zL (zAc h)).trans h) (by rw[getA]; rfl)⟩
 ·rw[if_neg h0]at h; exact absurd h h0
theorem iab2(id off len cap:Nat)(i:Int)(H:List AO):zAk zP 30 (.bs id off len cap 1) i H=some (0<=i/\i < (len:Int),.ptr id (off+i.toNat*1)):=by
 unfold zAk; simp only[un30,sz3]; rfl
theorem lbb2(id off len cap sz:Nat):aLen zP 30 (.bs id off len cap sz)=some (len:Int):=by unfold aLen; simp only[un30]
def Cfg.turn(x:Cfg)(p:Prt)(wall:Int):Int:=min (p.since+(if p.ph=1 then x.boot else if p.ph=2 then wall else x.free)) 1099511627776
def Cfg.end(x:Cfg)(p:Prt)(wall:Int):Int:=min (p.since+(if p.ph=1 then x.boot+wall+x.free else if p.ph=2 then wall+x.free else x.free)) 1099511627776
theorem Cfg.chk_may{x:Cfg}(h:x.chk=0):x.may=true:=by
 unfold Cfg.chk at h
 split at h
 ·assumption
 ·omega
theorem Cfg.sp_facts{x:Cfg}{p:Prt}{wall:Int}(h:x.spE p wall=0):(x.may=true/\x.part p=true)/\(0<=p.since/\p.since<=1099511627776)/\(1<=x.boot/\x.boot<=1048576)/\(1<=x.free/\x.free<=1048576)/\(1<=wall/\wall<=1048576):=by
 unfold Cfg.spE at h
 split at h
 ·rename_i h0;obtain⟨h1,h2⟩:=Cfg.pchk_0 h0;have hm:=Cfg.chk_may h1;have hm0:=hm;have h20:=h2;unfold Cfg.may at hm;unfold Cfg.part at h2;simp only[zA,witV_t]at hm h2
  split at h
  ·rename_i hw;rw[witV_t]at hw;exact⟨⟨hm0,h20⟩,h2.2,hm.1.1.1.2,hm.1.1.2,hw⟩
  ·omega
 ·exact absurd h (by assumption)
theorem mm_min(a b:Int):aMM false (I a) (I b)=some (I (min a b)):=by
 have:(if b < a then b else a)=min a b:=by rw[Int.min_def]; split <;> split <;> omega
 rw[<- this]; rfl
theorem e131:Ent zP 131 Tryz.f131 [] 3:=.mk Tryz.func131 rfl
theorem turns16_pur(x:Cfg)(p:Prt)(wall:Int){s:AV}(hs:IsSl s (x.cls.map Cls.av)):Pur zP GG 131 [x.av s,p.av,I wall] (.tup [I (if x.spE p wall=0 then x.turn p wall else 0),I (x.spE p wall)]):=by
 have hpu:=hs.pur (zAi Cls.av _ (fun _=>rfl));obtain⟨k1,k2,k3⟩:=hs.cell;show Pur zP GG 131 [CF x.a x.b x.c x.boot x.free x.tries x.age s,PA p.job p.pl p.ph p.tries p.since,I wall] _
 by_cases h:x.spE p wall=0
 ·rw[if_pos h,h];obtain⟨⟨_,hp⟩,f1,f2,f3,f4⟩:=Cfg.sp_facts h;unfold Cfg.turn
  rcases Cfg.part_ph hp with hph | hph | hph
  ·rw[if_pos hph];have w1:=zAl (n:=p.since+x.boot) (by omega) (by omega);refine goQ e131 zBp 0 ?_ (by simp[AV.purL,AV.pur,hpu]);simp only[push_cast,seval,↓kw2,k1,k2,k3];refine spans_ac x p wall hs h ?_
   intro H' id hh hid
   have m1:=hh 1 _ rfl;rw[hph];refine goW zBp [] 0 ?_;simp only[push_cast,seval,↓kw2,k1,k2,k3,iab2,lbb2,hid,m1,w1,aop3,mm_min]
   first
    | exact⟨_,rfl,zAa rfl rfl⟩
    | exact⟨by decide,_,rfl,zAa rfl rfl⟩
  ·rw[if_neg (by omega),if_pos hph];have w1:=zAl (n:=p.since+wall) (by omega) (by omega);refine goQ e131 zBp 0 ?_ (by simp[AV.purL,AV.pur,hpu]);simp only[push_cast,seval,↓kw2,k1,k2,k3];refine spans_ac x p wall hs h ?_
   intro H' id hh hid
   have m1:=hh 1 _ rfl;rw[hph];refine goW zBp [] 0 ?_;simp only[push_cast,seval,↓kw2,k1,k2,k3,iab2,lbb2,hid,m1,w1,aop3,mm_min]
   first
    | exact⟨_,rfl,zAa rfl rfl⟩
    | exact⟨by decide,_,rfl,zAa rfl rfl⟩
  ·rw[if_neg (by omega),if_neg (by omega)];have w1:=zAl (n:=p.since+x.free) (by omega) (by omega);refine goQ e131 zBp 0 ?_ (by simp[AV.purL,AV.pur,hpu]);simp only[push_cast,seval,↓kw2,k1,k2,k3];refine spans_ac x p wall hs h ?_
   intro H' id hh hid
   have m1:=hh 1 _ rfl;rw[hph];refine goW zBp [] 0 ?_;simp only[push_cast,seval,↓kw2,k1,k2,k3,iab2,lbb2,hid,m1,w1,aop3,mm_min]
   first
    | exact⟨_,rfl,zAa rfl rfl⟩
    | exact⟨by decide,_,rfl,zAa rfl rfl⟩
 ·rw[if_neg h];refine goQ e131 zBp 0 ?_ (by simp[AV.purL,AV.pur,hpu]);simp only[push_cast,seval,↓kw2,k1,k2,k3];refine AC.pur (spans_err x p wall hs h) ?_;refine goW zBp [] 0 ?_;simp only[push_cast,seval,↓kw2,k1,k2,k3,h];exact⟨_,rfl,zAa rfl rfl⟩
theorem e145:Ent zP 145 Tryz.f145 [] 3:=.mk Tryz.func145 rfl
theorem ends_pur(x:Cfg)(p:Prt)(wall:Int){s:AV}(hs:IsSl s (x.cls.map Cls.av)):Pur zP GG 145 [x.av s,p.av,I wall] (.tup [I (if x.spE p wall=0 then x.end p wall else 0),I (x.spE p wall)]):=by
 have hpu:=hs.pur (zAi Cls.av _ (fun _=>rfl));obtain⟨k1,k2,k3⟩:=hs.cell;show Pur zP GG 145 [CF x.a x.b x.c x.boot x.free x.tries x.age s,PA p.job p.pl p.ph p.tries p.since,I wall] _
 by_cases h:x.spE p wall=0
 ·rw[if_pos h,h];obtain⟨⟨_,hp⟩,f1,f2,f3,f4⟩:=Cfg.sp_facts h;unfold Cfg.end
  rcases Cfg.part_ph hp with hph | hph | hph
  ·rw[if_pos hph];have w1:=zAl (n:=p.since+x.boot) (by omega) (by omega);have w2:=zAl (n:=p.since+x.boot+wall) (by omega) (by omega);have w3:=zAl (n:=p.since+x.boot+wall+x.free) (by omega) (by omega);refine goQ e145 zBp 5 ?_ (by simp[AV.purL,AV.pur,hpu]);simp only[push_cast,seval,↓kw2,k1,k2,k3];refine spans_ac x p wall hs h ?_
   intro H' id hh hid
   have m1:=hh 1 _ rfl;rw[hph];refine goW zBp [] 5 ?_;simp only[push_cast,seval,↓kw2,k1,k2,k3,iab2,lbb2,hid,m1,w1,w2,w3,aop3,mm_min]
   repeat (refine⟨by decide,?_⟩)
   exact⟨_,rfl,zAa rfl (by rw[show p.since+x.boot+wall+x.free=p.since+(x.boot+wall+x.free) by omega])⟩
  ·rw[if_neg (by omega),if_pos hph];have w1:=zAl (n:=p.since+wall) (by omega) (by omega);have w2:=zAl (n:=p.since+wall+x.free) (by omega) (by omega);refine goQ e145 zBp 5 ?_ (by simp[AV.purL,AV.pur,hpu]);simp only[push_cast,seval,↓kw2,k1,k2,k3];refine spans_ac x p wall hs h ?_
   intro H' id hh hid
   have m1:=hh 1 _ rfl;rw[hph];refine goW zBp [] 5 ?_;simp only[push_cast,seval,↓kw2,k1,k2,k3,iab2,lbb2,hid,m1,w1,w2,aop3,mm_min]
   repeat (refine⟨by decide,?_⟩)
   exact⟨_,rfl,zAa rfl (by rw[show p.since+wall+x.free=p.since+(wall+x.free) by omega])⟩
  ·rw[if_neg (by omega),if_neg (by omega)];have w1:=zAl (n:=p.since+x.free) (by omega) (by omega);refine goQ e145 zBp 5 ?_ (by simp[AV.purL,AV.pur,hpu]);simp only[push_cast,seval,↓kw2,k1,k2,k3];refine spans_ac x p wall hs h ?_
   intro H' id hh hid
   have m1:=hh 1 _ rfl;rw[hph];refine goW zBp [] 5 ?_;simp only[push_cast,seval,↓kw2,k1,k2,k3,iab2,lbb2,hid,m1,w1,aop3,mm_min]
   repeat (refine⟨by decide,?_⟩)
   exact⟨_,rfl,zAa rfl rfl⟩
 ·rw[if_neg h];refine goQ e145 zBp 5 ?_ (by simp[AV.purL,AV.pur,hpu]);simp only[push_cast,seval,↓kw2,k1,k2,k3];refine AC.pur (spans_err x p wall hs h) ?_;refine goW zBp [] 5 ?_;simp only[push_cast,seval,↓kw2,k1,k2,k3,h];exact⟨_,rfl,zAa rfl rfl⟩
theorem e249:Ent zP 249 Tryz.f249 [] 3:=.mk Tryz.func249 rfl
theorem withinJ_pur(n a b:Int):Pur zP GG 249 [I n,I a,I b] (B (witV n a b)):=by
 refine goQ e249 zBp 0 ?_;simp only[push_cast,seval,↓kw2];unfold witV
 repeat' (first | apply And.intro | intro _)
 all_goals
  refine⟨_,rfl,zAa rfl ?_⟩;simp only[AV.c.injEq,Value.bool.injEq]
  first
   | exact decide_eq_decide.2 (by omega)
   | exact(zF (by omega)).symm
   | exact(zT (by omega)).symm
   | (simp at *; omega)
@[push_cast] def g249:List AV->Option (Prop × AV)
 | [(.c (.int .i64 n)),(.c (.int .i64 a)),(.c (.int .i64 b))]=>some (True,B (witV n a b))
 | _=>none
theorem g249_ok:∀ args p,g249 args=some p->p.1->Pur zP GG 249 args p.2:=by
 intro args p hp hc
 unfold g249 at hp
 split at hp
 ·cases hp;exact withinJ_pur _ _ _
 ·cases hp
@[push_cast] def V3:Tab:=Tab.ext V2 249 g249
theorem zBf:TOk zP GG V3:=TOk.ext zBp g249_ok
structure Jb where
 id:Int
 user:Int
 cls:Int
 w:Wnt
 wall:Int
 prio:Int
 held:Bool
 aft:AV
 after:List Int
 st:Int
 came:Int
abbrev JB(id user cls:Int)(w:Wnt)(wall prio:Int)(held:Bool)(aft:AV)(st came:Int):AV:=.agg [I id,I user,I cls,I w.p,I w.q,I w.r,B w.s,B w.t,B w.u,B w.v,I wall,I prio,B held,aft,.c (.int .u8 st),I came]
def Jb.av(j:Jb):AV:=JB j.id j.user j.cls j.w j.wall j.prio j.held j.aft j.st j.came
instance:Inhabited Jb:=⟨⟨0,0,0,default,0,0,false,.c (.slice none 0 0),[],0,0⟩⟩
theorem Jb.cells(j:Jb):j.av.cells=[I j.id,I j.user,I j.cls,I j.w.p,I j.w.q,I j.w.r,B j.w.s,B j.w.t,B j.w.u,B j.w.v,I j.wall,I j.prio,B j.held,j.aft,.c (.int .u8 j.st),I j.came]:=rfl
def Jb.good(j:Jb):Prop:=IsSl j.aft (j.after.map IA)
theorem Jb.pur{j:Jb}(h:j.good):j.av.pur=true:=by
 have:=IsSl.pur h (zAi IA _ (fun _=>rfl));simp[Jb.av,AV.pur,AV.purL,this]
theorem Jb.good_default:(default:Jb).good:=.inr ⟨rfl,rfl⟩
def Jb.plain(x:Cfg)(j:Jb):Bool:=(witV j.id 1 2147483647&&witV j.user 1 255&&witV j.cls 0 ((x.cls.length:Int) - 1)&&witV j.wall 1 1048576)&&(witV j.prio (-1000) 1000&&witV j.came 0 1099511627776)&&decide (1<=j.st)&&decide (j.st<=6)&&(!j.held||decide (j.st=1))
theorem e201:Ent zP 201 Tryz.f201 [] 2:=.mk Tryz.func201 rfl
theorem jplain_pur(x:Cfg){j:Jb}{s:AV}(hs:IsSl s (x.cls.map Cls.av))(hx:x.cls.length<=2^20)(hj:j.good):Pur zP GG 201 [x.av s,j.av] (B (j.plain x)):=by
 have hpu:=hs.pur (zAi Cls.av _ (fun _=>rfl));have hpj:=IsSl.pur hj (zAi IA _ (fun _=>rfl));obtain⟨k1,k2,k3⟩:=hs.cell;obtain⟨m1,m2,m3⟩:=IsSl.cell hj;have hlen:=hs.len un24;rw[zM]at hlen;have hw:=zAl (n:=(x.cls.length:Int) - 1) (by omega) (by omega);unfold Jb.plain;show Pur zP GG 201 [CF x.a x.b x.c x.boot x.free x.tries x.age s,JB j.id j.user j.cls j.w j.wall j.prio j.held j.aft j.st j.came] _;have hch:(witV j.id 1 2147483647=false)\/(witV j.id 1 2147483647=true/\witV j.user 1 255=false)\/(witV j.id 1 2147483647=true/\witV j.user 1 255=true/\witV j.cls 0 ((x.cls.length:Int) - 1)=false)\/(witV j.id 1 2147483647=true/\witV j.user 1 255=true/\witV j.cls 0 ((x.cls.length:Int) - 1)=true/\witV j.wall 1 1048576=false)\/(witV j.id 1 2147483647=true/\witV j.user 1 255=true/\witV j.cls 0 ((x.cls.length:Int) - 1)=true/\witV j.wall 1 1048576=true):=by
  generalize witV j.id 1 2147483647=qh1
  generalize witV j.user 1 255=qh2
  generalize witV j.cls 0 ((x.cls.length:Int) - 1)=qh3
  generalize witV j.wall 1 1048576=qh4
  cases qh1 <;> cases qh2 <;> cases qh3 <;> cases qh4 <;> simp
 rcases hch with h1 | ⟨h1,h2⟩ | ⟨h1,h2,h3⟩ | ⟨h1,h2,h3,h4⟩ | ⟨h1,h2,h3,h4⟩
 ·skip
  have hch2:(witV j.prio (-1000) 1000=false)\/(witV j.prio (-1000) 1000=true/\witV j.came 0 1099511627776=false)\/(witV j.prio (-1000) 1000=true/\witV j.came 0 1099511627776=true):=by
   generalize witV j.prio (-1000) 1000=qh5
   generalize witV j.came 0 1099511627776=qh6
   cases qh5 <;> cases qh6 <;> simp
  rcases hch2 with h5 | ⟨h5,h6⟩ | ⟨h5,h6⟩
  ·skip
   refine goQ e201 zBf 0 ?_ (by simp[AV.purL,AV.pur,hpu,hpj]);simp only[push_cast,seval,↓kw2,k1,k2,k3,m1,m2,m3,hlen,hw,h1,h5];exact⟨_,rfl,zAa rfl (by simp[h1,h5])⟩
  ·skip
   refine goQ e201 zBf 0 ?_ (by simp[AV.purL,AV.pur,hpu,hpj]);simp only[push_cast,seval,↓kw2,k1,k2,k3,m1,m2,m3,hlen,hw,h1,h5,h6];exact⟨_,rfl,zAa rfl (by simp[h1,h5,h6])⟩
  ·skip
   refine goQ e201 zBf 0 ?_ (by simp[AV.purL,AV.pur,hpu,hpj]);simp only[push_cast,seval,↓kw2,k1,k2,k3,m1,m2,m3,hlen,hw,h1,h5,h6];exact⟨_,rfl,zAa rfl (by simp[h1,h5,h6])⟩
 ·skip
  have hch2:(witV j.prio (-1000) 1000=false)\/(witV j.prio (-1000) 1000=true/\witV j.came 0 1099511627776=false)\/(witV j.prio (-1000) 1000=true/\witV j.came 0 1099511627776=true):=by
   generalize witV j.prio (-1000) 1000=qh5
   generalize witV j.came 0 1099511627776=qh6
   cases qh5 <;> cases qh6 <;> simp
  rcases hch2 with h5 | ⟨h5,h6⟩ | ⟨h5,h6⟩
  ·skip
   refine goQ e201 zBf 0 ?_ (by simp[AV.purL,AV.pur,hpu,hpj]);simp only[push_cast,seval,↓kw2,k1,k2,k3,m1,m2,m3,hlen,hw,h1,h2,h5];exact⟨_,rfl,zAa rfl (by simp[h1,h2,h5])⟩
  ·skip
   refine goQ e201 zBf 0 ?_ (by simp[AV.purL,AV.pur,hpu,hpj]);simp only[push_cast,seval,↓kw2,k1,k2,k3,m1,m2,m3,hlen,hw,h1,h2,h5,h6];exact⟨_,rfl,zAa rfl (by simp[h1,h2,h5,h6])⟩
  ·skip
   refine goQ e201 zBf 0 ?_ (by simp[AV.purL,AV.pur,hpu,hpj]);simp only[push_cast,seval,↓kw2,k1,k2,k3,m1,m2,m3,hlen,hw,h1,h2,h5,h6];exact⟨_,rfl,zAa rfl (by simp[h1,h2,h5,h6])⟩
 ·skip
  have hch2:(witV j.prio (-1000) 1000=false)\/(witV j.prio (-1000) 1000=true/\witV j.came 0 1099511627776=false)\/(witV j.prio (-1000) 1000=true/\witV j.came 0 1099511627776=true):=by
   generalize witV j.prio (-1000) 1000=qh5
   generalize witV j.came 0 1099511627776=qh6
   cases qh5 <;> cases qh6 <;> simp
  rcases hch2 with h5 | ⟨h5,h6⟩ | ⟨h5,h6⟩
  ·skip
   refine goQ e201 zBf 0 ?_ (by simp[AV.purL,AV.pur,hpu,hpj]);simp only[push_cast,seval,↓kw2,k1,k2,k3,m1,m2,m3,hlen,hw,h1,h2,h3,h5];exact⟨_,rfl,zAa rfl (by simp[h1,h2,h3,h5])⟩
  ·skip
   refine goQ e201 zBf 0 ?_ (by simp[AV.purL,AV.pur,hpu,hpj]);simp only[push_cast,seval,↓kw2,k1,k2,k3,m1,m2,m3,hlen,hw,h1,h2,h3,h5,h6];exact⟨_,rfl,zAa rfl (by simp[h1,h2,h3,h5,h6])⟩
  ·skip
   refine goQ e201 zBf 0 ?_ (by simp[AV.purL,AV.pur,hpu,hpj]);simp only[push_cast,seval,↓kw2,k1,k2,k3,m1,m2,m3,hlen,hw,h1,h2,h3,h5,h6];exact⟨_,rfl,zAa rfl (by simp[h1,h2,h3,h5,h6])⟩
 ·skip
  have hch2:(witV j.prio (-1000) 1000=false)\/(witV j.prio (-1000) 1000=true/\witV j.came 0 1099511627776=false)\/(witV j.prio (-1000) 1000=true/\witV j.came 0 1099511627776=true):=by
   generalize witV j.prio (-1000) 1000=qh5
   generalize witV j.came 0 1099511627776=qh6
   cases qh5 <;> cases qh6 <;> simp
  rcases hch2 with h5 | ⟨h5,h6⟩ | ⟨h5,h6⟩
  ·skip
   refine goQ e201 zBf 0 ?_ (by simp[AV.purL,AV.pur,hpu,hpj]);simp only[push_cast,seval,↓kw2,k1,k2,k3,m1,m2,m3,hlen,hw,h1,h2,h3,h4,h5];exact⟨_,rfl,zAa rfl (by simp[h1,h2,h3,h4,h5])⟩
  ·skip
   refine goQ e201 zBf 0 ?_ (by simp[AV.purL,AV.pur,hpu,hpj]);simp only[push_cast,seval,↓kw2,k1,k2,k3,m1,m2,m3,hlen,hw,h1,h2,h3,h4,h5,h6];exact⟨_,rfl,zAa rfl (by simp[h1,h2,h3,h4,h5,h6])⟩
  ·skip
   refine goQ e201 zBf 0 ?_ (by simp[AV.purL,AV.pur,hpu,hpj]);simp only[push_cast,seval,↓kw2,k1,k2,k3,m1,m2,m3,hlen,hw,h1,h2,h3,h4,h5,h6];exact⟨_,rfl,zAa rfl (by simp[h1,h2,h3,h4,h5,h6])⟩
 ·skip
  have hch2:(witV j.prio (-1000) 1000=false)\/(witV j.prio (-1000) 1000=true/\witV j.came 0 1099511627776=false)\/(witV j.prio (-1000) 1000=true/\witV j.came 0 1099511627776=true):=by
   generalize witV j.prio (-1000) 1000=qh5
   generalize witV j.came 0 1099511627776=qh6
   cases qh5 <;> cases qh6 <;> simp
  rcases hch2 with h5 | ⟨h5,h6⟩ | ⟨h5,h6⟩
  ·skip
   refine goQ e201 zBf 0 ?_ (by simp[AV.purL,AV.pur,hpu,hpj]);simp only[push_cast,seval,↓kw2,k1,k2,k3,m1,m2,m3,hlen,hw,h1,h2,h3,h4,h5];exact⟨_,rfl,zAa rfl (by simp[h1,h2,h3,h4,h5])⟩
  ·skip
   refine goQ e201 zBf 0 ?_ (by simp[AV.purL,AV.pur,hpu,hpj]);simp only[push_cast,seval,↓kw2,k1,k2,k3,m1,m2,m3,hlen,hw,h1,h2,h3,h4,h5,h6];exact⟨_,rfl,zAa rfl (by simp[h1,h2,h3,h4,h5,h6])⟩
  ·skip
   have hch3:(decide (1<=j.st)=false)\/(decide (1<=j.st)=true/\decide (j.st<=6)=false)\/(decide (1<=j.st)=true/\decide (j.st<=6)=true/\j.held=false)\/(decide (1<=j.st)=true/\decide (j.st<=6)=true/\j.held=true/\decide (j.st=1)=false)\/(decide (1<=j.st)=true/\decide (j.st<=6)=true/\j.held=true/\decide (j.st=1)=true):=by
    generalize decide (1<=j.st)=qh7
    generalize decide (j.st<=6)=qh8
    generalize j.held=qh9
    generalize decide (j.st=1)=qh10
    cases qh7 <;> cases qh8 <;> cases qh9 <;> cases qh10 <;> simp
   rcases hch3 with h7 | ⟨h7,h8⟩ | ⟨h7,h8,h9⟩ | ⟨h7,h8,h9,h10⟩ | ⟨h7,h8,h9,h10⟩
   ·skip
    refine goQ e201 zBf 0 ?_ (by simp[AV.purL,AV.pur,hpu,hpj]);simp only[push_cast,seval,↓kw2,k1,k2,k3,m1,m2,m3,hlen,hw,h1,h2,h3,h4,h5,h6,h7];exact⟨_,rfl,zAa rfl (by simp[h1,h2,h3,h4,h5,h6,h7])⟩
   ·skip
    refine goQ e201 zBf 0 ?_ (by simp[AV.purL,AV.pur,hpu,hpj]);simp only[push_cast,seval,↓kw2,k1,k2,k3,m1,m2,m3,hlen,hw,h1,h2,h3,h4,h5,h6,h7,h8];exact⟨_,rfl,zAa rfl (by simp[h1,h2,h3,h4,h5,h6,h7,h8])⟩
   ·skip
    refine goQ e201 zBf 0 ?_ (by simp[AV.purL,AV.pur,hpu,hpj]);simp only[push_cast,seval,↓kw2,k1,k2,k3,m1,m2,m3,hlen,hw,h1,h2,h3,h4,h5,h6,h7,h8,h9];exact⟨_,rfl,zAa rfl (by simp[h1,h2,h3,h4,h5,h6,h7,h8,h9])⟩
   ·skip
    refine goQ e201 zBf 0 ?_ (by simp[AV.purL,AV.pur,hpu,hpj]);simp only[push_cast,seval,↓kw2,k1,k2,k3,m1,m2,m3,hlen,hw,h1,h2,h3,h4,h5,h6,h7,h8,h9,h10];exact⟨_,rfl,zAa rfl (by simp[h1,h2,h3,h4,h5,h6,h7,h8,h9,h10])⟩
   ·skip
    refine goQ e201 zBf 0 ?_ (by simp[AV.purL,AV.pur,hpu,hpj]);simp only[push_cast,seval,↓kw2,k1,k2,k3,m1,m2,m3,hlen,hw,h1,h2,h3,h4,h5,h6,h7,h8,h9,h10];exact⟨_,rfl,zAa rfl (by simp[h1,h2,h3,h4,h5,h6,h7,h8,h9,h10])⟩
theorem IA_cells(x:Int):(IA x).cells=[I x]:=rfl
theorem U_cells(x:Int):(U x).cells=[U x]:=rfl
structure Kep where
 id:Int
 x:Int
 y:Int
 z:Int
 p:Int
 q:Int
 r:Int
 fr:Int
 till:Int
 deriving DecidableEq
abbrev KP(i x y z p q r f t:Int):AV:=.agg [I i,I x,I y,I z,I p,I q,I r,I f,I t]
def Kep.av(k:Kep):AV:=KP k.id k.x k.y k.z k.p k.q k.r k.fr k.till
instance:Inhabited Kep:=⟨⟨0,0,0,0,0,0,0,0,0⟩⟩
theorem Kep.cells(k:Kep):k.av.cells=[I k.id,I k.x,I k.y,I k.z,I k.p,I k.q,I k.r,I k.fr,I k.till]:=rfl
theorem e144:Ent zP 144 Tryz.f144 [] 2:=.mk Tryz.func144 rfl
theorem idxI{g:Nat}{caps:List AV}{pr:Nat->Bool}{l:List Int}{s:AV}(hs:IsSl s (l.map IA))(hl:l.length<=2^20)(St:Nat->List AO->Prop)
  (hp:∀(i:Nat) (H:List AO) (K:AV->List AO->Prop),i < l.length->St i H->(∀ H',St (i+1) H'->K (B (pr i)) H')->AC zP GG g (IA (l.getD i 0)::caps) H K) {H:List AO} {K:AV->List AO->Prop} (h0:St 0 H)
  (hK:∀ H',(∃ i,i<=l.length/\St i H')->K (I (zBz pr l.length 0)) H'):AC zP GG 144 [s,.fn g [] caps] H K:=by
 have hlen:=hs.len un30;rw[zM]at hlen;have hidx:=fun(i:Nat) (hi:i < l.length) (H:List AO)=>hs.idx (P:=zP) un30 sz3 (i:=(i:Int)) (by rw[zM]; omega) (by omega) H
 refine goE e144 TOk.nil 0 ?_;simp only[push_cast,seval,↓kw2,hlen];refine FW.loopInv (fun m ts H'=>∃ i:Nat,i+m=l.length/\zBz pr m i=zBz pr l.length 0/\St i H'/\ts 0=s/\ts 1=.fn g [] caps/\ts 7=I (l.length:Int)/\ts 8=I (i:Int)) l.length
  ⟨0,by omega,rfl,h0,rfl,rfl,rfl,rfl⟩ ?_
 rintro m ih ts H' ⟨i,hi,hf,hst,t0,t1,t7,t8⟩
 refine FW.inLoop ?_
 by_cases hlt:i < l.length
 ·have hd1:decide ((i:Int) < (l.length:Int))=true:=by simp[hlt]
  have hx:=hidx i hlt;have hgy:=zAj IA l 0 hlt;simp only[Int.toNat_natCast]at hx;rw[hgy]at hx;have hpi:=hp i;obtain⟨m,rfl⟩:∃ m',m=m'+1:=⟨m - 1,by omega⟩
  generalize l.getD i 0=x at hx hpi
  have hcx:=IA_cells x;have hbb:(0<=(i:Int)/\(i:Int) < ((l.map IA).length:Int)):=⟨by omega,by rw[zM]; omega⟩;refine goN ?_;simp only[push_cast,seval,↓kw2,t0,t1,t7,t8,hd1,hx,hcx]
  first
   | refine⟨hbb,?_⟩
   | refine⟨⟨hbb,rfl⟩,?_⟩
  refine hpi _ _ hlt hst ?_
  intro H2 hst2
  rw[zCv]at hf;cases hpx:pr i
  ·rw[hpx,if_neg (by decide)]at hf;refine goN ?_;simp only[push_cast,seval,↓kw2,t8];rw[zAl (n:=(i:Int)+1) (by omega) (by omega)];exact ih m (by omega) _ _ ⟨i+1,by omega,hf,hst2,t0,t1,t7,rfl⟩
  ·rw[hpx,if_pos rfl]at hf;refine goN ?_;simp only[push_cast,seval,↓kw2,t8];exact⟨_,rfl,by rw[hf]; exact hK _ ⟨i+1,by omega,hst2⟩⟩
 ·have hd1:decide ((i:Int) < (l.length:Int))=false:=by simp; omega
  have hm:m=0:=by omega
  subst hm;refine goN ?_;simp only[push_cast,seval,↓kw2,t7,t8,hd1];exact⟨_,rfl,by rw[show(-1:Int)=zBz pr l.length 0 from hf]; exact hK _ ⟨i,by omega,hst⟩⟩
theorem e80:Ent zP 80 Tryz.f80 [] 2:=.mk Tryz.func80 rfl
theorem hasI{g:Nat}{caps:List AV}{pr:Nat->Bool}{l:List Int}{s:AV}(hs:IsSl s (l.map IA))(hl:l.length<=2^20)(St:Nat->List AO->Prop)
  (hp:∀(i:Nat) (H:List AO) (K:AV->List AO->Prop),i < l.length->St i H->(∀ H',St (i+1) H'->K (B (pr i)) H')->AC zP GG g (IA (l.getD i 0)::caps) H K) {H:List AO} {K:AV->List AO->Prop} (h0:St 0 H)
  (hK:∀ H',(∃ i,i<=l.length/\St i H')->K (B (anyN pr l.length 0)) H'):AC zP GG 80 [s,.fn g [] caps] H K:=by
 simp only[<- zDw]at hK;refine goE e80 TOk.nil 0 ?_;simp only[push_cast,seval,↓kw2];refine idxI hs hl St hp h0 ?_
 intro H' hh
 refine goN ?_;simp only[push_cast,seval,↓kw2];exact⟨_,rfl,hK _ hh⟩
theorem e31:Ent zP 31 Tryz.f31 [] 2:=.mk Tryz.func31 rfl
theorem idxJ{g:Nat}{caps:List AV}{pr:Nat->Bool}{l:List Jb}{s:AV}(hs:IsSl s (l.map Jb.av))(hl:l.length<=2^20)(St:Nat->List AO->Prop)
  (hp:∀(i:Nat) (H:List AO) (K:AV->List AO->Prop),i < l.length->St i H->(∀ H',St (i+1) H'->K (B (pr i)) H')->AC zP GG g (Jb.av (l.getD i default)::caps) H K) {H:List AO} {K:AV->List AO->Prop} (h0:St 0 H)
  (hK:∀ H',(∃ i,i<=l.length/\St i H')->K (I (zBz pr l.length 0)) H'):AC zP GG 31 [s,.fn g [] caps] H K:=by
 have hlen:=hs.len un27;rw[zM]at hlen;have hidx:=fun(i:Nat) (hi:i < l.length) (H:List AO)=>hs.idx (P:=zP) un27 sz50 (i:=(i:Int)) (by rw[zM]; omega) (by omega) H
 refine goE e31 TOk.nil 0 ?_;simp only[push_cast,seval,↓kw2,hlen];refine FW.loopInv (fun m ts H'=>∃ i:Nat,i+m=l.length/\zBz pr m i=zBz pr l.length 0/\St i H'/\ts 0=s/\ts 1=.fn g [] caps/\ts 7=I (l.length:Int)/\ts 8=I (i:Int)) l.length
  ⟨0,by omega,rfl,h0,rfl,rfl,rfl,rfl⟩ ?_
 rintro m ih ts H' ⟨i,hi,hf,hst,t0,t1,t7,t8⟩
 refine FW.inLoop ?_
 by_cases hlt:i < l.length
 ·have hd1:decide ((i:Int) < (l.length:Int))=true:=by simp[hlt]
  have hx:=hidx i hlt;have hgy:=zAj Jb.av l default hlt;simp only[Int.toNat_natCast]at hx;rw[hgy]at hx;have hpi:=hp i;obtain⟨m,rfl⟩:∃ m',m=m'+1:=⟨m - 1,by omega⟩
  generalize l.getD i default=x at hx hpi
  have hcx:=Jb.cells x;have hbb:(0<=(i:Int)/\(i:Int) < ((l.map Jb.av).length:Int)):=⟨by omega,by rw[zM]; omega⟩;refine goN ?_;simp only[push_cast,seval,↓kw2,t0,t1,t7,t8,hd1,hx,hcx]
  first
   | refine⟨hbb,?_⟩
   | refine⟨⟨hbb,rfl⟩,?_⟩
  refine hpi _ _ hlt hst ?_
  intro H2 hst2
  rw[zCv]at hf;cases hpx:pr i
  ·rw[hpx,if_neg (by decide)]at hf;refine goN ?_;simp only[push_cast,seval,↓kw2,t8];rw[zAl (n:=(i:Int)+1) (by omega) (by omega)];exact ih m (by omega) _ _ ⟨i+1,by omega,hf,hst2,t0,t1,t7,rfl⟩
  ·rw[hpx,if_pos rfl]at hf;refine goN ?_;simp only[push_cast,seval,↓kw2,t8];exact⟨_,rfl,by rw[hf]; exact hK _ ⟨i+1,by omega,hst2⟩⟩
 ·have hd1:decide ((i:Int) < (l.length:Int))=false:=by simp; omega
  have hm:m=0:=by omega
  subst hm;refine goN ?_;simp only[push_cast,seval,↓kw2,t7,t8,hd1];exact⟨_,rfl,by rw[show(-1:Int)=zBz pr l.length 0 from hf]; exact hK _ ⟨i,by omega,hst⟩⟩
theorem e68:Ent zP 68 Tryz.f68 [] 2:=.mk Tryz.func68 rfl
theorem hasJ{g:Nat}{caps:List AV}{pr:Nat->Bool}{l:List Jb}{s:AV}(hs:IsSl s (l.map Jb.av))(hl:l.length<=2^20)(St:Nat->List AO->Prop)
  (hp:∀(i:Nat) (H:List AO) (K:AV->List AO->Prop),i < l.length->St i H->(∀ H',St (i+1) H'->K (B (pr i)) H')->AC zP GG g (Jb.av (l.getD i default)::caps) H K) {H:List AO} {K:AV->List AO->Prop} (h0:St 0 H)
  (hK:∀ H',(∃ i,i<=l.length/\St i H')->K (B (anyN pr l.length 0)) H'):AC zP GG 68 [s,.fn g [] caps] H K:=by
 simp only[<- zDw]at hK;refine goE e68 TOk.nil 0 ?_;simp only[push_cast,seval,↓kw2];refine idxJ hs hl St hp h0 ?_
 intro H' hh
 refine goN ?_;simp only[push_cast,seval,↓kw2];exact⟨_,rfl,hK _ hh⟩
theorem e134:Ent zP 134 Tryz.f134 [] 2:=.mk Tryz.func134 rfl
theorem idxP{g:Nat}{caps:List AV}{pr:Nat->Bool}{l:List Prt}{s:AV}(hs:IsSl s (l.map Prt.av))(hl:l.length<=2^20)(St:Nat->List AO->Prop)
  (hp:∀(i:Nat) (H:List AO) (K:AV->List AO->Prop),i < l.length->St i H->(∀ H',St (i+1) H'->K (B (pr i)) H')->AC zP GG g (Prt.av (l.getD i default)::caps) H K) {H:List AO} {K:AV->List AO->Prop} (h0:St 0 H)
  (hK:∀ H',(∃ i,i<=l.length/\St i H')->K (I (zBz pr l.length 0)) H'):AC zP GG 134 [s,.fn g [] caps] H K:=by
 have hlen:=hs.len un28;rw[zM]at hlen;have hidx:=fun(i:Nat) (hi:i < l.length) (H:List AO)=>hs.idx (P:=zP) un28 sz65 (i:=(i:Int)) (by rw[zM]; omega) (by omega) H
 refine goE e134 TOk.nil 0 ?_;simp only[push_cast,seval,↓kw2,hlen];refine FW.loopInv (fun m ts H'=>∃ i:Nat,i+m=l.length/\zBz pr m i=zBz pr l.length 0/\St i H'/\ts 0=s/\ts 1=.fn g [] caps/\ts 7=I (l.length:Int)/\ts 8=I (i:Int)) l.length
  ⟨0,by omega,rfl,h0,rfl,rfl,rfl,rfl⟩ ?_
 rintro m ih ts H' ⟨i,hi,hf,hst,t0,t1,t7,t8⟩
 refine FW.inLoop ?_
 by_cases hlt:i < l.length
 ·have hd1:decide ((i:Int) < (l.length:Int))=true:=by simp[hlt]
  have hx:=hidx i hlt;have hgy:=zAj Prt.av l default hlt;simp only[Int.toNat_natCast]at hx;rw[hgy]at hx;have hpi:=hp i;obtain⟨m,rfl⟩:∃ m',m=m'+1:=⟨m - 1,by omega⟩
  generalize l.getD i default=x at hx hpi
  have hcx:=Prt.cells x;have hbb:(0<=(i:Int)/\(i:Int) < ((l.map Prt.av).length:Int)):=⟨by omega,by rw[zM]; omega⟩;refine goN ?_;simp only[push_cast,seval,↓kw2,t0,t1,t7,t8,hd1,hx,hcx]
  first
   | refine⟨hbb,?_⟩
   | refine⟨⟨hbb,rfl⟩,?_⟩
  refine hpi _ _ hlt hst ?_
  intro H2 hst2
  rw[zCv]at hf;cases hpx:pr i
  ·rw[hpx,if_neg (by decide)]at hf;refine goN ?_;simp only[push_cast,seval,↓kw2,t8];rw[zAl (n:=(i:Int)+1) (by omega) (by omega)];exact ih m (by omega) _ _ ⟨i+1,by omega,hf,hst2,t0,t1,t7,rfl⟩
  ·rw[hpx,if_pos rfl]at hf;refine goN ?_;simp only[push_cast,seval,↓kw2,t8];exact⟨_,rfl,by rw[hf]; exact hK _ ⟨i+1,by omega,hst2⟩⟩
 ·have hd1:decide ((i:Int) < (l.length:Int))=false:=by simp; omega
  have hm:m=0:=by omega
  subst hm;refine goN ?_;simp only[push_cast,seval,↓kw2,t7,t8,hd1];exact⟨_,rfl,by rw[show(-1:Int)=zBz pr l.length 0 from hf]; exact hK _ ⟨i,by omega,hst⟩⟩
theorem e72:Ent zP 72 Tryz.f72 [] 2:=.mk Tryz.func72 rfl
theorem hasP{g:Nat}{caps:List AV}{pr:Nat->Bool}{l:List Prt}{s:AV}(hs:IsSl s (l.map Prt.av))(hl:l.length<=2^20)(St:Nat->List AO->Prop)
  (hp:∀(i:Nat) (H:List AO) (K:AV->List AO->Prop),i < l.length->St i H->(∀ H',St (i+1) H'->K (B (pr i)) H')->AC zP GG g (Prt.av (l.getD i default)::caps) H K) {H:List AO} {K:AV->List AO->Prop} (h0:St 0 H)
  (hK:∀ H',(∃ i,i<=l.length/\St i H')->K (B (anyN pr l.length 0)) H'):AC zP GG 72 [s,.fn g [] caps] H K:=by
 simp only[<- zDw]at hK;refine goE e72 TOk.nil 0 ?_;simp only[push_cast,seval,↓kw2];refine idxP hs hl St hp h0 ?_
 intro H' hh
 refine goN ?_;simp only[push_cast,seval,↓kw2];exact⟨_,rfl,hK _ hh⟩
theorem e200:Ent zP 200 Tryz.f200 [] 2:=.mk Tryz.func200 rfl
theorem idxK{g:Nat}{caps:List AV}{pr:Nat->Bool}{l:List Kep}{s:AV}(hs:IsSl s (l.map Kep.av))(hl:l.length<=2^20)(St:Nat->List AO->Prop)
  (hp:∀(i:Nat) (H:List AO) (K:AV->List AO->Prop),i < l.length->St i H->(∀ H',St (i+1) H'->K (B (pr i)) H')->AC zP GG g (Kep.av (l.getD i default)::caps) H K) {H:List AO} {K:AV->List AO->Prop} (h0:St 0 H)
  (hK:∀ H',(∃ i,i<=l.length/\St i H')->K (I (zBz pr l.length 0)) H'):AC zP GG 200 [s,.fn g [] caps] H K:=by
 have hlen:=hs.len un29;rw[zM]at hlen;have hidx:=fun(i:Nat) (hi:i < l.length) (H:List AO)=>hs.idx (P:=zP) un29 sz98 (i:=(i:Int)) (by rw[zM]; omega) (by omega) H
 refine goE e200 TOk.nil 0 ?_;simp only[push_cast,seval,↓kw2,hlen];refine FW.loopInv (fun m ts H'=>∃ i:Nat,i+m=l.length/\zBz pr m i=zBz pr l.length 0/\St i H'/\ts 0=s/\ts 1=.fn g [] caps/\ts 7=I (l.length:Int)/\ts 8=I (i:Int)) l.length
  ⟨0,by omega,rfl,h0,rfl,rfl,rfl,rfl⟩ ?_
 rintro m ih ts H' ⟨i,hi,hf,hst,t0,t1,t7,t8⟩
 refine FW.inLoop ?_
 by_cases hlt:i < l.length
 ·have hd1:decide ((i:Int) < (l.length:Int))=true:=by simp[hlt]
  have hx:=hidx i hlt;have hgy:=zAj Kep.av l default hlt;simp only[Int.toNat_natCast]at hx;rw[hgy]at hx;have hpi:=hp i;obtain⟨m,rfl⟩:∃ m',m=m'+1:=⟨m - 1,by omega⟩
  generalize l.getD i default=x at hx hpi
  have hcx:=Kep.cells x;have hbb:(0<=(i:Int)/\(i:Int) < ((l.map Kep.av).length:Int)):=⟨by omega,by rw[zM]; omega⟩;refine goN ?_;simp only[push_cast,seval,↓kw2,t0,t1,t7,t8,hd1,hx,hcx]
  first
   | refine⟨hbb,?_⟩
   | refine⟨⟨hbb,rfl⟩,?_⟩
  refine hpi _ _ hlt hst ?_
  intro H2 hst2
  rw[zCv]at hf;cases hpx:pr i
  ·rw[hpx,if_neg (by decide)]at hf;refine goN ?_;simp only[push_cast,seval,↓kw2,t8];rw[zAl (n:=(i:Int)+1) (by omega) (by omega)];exact ih m (by omega) _ _ ⟨i+1,by omega,hf,hst2,t0,t1,t7,rfl⟩
  ·rw[hpx,if_pos rfl]at hf;refine goN ?_;simp only[push_cast,seval,↓kw2,t8];exact⟨_,rfl,by rw[hf]; exact hK _ ⟨i+1,by omega,hst2⟩⟩
 ·have hd1:decide ((i:Int) < (l.length:Int))=false:=by simp; omega
  have hm:m=0:=by omega
  subst hm;refine goN ?_;simp only[push_cast,seval,↓kw2,t7,t8,hd1];exact⟨_,rfl,by rw[show(-1:Int)=zBz pr l.length 0 from hf]; exact hK _ ⟨i,by omega,hst⟩⟩
theorem e137:Ent zP 137 Tryz.f137 [] 2:=.mk Tryz.func137 rfl
theorem hasK{g:Nat}{caps:List AV}{pr:Nat->Bool}{l:List Kep}{s:AV}(hs:IsSl s (l.map Kep.av))(hl:l.length<=2^20)(St:Nat->List AO->Prop)
  (hp:∀(i:Nat) (H:List AO) (K:AV->List AO->Prop),i < l.length->St i H->(∀ H',St (i+1) H'->K (B (pr i)) H')->AC zP GG g (Kep.av (l.getD i default)::caps) H K) {H:List AO} {K:AV->List AO->Prop} (h0:St 0 H)
  (hK:∀ H',(∃ i,i<=l.length/\St i H')->K (B (anyN pr l.length 0)) H'):AC zP GG 137 [s,.fn g [] caps] H K:=by
 simp only[<- zDw]at hK;refine goE e137 TOk.nil 0 ?_;simp only[push_cast,seval,↓kw2];refine idxK hs hl St hp h0 ?_
 intro H' hh
 refine goN ?_;simp only[push_cast,seval,↓kw2];exact⟨_,rfl,hK _ hh⟩
theorem e121:Ent zP 121 Tryz.f121 [] 2:=.mk Tryz.func121 rfl
theorem idxU{g:Nat}{caps:List AV}{pr:Nat->Bool}{l:List Int}{s:AV}(hs:IsSl s (l.map U))(hl:l.length<=2^20)(St:Nat->List AO->Prop)
  (hp:∀(i:Nat) (H:List AO) (K:AV->List AO->Prop),i < l.length->St i H->(∀ H',St (i+1) H'->K (B (pr i)) H')->AC zP GG g (U (l.getD i 0)::caps) H K) {H:List AO} {K:AV->List AO->Prop} (h0:St 0 H)
  (hK:∀ H',(∃ i,i<=l.length/\St i H')->K (I (zBz pr l.length 0)) H'):AC zP GG 121 [s,.fn g [] caps] H K:=by
 have hlen:=hs.len un74;rw[zM]at hlen;have hidx:=fun(i:Nat) (hi:i < l.length) (H:List AO)=>hs.idx (P:=zP) un74 sz129 (i:=(i:Int)) (by rw[zM]; omega) (by omega) H
 refine goE e121 TOk.nil 0 ?_;simp only[push_cast,seval,↓kw2,hlen];refine FW.loopInv (fun m ts H'=>∃ i:Nat,i+m=l.length/\zBz pr m i=zBz pr l.length 0/\St i H'/\ts 0=s/\ts 1=.fn g [] caps/\ts 7=I (l.length:Int)/\ts 8=I (i:Int)) l.length
  ⟨0,by omega,rfl,h0,rfl,rfl,rfl,rfl⟩ ?_
 rintro m ih ts H' ⟨i,hi,hf,hst,t0,t1,t7,t8⟩
 refine FW.inLoop ?_
 by_cases hlt:i < l.length
 ·have hd1:decide ((i:Int) < (l.length:Int))=true:=by simp[hlt]
  have hx:=hidx i hlt;have hgy:=zAj U l 0 hlt;simp only[Int.toNat_natCast]at hx;rw[hgy]at hx;have hpi:=hp i;obtain⟨m,rfl⟩:∃ m',m=m'+1:=⟨m - 1,by omega⟩
  generalize l.getD i 0=x at hx hpi
  have hcx:=U_cells x;have hbb:(0<=(i:Int)/\(i:Int) < ((l.map U).length:Int)):=⟨by omega,by rw[zM]; omega⟩;refine goN ?_;simp only[push_cast,seval,↓kw2,t0,t1,t7,t8,hd1,hx,hcx]
  first
   | refine⟨hbb,?_⟩
   | refine⟨⟨hbb,rfl⟩,?_⟩
  refine hpi _ _ hlt hst ?_
  intro H2 hst2
  rw[zCv]at hf;cases hpx:pr i
  ·rw[hpx,if_neg (by decide)]at hf;refine goN ?_;simp only[push_cast,seval,↓kw2,t8];rw[zAl (n:=(i:Int)+1) (by omega) (by omega)];exact ih m (by omega) _ _ ⟨i+1,by omega,hf,hst2,t0,t1,t7,rfl⟩
  ·rw[hpx,if_pos rfl]at hf;refine goN ?_;simp only[push_cast,seval,↓kw2,t8];exact⟨_,rfl,by rw[hf]; exact hK _ ⟨i+1,by omega,hst2⟩⟩
 ·have hd1:decide ((i:Int) < (l.length:Int))=false:=by simp; omega
  have hm:m=0:=by omega
  subst hm;refine goN ?_;simp only[push_cast,seval,↓kw2,t7,t8,hd1];exact⟨_,rfl,by rw[show(-1:Int)=zBz pr l.length 0 from hf]; exact hK _ ⟨i,by omega,hst⟩⟩
theorem e63:Ent zP 63 Tryz.f63 [] 2:=.mk Tryz.func63 rfl
theorem hasU{g:Nat}{caps:List AV}{pr:Nat->Bool}{l:List Int}{s:AV}(hs:IsSl s (l.map U))(hl:l.length<=2^20)(St:Nat->List AO->Prop)
  (hp:∀(i:Nat) (H:List AO) (K:AV->List AO->Prop),i < l.length->St i H->(∀ H',St (i+1) H'->K (B (pr i)) H')->AC zP GG g (U (l.getD i 0)::caps) H K) {H:List AO} {K:AV->List AO->Prop} (h0:St 0 H)
  (hK:∀ H',(∃ i,i<=l.length/\St i H')->K (B (anyN pr l.length 0)) H'):AC zP GG 63 [s,.fn g [] caps] H K:=by
 simp only[<- zDw]at hK;refine goE e63 TOk.nil 0 ?_;simp only[push_cast,seval,↓kw2];refine idxU hs hl St hp h0 ?_
 intro H' hh
 refine goN ?_;simp only[push_cast,seval,↓kw2];exact⟨_,rfl,hK _ hh⟩
def JobsS(s:AV)(l:List Jb):Prop:=IsSl s (l.map Jb.av)/\∀ j∈l,j.good
theorem purL_jobs:∀ {l:List Jb},(∀ j∈l,j.good)->AV.purL (l.map Jb.av)=true
 | [],_=>rfl
 | j::l,h=>by
  show(j.av.pur&&AV.purL (l.map Jb.av))=true;rw[Jb.pur (h j (by simp)),purL_jobs fun x hx=>h x (by simp[hx])]; rfl
theorem JobsS.pur{s:AV}{l:List Jb}(h:JobsS s l):s.pur=true:=h.1.pur (purL_jobs h.2)
theorem JobsS.get{s:AV}{l:List Jb}(h:JobsS s l)(i:Nat):(l.getD i default).good:=by
 by_cases hi:i < l.length
 ·have:l.getD i default=l[i]:=by simp[List.getD,hi]
  rw[this]; exact h.2 _ (List.getElem_mem hi)
 ·have:l.getD i default=default:=by simp[List.getD,List.getElem?_eq_none (by omega:l.length<=i)]
  rw[this]; exact Jb.good_default
def findN(l:List Jb)(id:Int):Int:=zBz (fun i=>decide ((l.getD i default).id=id)) l.length 0
theorem e32:Ent zP 32 Tryz.f32 [] 2:=.mk Tryz.func32 rfl
theorem find1_ac{j:Jb}(hj:j.good){id:Int}{H:List AO}{q:Nat}(h0:H[q]?=some (.cells [I id])){K:AV->List AO->Prop}(hK:∀ l,K (B (decide (j.id=id))) (H++l)):AC zP GG 32 [j.av,.ptr q 0] H K:=by
 obtain⟨m1,m2,m3⟩:=IsSl.cell hj;have h0':∀ l,(H++l)[q]?=some (.cells [I id]):=fun l=>(zL (zAc h0)).trans h0
 show AC zP GG 32 [JB j.id j.user j.cls j.w j.wall j.prio j.held j.aft j.st j.came,.ptr q 0] H K;refine goE e32 TOk.nil 0 ?_;simp only[push_cast,seval,↓kw2,m1,m2,m3,h0,h0',zAd,getA,zAe,setA,zAb];exact⟨_,rfl,hK _⟩
theorem e11:Ent zP 11 Tryz.f11 [] 2:=.mk Tryz.func11 rfl
theorem zFc{s:AV}{l:List Jb}(hs:JobsS s l)(hl:l.length<=2^20)(id:Int):Pur zP GG 11 [s,I id] (.tup [I (if findN l id < 0 then 0 else findN l id),I (if findN l id < 0 then 6 else 0)]):=by
 have hpu:=hs.pur;obtain⟨k1,k2,k3⟩:=hs.1.cell;refine goQ e11 TOk.nil 0 ?_ (by simp[AV.purL,AV.pur,hpu]);simp only[push_cast,seval,↓kw2,k1,k2,k3];refine idxJ hs.1 hl (fun _ H=>∃ l,H=AO.cells [I id]::l) (pr:=fun i=>decide ((l.getD i default).id=id)) ?_ ⟨[],rfl⟩ ?_
 ·rintro i H K hi ⟨l',rfl⟩ hK
  exact find1_ac (hs.get i) rfl fun l2=>hK _ ⟨l'++l2,rfl⟩
 rintro H' ⟨_,_,l',rfl⟩
 show FW _ _ _ _ _ (upd _ _ (I (findN l id))) _ _
 by_cases h:findN l id < 0
 ·rw[if_pos h,if_pos h];refine goN ?_;simp only[push_cast,seval,↓kw2,h];exact⟨_,rfl,zAa rfl rfl⟩
 ·rw[if_neg h,if_neg h];refine goN ?_;simp only[push_cast,seval,↓kw2,h];exact⟨_,rfl,zAa rfl rfl⟩
theorem e143:Ent zP 143 Tryz.f143 [] 2:=.mk Tryz.func143 rfl
def isJ(l:List Jb)(id:Int):Bool:=decide (0<=findN l id)
theorem has_j{s:AV}{l:List Jb}(hs:JobsS s l)(hl:l.length<=2^20)(id:Int):Pur zP GG 143 [s,I id] (B (isJ l id)):=by
 have hpu:=hs.pur;obtain⟨k1,k2,k3⟩:=hs.1.cell;have hf:=zFc hs hl id;unfold isJ
 by_cases h:findN l id < 0
 ·rw[if_pos h,if_pos h]at hf;rw[zF (by omega)];refine goQ e143 TOk.nil 0 ?_ (by simp[AV.purL,AV.pur,hpu]);simp only[push_cast,seval,↓kw2,k1,k2,k3];refine AC.pur hf ?_;refine goN ?_;simp only[push_cast,seval,↓kw2];exact⟨_,rfl,zAa rfl rfl⟩
 ·rw[if_neg h,if_neg h]at hf;rw[zT (by omega)];refine goQ e143 TOk.nil 0 ?_ (by simp[AV.purL,AV.pur,hpu]);simp only[push_cast,seval,↓kw2,k1,k2,k3];refine AC.pur hf ?_;refine goN ?_;simp only[push_cast,seval,↓kw2];exact⟨_,rfl,zAa rfl rfl⟩
def oddA(j:Jb)(i:Nat):Bool:=decide (j.after.getD i 0<=(if i=0 then 0 else j.after.getD (i - 1) 0))||decide (j.id<=j.after.getD i 0)
def Jb.rises(j:Jb):Bool:=decide ((j.after.length:Int)<=4)&&!anyN (oddA j) j.after.length 0
theorem e250:Ent zP 250 Tryz.f250 [] 3:=.mk Tryz.func250 rfl
theorem after1_ac{j:Jb}(hj:j.good){last k:Int}{H:List AO}{q r:Nat}(hq:H[q]?=some (.cells [I last]))(hr:H[r]?=some (.cells j.av.cells)){K:AV->List AO->Prop}
  (hK:K (B (decide (k<=last)||decide (j.id<=k))) (H.set q (.cells [I k]))):AC zP GG 250 [I k,.ptr q 0,.ptr r 0] H K:=by
 obtain⟨m1,m2,m3⟩:=IsSl.cell hj;rw[Jb.cells]at hr
 by_cases h1:k<=last
 ·have d1:=zT h1;rw[d1,Bool.true_or]at hK;refine goE e250 TOk.nil 0 ?_;simp only[push_cast,seval,↓kw2,hq,hr,d1];exact⟨_,rfl,hK⟩
 ·have d1:=zF h1;rw[d1,Bool.false_or]at hK;refine goE e250 TOk.nil 0 ?_;simp only[push_cast,seval,↓kw2,hq,hr,d1];exact⟨_,rfl,hK⟩
theorem e202:Ent zP 202 Tryz.f202 [] 1:=.mk Tryz.func202 rfl
theorem after_pur{j:Jb}(hj:j.good):Pur zP GG 202 [j.av] (B j.rises):=by
 have hpj:=IsSl.pur hj (zAi IA _ (fun _=>rfl));obtain⟨m1,m2,m3⟩:=IsSl.cell hj;have hlen:=IsSl.len hj un30;rw[zM]at hlen;unfold Jb.rises;show Pur zP GG 202 [JB j.id j.user j.cls j.w j.wall j.prio j.held j.aft j.st j.came] _
 by_cases h4:(j.after.length:Int)<=4
 ·rw[zT h4];have d4:=zT h4;refine goQ e202 TOk.nil 0 ?_ (by simp[AV.purL,AV.pur,hpj]);simp only[push_cast,seval,↓kw2,m1,m2,m3,hlen,d4];refine hasI hj (by omega) (fun i H=>H=[AO.cells j.av.cells,AO.cells [I (if i=0 then 0 else j.after.getD (i - 1) 0)]]) (pr:=oddA j) ?_ rfl ?_
  ·rintro i H K hi rfl hK
   refine after1_ac hj (q:=1) (r:=0) rfl rfl ?_;exact hK _ (by simp)
  rintro H' ⟨_,_,rfl⟩
  refine goN ?_;simp only[push_cast,seval,↓kw2];exact⟨_,rfl,zAa rfl (by simp)⟩
 ·rw[zF h4];have d4:=zF h4;refine goQ e202 TOk.nil 0 ?_ (by simp[AV.purL,AV.pur,hpj]);simp only[push_cast,seval,↓kw2,m1,m2,m3,hlen,d4];exact⟨_,rfl,zAa rfl rfl⟩
def fitT(a b c:Int)(t:Wnt):Prop:=t.p<=a/\t.q<=b/\t.r<=c
instance (a b c:Int) (t:Wnt):Decidable (fitT a b c t):=by unfold fitT; infer_instance
theorem e251:Ent zP 251 Tryz.f251 [] 2:=.mk Tryz.func251 rfl
theorem fits1_pur(a b c:Int)(t:Wnt):Pur zP GG 251 [t.av,.iptr [I a,I b,I c] 0] (B (decide (fitT a b c t))):=by
 show Pur zP GG 251 [WT t.p t.q t.r t.s t.t t.u t.v,.iptr [I a,I b,I c] 0] _
 by_cases h1:t.p<=a
 ·have d1:=zT h1
  by_cases h2:t.q<=b
  ·have d2:=zT h2;refine goQ e251 TOk.nil 0 ?_;simp only[push_cast,seval,↓kw2,d1,d2];exact⟨_,rfl,zAa rfl (by unfold fitT; simp[h1,h2])⟩
  ·have d2:=zF h2;refine goQ e251 TOk.nil 0 ?_;simp only[push_cast,seval,↓kw2,d1,d2];exact⟨_,rfl,zAa rfl (by unfold fitT; simp[h1,h2])⟩
 ·have d1:=zF h1;refine goQ e251 TOk.nil 0 ?_;simp only[push_cast,seval,↓kw2,d1];exact⟨_,rfl,zAa rfl (by unfold fitT; simp[h1])⟩
theorem e203:Ent zP 203 Tryz.f203 [] 2:=.mk Tryz.func203 rfl
theorem fits_pur{a b c:Int}(hd:okD a b c)(w:Wnt)(hw:okW w.p w.q w.r):Pur zP GG 203 [.agg [I a,I b,I c],w.av] (.tup [B (w.turns.any fun t=>decide (fitT a b c t)),I 0]):=by
 have hk:=chk_ok.2 hd;show Pur zP GG 203 [.agg [I a,I b,I c],WT w.p w.q w.r w.s w.t w.u w.v] _;refine goQ e203 S4_ok 0 ?_;simp only[push_cast,seval,↓kw2,hk];refine AC.pur (turnsA_pur w hw) ?_;refine goW S4_ok [] 0 ?_;simp only[push_cast,seval,↓kw2];refine containsW (pr:=fun t=>decide (fitT a b c t)) (by have:=w.turns_len; omega) ?_ ?_
 ·intro t K ht hK
  refine AC.view ggp (n:=3) (args':=[t.av,.iptr [I a,I b,I c] 0]) ?_ ?_ rfl (fits1_pur a b c t) hK
  ·simp[mapO,frz,Wnt.pur,AV.pur]
  ·simp[AV.purL,AV.pur,Wnt.pur]
 ·skip
  refine goW S4_ok [] 0 ?_;simp only[push_cast,seval,↓kw2];exact⟨_,rfl,zAa rfl rfl⟩
def Jb.cl(x:Cfg)(j:Jb):Cls:=x.cls.getD j.cls.toNat default
def Jb.fits(x:Cfg)(j:Jb):Bool:=j.w.turns.any fun t=>decide (fitT x.a x.b x.c t)
def Jb.chk(x:Cfg)(j:Jb):Int :=
 if j.plain x=true then (if j.rises=true then (if wchk j.w.p j.w.q j.w.r=0 then (if j.fits x=true then (if (j.cl x).b < j.wall\/(j.cl x).c < j.w.p*j.w.q*j.w.r then 181 else 0) else 180) else 2) else 182) else 2
theorem FW.walkD{P:Program}{G:Gl}(hm:P.follows .mixedOrders=true){ops:Array Oper}{imp:Nat->Bool}{A:Nat->Bool}{ex:Nat->List Nat}(hA:∀ a,A a=true->a < ops.size)(hD:delayB ops A ex=true){l:List (Nat × Bool)}(hB:ordGB (dl A ex ops) imp l=true)(hq:qtB (dl A ex ops) l=true)
  {rd:Option Nat} {n id:Nat} {k:List Item} {Q:Lv->(Nat->AV)->List AO->Prop} {ts:Nat->AV} {H:List AO}
  (h:symG P G Tab.nil (dl A ex ops) (wt (dl A ex ops)) imp (fun _ ts H=>FW P G rd n k ts H Q) true l Go.Ab.WT ts H):FW P G rd n (.code (.region id ops true)::k) ts H Q :=
 FW.drawD hm hA hD hB (symG_runG (fun _ _ h=>h) l _ _ _ hq h)
def A90:Nat->Bool:=fun i=>i==9||i==10
def ex90:Nat->List Nat:=fun i=>if i=10 then [9] else []
def imp90:Nat->Bool:=fun i=>i==11
def ord90:List (Nat × Bool):=[(0,true),(1,true),(2,true),(3,true),(4,true),(5,true),(6,true),(7,true),(8,true),(9,false),(10,false),(11,false),(12,false)]
theorem okW_mul{p q r:Int}(h:okW p q r):-9223372036854775808<=p*q/\p*q < 9223372036854775808/\-9223372036854775808<=p*q*r/\p*q*r < 9223372036854775808:=by
 unfold okW at h;have m1:0<=p*q:=Int.mul_nonneg (by omega) (by omega);have m2:p*q<=16*16:=Int.mul_le_mul h.1.2 h.2.1.2 (by omega) (by omega);have m3:0<=p*q*r:=Int.mul_nonneg m1 (by omega);have m4:p*q*r<=256*16:=Int.mul_le_mul (by omega) h.2.2.2 (by omega) (by omega);omega
theorem e141:Ent zP 141 Tryz.f141 [7] 2:=.mk Tryz.func141 rfl
theorem jchk_pur(x:Cfg)(hm:x.may=true){j:Jb}{s:AV}(hs:IsSl s (x.cls.map Cls.av))(hj:j.good):Pur zP GG 141 [x.av s,j.av] (I (j.chk x)):=by
 have hpu:=hs.pur (zAi Cls.av _ (fun _=>rfl));have hpj:=IsSl.pur hj (zAi IA _ (fun _=>rfl));obtain⟨k1,k2,k3⟩:=hs.cell;obtain⟨m1,m2,m3⟩:=IsSl.cell hj;have hm':=hm;unfold Cfg.may at hm';simp only[zA,decide_eq_true_eq,witV_t]at hm';have hd:okD x.a x.b x.c:=hm'.1.1.1.1;have hl4:=hm'.1.2.2;have hp:=jplain_pur x hs (by omega) hj;have ha:=after_pur hj;simp only[Cfg.av,Jb.av]at hp ha;unfold Jb.chk;show Pur zP GG 141 [CF x.a x.b x.c x.boot x.free x.tries x.age s,JB j.id j.user j.cls j.w j.wall j.prio j.held j.aft j.st j.came] _;cases h1:j.plain x
 ·rw[h1]at hp;rw[if_neg (by decide)];refine goQ e141 zBf 0 ?_ (by simp[AV.purL,AV.pur,hpu,hpj]);simp only[push_cast,seval,↓kw2,k1,k2,k3,m1,m2,m3];refine AC.pur hp ?_;refine goW zBf [7] 0 ?_;simp only[push_cast,seval,↓kw2,k1,k2,k3,m1,m2,m3];exact⟨_,rfl,zAa rfl rfl⟩
 rw[h1]at hp;rw[if_pos rfl];cases h2:j.rises
 ·rw[h2]at ha;rw[if_neg (by decide)];refine goQ e141 zBf 0 ?_ (by simp[AV.purL,AV.pur,hpu,hpj]);simp only[push_cast,seval,↓kw2,k1,k2,k3,m1,m2,m3];refine AC.pur hp ?_;refine goW zBf [7] 0 ?_;simp only[push_cast,seval,↓kw2,k1,k2,k3,m1,m2,m3];refine AC.pur ha ?_;refine goW zBf [7] 0 ?_;simp only[push_cast,seval,↓kw2,k1,k2,k3,m1,m2,m3];exact⟨_,rfl,zAa rfl rfl⟩
 rw[h2]at ha;rw[if_pos rfl]
 by_cases h3:wchk j.w.p j.w.q j.w.r=0
 ·rw[if_pos h3];have hw:okW j.w.p j.w.q j.w.r:=by
   unfold wchk at h3
   split at h3
   ·assumption
   ·cases h3
  have hf:=fits_pur hd j.w hw;simp only[Wnt.av]at hf;have hcl:0<=j.cls/\j.cls.toNat < x.cls.length:=by
   have:=h1;unfold Jb.plain at this;simp only[zA,witV_t]at this;omega
  have hx:=hs.idx (P:=zP) un24 sz93 (i:=j.cls) (by rw[zM]; omega) hcl.1;have hgy:=zAj Cls.av x.cls default hcl.2;rw[hgy]at hx;have hbb:(0<=j.cls/\j.cls < ((x.cls.map Cls.av).length:Int)):=⟨hcl.1,by rw[zM]; omega⟩;have hcc:=Cls.cells (x.cls.getD j.cls.toNat default);unfold Jb.fits Jb.cl;cases h4:(j.w.turns.any fun t=>decide (fitT x.a x.b x.c t))
  ·rw[h4]at hf;rw[if_neg (by decide)];refine goQ e141 zBf 0 ?_ (by simp[AV.purL,AV.pur,hpu,hpj]);simp only[push_cast,seval,↓kw2,k1,k2,k3,m1,m2,m3];refine AC.pur hp ?_;refine goW zBf [7] 0 ?_;simp only[push_cast,seval,↓kw2,k1,k2,k3,m1,m2,m3];refine AC.pur ha ?_;refine goW zBf [7] 0 ?_;simp only[push_cast,seval,↓kw2,k1,k2,k3,m1,m2,m3,h3,List.contains_cons,Bool.true_or,Bool.false_or,Bool.or_true];refine FW.walkD hmix (A:=A90) (ex:=ex90) (imp:=imp90) (l:=ord90) (fun a ha=>by unfold A90 at ha; simp at ha; rcases ha with rfl | rfl <;> decide) (by kernel_rfl) (by kernel_rfl) (by kernel_rfl) ?_;simp only[ord90];simp only[push_cast,seval,↓kw2,zBn,zBm,zAr,↓zAq,Bool.or_false,Bool.or_true,Bool.true_or,Bool.false_or,Bool.or_self,Nat.add_assoc,zAx,zCq,wat,clOf,Int.toNat_natCast,zFh,dlO,A90,ex90,imp90,k1,k2,k3,m1,m2,m3,hx,hcc];refine⟨hbb,fun _=>by simp only[eq_true hbb],?_⟩;refine goW zBf [7] 0 ?_;simp only[push_cast,seval,↓kw2,k1,k2,k3,m1,m2,m3];refine AC.pur hf ?_;refine goW zBf [7] 0 ?_;simp only[push_cast,seval,↓kw2];exact⟨_,rfl,zAa rfl rfl⟩
  ·rw[h4]at hf;rw[if_pos rfl];have hv1:=zAl (n:=j.w.p*j.w.q) (okW_mul hw).1 (okW_mul hw).2.1;have hv2:=zAl (n:=j.w.p*j.w.q*j.w.r) (okW_mul hw).2.2.1 (okW_mul hw).2.2.2
   by_cases h5:(x.cls.getD j.cls.toNat default).b < j.wall
   ·rw[if_pos (.inl h5)];have d5:=zT h5;refine goQ e141 zBf 0 ?_ (by simp[AV.purL,AV.pur,hpu,hpj]);simp only[push_cast,seval,↓kw2,k1,k2,k3,m1,m2,m3];refine AC.pur hp ?_;refine goW zBf [7] 0 ?_;simp only[push_cast,seval,↓kw2,k1,k2,k3,m1,m2,m3];refine AC.pur ha ?_;refine goW zBf [7] 0 ?_;simp only[push_cast,seval,↓kw2,k1,k2,k3,m1,m2,m3,h3,List.contains_cons,Bool.true_or,Bool.false_or,Bool.or_true];refine FW.walkD hmix (A:=A90) (ex:=ex90) (imp:=imp90) (l:=ord90) (fun a ha=>by unfold A90 at ha; simp at ha; rcases ha with rfl | rfl <;> decide) (by kernel_rfl) (by kernel_rfl) (by kernel_rfl) ?_;simp only[ord90];simp only[push_cast,seval,↓kw2,zBn,zBm,zAr,↓zAq,Bool.or_false,Bool.or_true,Bool.true_or,Bool.false_or,Bool.or_self,Nat.add_assoc,zAx,zCq,wat,clOf,Int.toNat_natCast,zFh,dlO,A90,ex90,imp90,k1,k2,k3,m1,m2,m3,hx,hcc];refine⟨hbb,fun _=>by simp only[eq_true hbb],?_⟩;refine goW zBf [7] 0 ?_;simp only[push_cast,seval,↓kw2,k1,k2,k3,m1,m2,m3];refine AC.pur hf ?_;refine goW zBf [7] 0 ?_;simp only[push_cast,seval,↓kw2,d5];exact⟨_,rfl,zAa rfl rfl⟩
   ·have d5:=zF h5
    by_cases h6:(x.cls.getD j.cls.toNat default).c < j.w.p*j.w.q*j.w.r
    ·rw[if_pos (.inr h6)];have d6:=zT h6;refine goQ e141 zBf 0 ?_ (by simp[AV.purL,AV.pur,hpu,hpj]);simp only[push_cast,seval,↓kw2,k1,k2,k3,m1,m2,m3];refine AC.pur hp ?_;refine goW zBf [7] 0 ?_;simp only[push_cast,seval,↓kw2,k1,k2,k3,m1,m2,m3];refine AC.pur ha ?_;refine goW zBf [7] 0 ?_;simp only[push_cast,seval,↓kw2,k1,k2,k3,m1,m2,m3,h3,List.contains_cons,Bool.true_or,Bool.false_or,Bool.or_true];refine FW.walkD hmix (A:=A90) (ex:=ex90) (imp:=imp90) (l:=ord90) (fun a ha=>by unfold A90 at ha; simp at ha; rcases ha with rfl | rfl <;> decide) (by kernel_rfl) (by kernel_rfl) (by kernel_rfl) ?_;simp only[ord90];simp only[push_cast,seval,↓kw2,zBn,zBm,zAr,↓zAq,Bool.or_false,Bool.or_true,Bool.true_or,Bool.false_or,Bool.or_self,Nat.add_assoc,zAx,zCq,wat,clOf,Int.toNat_natCast,zFh,dlO,A90,ex90,imp90,k1,k2,k3,m1,m2,m3,hx,hcc];refine⟨hbb,fun _=>by simp only[eq_true hbb],?_⟩;refine goW zBf [7] 0 ?_;simp only[push_cast,seval,↓kw2,k1,k2,k3,m1,m2,m3];refine AC.pur hf ?_;refine goW zBf [7] 0 ?_;simp only[push_cast,seval,↓kw2,d5,d6,hv1,hv2];exact⟨_,rfl,zAa rfl rfl⟩
    ·rw[if_neg (fun h=>h.elim h5 h6)];have d6:=zF h6;refine goQ e141 zBf 0 ?_ (by simp[AV.purL,AV.pur,hpu,hpj]);simp only[push_cast,seval,↓kw2,k1,k2,k3,m1,m2,m3];refine AC.pur hp ?_;refine goW zBf [7] 0 ?_;simp only[push_cast,seval,↓kw2,k1,k2,k3,m1,m2,m3];refine AC.pur ha ?_;refine goW zBf [7] 0 ?_;simp only[push_cast,seval,↓kw2,k1,k2,k3,m1,m2,m3,h3,List.contains_cons,Bool.true_or,Bool.false_or,Bool.or_true];refine FW.walkD hmix (A:=A90) (ex:=ex90) (imp:=imp90) (l:=ord90) (fun a ha=>by unfold A90 at ha; simp at ha; rcases ha with rfl | rfl <;> decide) (by kernel_rfl) (by kernel_rfl) (by kernel_rfl) ?_;simp only[ord90];simp only[push_cast,seval,↓kw2,zBn,zBm,zAr,↓zAq,Bool.or_false,Bool.or_true,Bool.true_or,Bool.false_or,Bool.or_self,Nat.add_assoc,zAx,zCq,wat,clOf,Int.toNat_natCast,zFh,dlO,A90,ex90,imp90,k1,k2,k3,m1,m2,m3,hx,hcc];refine⟨hbb,fun _=>by simp only[eq_true hbb],?_⟩;refine goW zBf [7] 0 ?_;simp only[push_cast,seval,↓kw2,k1,k2,k3,m1,m2,m3];refine AC.pur hf ?_;refine goW zBf [7] 0 ?_;simp only[push_cast,seval,↓kw2,d5,d6,hv1,hv2];exact⟨_,rfl,zAa rfl rfl⟩
 ·rw[if_neg h3];have h3':¬wchk j.w.p j.w.q j.w.r=0:=h3;refine goQ e141 zBf 0 ?_ (by simp[AV.purL,AV.pur,hpu,hpj]);simp only[push_cast,seval,↓kw2,k1,k2,k3,m1,m2,m3];refine AC.pur hp ?_;refine goW zBf [7] 0 ?_;simp only[push_cast,seval,↓kw2,k1,k2,k3,m1,m2,m3];refine AC.pur ha ?_;refine goW zBf [7] 0 ?_;simp only[push_cast,seval,↓kw2,k1,k2,k3,m1,m2,m3,h3];exact⟨_,rfl,zAa rfl rfl⟩
def chkL(x:Cfg):List Jb->Int
 | []=>0
 | j::l=>if j.chk x=0 then chkL x l else j.chk x
def risN(l:List Jb):Nat->Bool
 | 0=>true
 | i+1=>risN l i&&(decide (i=0)||decide ((l.getD (i - 1) default).id < (l.getD i default).id))
def oddT(l:List Jb)(j:Jb):Bool:=anyN (fun i=>!isJ l (j.after.getD i 0)) j.after.length 0
def tblE(x:Cfg)(l:List Jb):Int :=
 if x.chk=0 then (if 24 < (l.length:Int) then 4 else if chkL x l=0 then (if risN l l.length=true then (if l.any (oddT l)=true then 182 else 0) else 8) else chkL x l) else x.chk
theorem chkL_mem{x:Cfg}:∀ {l:List Jb},chkL x l=0->∀ j∈l,j.chk x=0
 | [],_=>by simp
 | y::l,h=>by
  unfold chkL at h
  split at h
  ·rename_i hy
   intro j hj
   rcases List.mem_cons.1 hj with rfl | hj
   ·exact hy
   ·exact chkL_mem h j hj
  ·rename_i hy; exact absurd h hy
theorem Jb.chk_facts{x:Cfg}{j:Jb}(h:j.chk x=0):j.plain x=true/\j.rises=true/\okW j.w.p j.w.q j.w.r/\j.fits x=true:=by
 unfold Jb.chk at h
 split at h
 ·split at h
  ·split at h
   ·split at h
    ·refine⟨by assumption,by assumption,?_,by assumption⟩;rename_i h3 _;unfold wchk at h3
     split at h3
     ·assumption
     ·cases h3
    ·cases h
   ·cases h
  ·cases h
 ·cases h
theorem Jb.rises_len{j:Jb}(h:j.rises=true):j.after.length<=4:=by
 unfold Jb.rises at h;simp only[zA,decide_eq_true_eq]at h;omega
theorem e142:Ent zP 142 Tryz.f142 [] 2:=.mk Tryz.func142 rfl
theorem table1_ac{s:AV}{l:List Jb}(hs:JobsS s l)(hl:l.length<=2^20){k:Int}{H:List AO}{q:Nat}(hq:H[q]?=some (.cells [s])){K:AV->List AO->Prop}(hK:K (B (!isJ l k)) H):AC zP GG 142 [I k,.ptr q 0] H K:=by
 obtain⟨k1,k2,k3⟩:=hs.1.cell;refine goE e142 TOk.nil 0 ?_;simp only[push_cast,seval,↓kw2,hq,k1,k2,k3];refine AC.pur (has_j hs hl k) ?_;refine goN ?_;simp only[push_cast,seval,↓kw2];exact⟨_,rfl,hK⟩
theorem e78:Ent zP 78 Tryz.f78 [] 2:=.mk Tryz.func78 rfl
theorem table_pur(x:Cfg){s sl:AV}(hs:IsSl s (x.cls.map Cls.av)){l:List Jb}(hl:JobsS sl l):Pur zP GG 78 [x.av s,sl] (I (tblE x l)):=by
 have hpu:=hs.pur (zAi Cls.av _ (fun _=>rfl));have hpl:=hl.pur;obtain⟨k1,k2,k3⟩:=hs.cell;obtain⟨n1,n2,n3⟩:=hl.1.cell;have hlen:=hl.1.len un27;rw[zM]at hlen;have hc:=pchk_pur x hs;unfold tblE;show Pur zP GG 78 [CF x.a x.b x.c x.boot x.free x.tries x.age s,sl] _
 by_cases h0:x.chk=0
 ·rw[if_pos h0];rw[h0]at hc;have hm:=Cfg.chk_may h0
  by_cases h24:24 < (l.length:Int)
  ·rw[if_pos h24];refine goQ e78 zBf 0 ?_ (by simp[AV.purL,AV.pur,hpu,hpl]);simp only[push_cast,seval,↓kw2,k1,k2,k3,n1,n2,n3];refine AC.pur hc ?_;refine goW zBf [] 0 ?_;simp only[push_cast,seval,↓kw2,k1,k2,k3,n1,n2,n3,hlen,h24];exact⟨_,rfl,zAa rfl rfl⟩
  ·rw[if_neg h24];have hll:l.length<=24:=by omega
   have hidx:=fun(i:Nat) (hi:i < l.length) (H:List AO)=>hl.1.idx (P:=zP) un27 sz50 (i:=(i:Int)) (by rw[zM]; omega) (by omega) H
   refine goQ e78 zBf 0 ?_ (by simp[AV.purL,AV.pur,hpu,hpl]);simp only[push_cast,seval,↓kw2,k1,k2,k3,n1,n2,n3];refine AC.pur hc ?_;refine goW zBf [] 0 ?_;simp only[push_cast,seval,↓kw2,k1,k2,k3,n1,n2,n3,hlen,h24];refine FW.loopInv (fun m ts H=>∃ i:Nat,i+m=l.length/\chkL x (l.drop i)=chkL x l/\H[0]?=some (.cells [I x.a,I x.b,I x.c,I x.boot,I x.free,I x.tries,I x.age,s])/\H[1]?=some (.cells [sl])/\ts 2=.ptr 0 0/\ts 3=.ptr 1 0/\ts 6=B (risN l i)/\ts 20=sl/\ts 21=I (l.length:Int)/\ts 22=I (i:Int)) l.length
    ⟨0,by omega,rfl,rfl,rfl,rfl,rfl,rfl,rfl,rfl,rfl⟩ ?_
   rintro m ih ts H ⟨i,hi,hch,m0,m1,t2,t3,t6,t20,t21,t22⟩
   refine FW.inLoop ?_
   by_cases hlt:i < l.length
   ·have hd1:decide ((i:Int) < (l.length:Int))=true:=by simp[hlt]
    have hx:=hidx i hlt;have hgy:=zAj Jb.av l default hlt;simp only[Int.toNat_natCast]at hx;rw[hgy]at hx;rw[zBa default hlt]at hch;have hg:=hl.get i;have hri:risN l (i+1)=(risN l i&&(decide (i=0)||decide ((l.getD (i - 1) default).id < (l.getD i default).id))):=rfl
    generalize hj:l.getD i default=j at hx hch hg hri
    have hcx:=Jb.cells j;obtain⟨m1',m2',m3'⟩:=IsSl.cell hg;have hk:=jchk_pur x hm hs hg;have hbb:(0<=(i:Int)/\(i:Int) < ((l.map Jb.av).length:Int)):=⟨by omega,by rw[zM]; omega⟩;have mm0:∀ X,(H++X)[0]?=some (.cells [I x.a,I x.b,I x.c,I x.boot,I x.free,I x.tries,I x.age,s]):=fun X=>(zL (zAc m0)).trans m0
    have mm1:∀ X,(H++X)[1]?=some (.cells [sl]):=fun X=>(zL (zAc m1)).trans m1
    simp only[Cfg.av,Jb.av]at hk;refine goW zBf [] 0 ?_;simp only[push_cast,seval,↓kw2,t2,t3,t6,t20,t21,t22,hd1,hx,hcx,m1',m2',m3',mm0,mm1,zAd,getA,zAe,setA,zAb];refine⟨hbb,?_⟩;refine AC.pur hk ?_;have hchk:chkL x (j::l.drop (i+1))=if j.chk x=0 then chkL x (l.drop (i+1)) else j.chk x:=rfl
    rw[hchk]at hch;have hi1:=zAl (n:=(i:Int)+1) (by omega) (by omega)
    by_cases hj0:j.chk x=0
    ·rw[if_pos hj0]at hch;cases hr:risN l i
     ·rw[hr]at t6 hri;rw[Bool.false_and]at hri;refine goW zBf [] 0 ?_;simp only[push_cast,seval,↓kw2,t2,t3,t6,t20,t21,t22,m1',m2',m3',mm0,mm1,zAd,getA,zAe,setA,zAb,hj0];refine goW zBf [] 0 ?_;simp only[push_cast,seval,↓kw2,t2,t3,t6,t20,t21,t22,m1',m2',m3',mm0,mm1,zAd,getA,zAe,setA,zAb,hi1];exact ih (m - 1) (by omega) _ _ ⟨i+1,by omega,hch,mm0 _,mm1 _,t2,t3,by rw[hri]; rfl,t20,t21,rfl⟩
     ·rw[hr]at t6 hri;rw[Bool.true_and]at hri
      by_cases hi0:i=0
      ·rw[zT hi0,Bool.true_or]at hri;have d0:decide ((i:Int)=0)=true:=zT (by omega);refine goW zBf [] 0 ?_;simp only[push_cast,seval,↓kw2,t2,t3,t6,t20,t21,t22,m1',m2',m3',mm0,mm1,zAd,getA,zAe,setA,zAb,hj0,d0];refine goW zBf [] 0 ?_;simp only[push_cast,seval,↓kw2,t2,t3,t6,t20,t21,t22,m1',m2',m3',mm0,mm1,zAd,getA,zAe,setA,zAb,hi1];exact ih (m - 1) (by omega) _ _ ⟨i+1,by omega,hch,mm0 _,mm1 _,t2,t3,by rw[hri]; rfl,t20,t21,rfl⟩
      ·rw[zF hi0,Bool.false_or]at hri;have d0:decide ((i:Int)=0)=false:=zF (by omega);have hw1:=zAl (n:=(i:Int) - 1) (by omega) (by omega);have hx2:=hidx (i - 1) (by omega);have hgy2:=zAj Jb.av l default (by omega:i - 1 < l.length);rw[show((i - 1:Nat):Int)=(i:Int) - 1 by omega]at hx2;rw[show((i:Int) - 1).toNat=i - 1 by omega,hgy2]at hx2
       generalize hj2:l.getD (i - 1) default=j2 at hx2 hri
       have hcx2:=Jb.cells j2;have hbb2:(0<=(i:Int) - 1/\(i:Int) - 1 < ((l.map Jb.av).length:Int)):=⟨by omega,by rw[zM]; omega⟩;refine goW zBf [] 0 ?_;simp only[push_cast,seval,↓kw2,t2,t3,t6,t20,t21,t22,m1',m2',m3',mm0,mm1,zAd,getA,zAe,setA,zAb,hj0,d0,hw1,hx2,hcx2];refine⟨hbb2,?_⟩;refine goW zBf [] 0 ?_;simp only[push_cast,seval,↓kw2,t2,t3,t6,t20,t21,t22,m1',m2',m3',mm0,mm1,zAd,getA,zAe,setA,zAb,hi1];exact ih (m - 1) (by omega) _ _ ⟨i+1,by omega,hch,mm0 _,mm1 _,t2,t3,by rw[hri]; rfl,t20,t21,rfl⟩
    ·rw[if_neg hj0]at hch;refine goW zBf [] 0 ?_;simp only[push_cast,seval,↓kw2,t2,t3,t6,t20,t21,t22,m1',m2',m3',mm0,mm1,zAd,getA,zAe,setA,zAb,hj0];exact⟨_,rfl,zAa rfl (by rw[<- hch,if_neg hj0])⟩
   ·have hd1:decide ((i:Int) < (l.length:Int))=false:=by simp; omega
    rw[List.drop_eq_nil_of_le (by omega)]at hch;have hc0:chkL x l=0:=hch.symm;have hil:i=l.length:=by omega
    rw[hil]at t6;rw[if_pos hc0];cases hr:risN l l.length
    ·rw[hr]at t6;rw[if_neg (by decide)];refine goW zBf [] 0 ?_;simp only[push_cast,seval,↓kw2,t6,t21,t22,hd1];exact⟨_,rfl,zAa rfl rfl⟩
    ·rw[hr]at t6;rw[if_pos rfl];refine goW zBf [] 0 ?_;simp only[push_cast,seval,↓kw2,t3,t6,t21,t22,hd1,m1,hlen];clear ih hi hch t6 t20 t21 t22 hd1 hil hlt;refine FW.loopInv (fun m ts H=>∃ i:Nat,i+m=l.length/\(l.drop i).any (oddT l)=l.any (oddT l)/\H[1]?=some (.cells [sl])/\ts 3=.ptr 1 0/\ts 52=sl/\ts 53=I (l.length:Int)/\ts 54=I (i:Int)) l.length
      ⟨0,by omega,rfl,m1,t3,rfl,rfl,rfl⟩ ?_
     clear m0 m1 t2 t3
     rintro m ih ts H ⟨i,hi,han,m1,t3,t52,t53,t54⟩
     refine FW.inLoop ?_
     by_cases hlt:i < l.length
     ·have hd1:decide ((i:Int) < (l.length:Int))=true:=by simp[hlt]
      have hx:=hidx i hlt;have hgy:=zAj Jb.av l default hlt;simp only[Int.toNat_natCast]at hx;rw[hgy]at hx;rw[zBa default hlt,List.any_cons]at han;have hg:=hl.get i;have h4:=Jb.rises_len (Jb.chk_facts (chkL_mem hc0 (l.getD i default) (by simp[List.getD,hlt]))).2.1
      generalize l.getD i default=j at hx han hg h4
      have hcx:=Jb.cells j;obtain⟨m1',m2',m3'⟩:=IsSl.cell hg;have hbb:(0<=(i:Int)/\(i:Int) < ((l.map Jb.av).length:Int)):=⟨by omega,by rw[zM]; omega⟩;have mm1:∀ X,(H++X)[1]?=some (.cells [sl]):=fun X=>(zL (zAc m1)).trans m1
      have hi1:=zAl (n:=(i:Int)+1) (by omega) (by omega);refine goW zBf [] 0 ?_;simp only[push_cast,seval,↓kw2,t3,t52,t53,t54,hd1,hx,hcx,m1',m2',m3',mm1,zAd,getA,zAe,setA,zAb];refine⟨hbb,?_⟩;refine hasI hg (by omega) (fun _ H'=>H'=H++[AO.cells [I j.id,I j.user,I j.cls,I j.w.p,I j.w.q,I j.w.r,B j.w.s,B j.w.t,B j.w.u,B j.w.v,I j.wall,I j.prio,B j.held,j.aft,.c (.int .u8 j.st),I j.came]]) (pr:=fun i=>!isJ l (j.after.getD i 0)) ?_ rfl ?_
      ·rintro i H K hi rfl hK
       exact table1_ac hl (by omega) (mm1 _) (hK _ rfl)
      rintro H' ⟨_,_,rfl⟩
      have hod:oddT l j=anyN (fun i=>!isJ l (j.after.getD i 0)) j.after.length 0:=rfl;rw[hod]at han;cases hA:anyN (fun i=>!isJ l (j.after.getD i 0)) j.after.length 0
      ·rw[hA,Bool.false_or]at han;refine goW zBf [] 0 ?_;simp only[push_cast,seval,↓kw2,t54];refine goW zBf [] 0 ?_;simp only[push_cast,seval,↓kw2,t54,hi1];exact ih (m - 1) (by omega) _ _ ⟨i+1,by omega,han,mm1 _,t3,t52,t53,rfl⟩
      ·rw[hA,Bool.true_or]at han;refine goW zBf [] 0 ?_;simp only[push_cast,seval,↓kw2];exact⟨_,rfl,zAa rfl (by rw[<- han]; rfl)⟩
     ·have hd1:decide ((i:Int) < (l.length:Int))=false:=by simp; omega
      rw[List.drop_eq_nil_of_le (by omega)]at han;refine goW zBf [] 0 ?_;simp only[push_cast,seval,↓kw2,t53,t54,hd1];exact⟨_,rfl,zAa rfl (by rw[<- han]; rfl)⟩
 ·rw[if_neg h0];refine goQ e78 zBf 0 ?_ (by simp[AV.purL,AV.pur,hpu,hpl]);simp only[push_cast,seval,↓kw2,k1,k2,k3,n1,n2,n3];refine AC.pur hc ?_;refine goW zBf [] 0 ?_;simp only[push_cast,seval,↓kw2,k1,k2,k3,n1,n2,n3,h0];exact⟨_,rfl,zAa rfl rfl⟩
end Go.Ab.Pd
