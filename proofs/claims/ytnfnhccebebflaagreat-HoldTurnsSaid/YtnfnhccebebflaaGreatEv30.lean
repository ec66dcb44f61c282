/- One of the texts that this claim stands on. -/
import Derived.Test.YtnfnhccebebflaaGreatEv28
import Derived.Test.YtnfnhccebebflaaGreatEv29
set_option maxHeartbeats 40000000
set_option maxRecDepth 400000
set_option linter.all false
namespace Go.Ab.Pd
open Go.Proofs
theorem inU_0:inU 0:=⟨by decide,by decide⟩
theorem toNat_U{w:Int}(h:inU w):(BitVec.ofInt IntKind.u64.bits w).toNat=w.toNat:=by
 rw[BitVec.toNat_ofInt];have e:((2^IntKind.u64.bits:Nat):Int)=2^64:=by decide
 rw[e,Int.emod_eq_of_lt h.1 h.2]
theorem wrapU{n:Int}(h:inU n):IntKind.u64.wrap n=n:=by
 rw[IntKind.wrap_u64];exact Int.emod_eq_of_lt h.1 h.2
theorem lt_U{w:Int}(h:inU w):w.toNat < 2^64:=by unfold inU at h; omega
theorem andW_nat{x y:Int}(hx:inU x)(hy:inU y):andW x y=((x.toNat &&& y.toNat:Nat):Int):=by
 unfold andW;rw[BitVec.toNat_and,toNat_U hx,toNat_U hy];have h:=Nat.and_le_left (n:=x.toNat) (m:=y.toNat);have h2:=lt_U hx;exact wrapU ⟨by omega,by omega⟩
theorem fdiv_nat(x k:Nat):((x:Nat):Int).fdiv ((k:Nat):Int)=((x / k:Nat):Int):=by
 rw[Int.fdiv_eq_ediv_of_nonneg _ (by omega)]; rfl
theorem nU{x:Nat}(h:x < 2^64):inU (x:Int):=⟨by omega,by omega⟩
attribute [push_cast] Tryz.f148
attribute [push_cast] Tryz.f90
theorem e259:Ent Tryz.prog 259 Tryz.f259 [] 3:=.mk Tryz.func259 rfl
attribute [push_cast] Tryz.f259
end Go.Ab.Pd
