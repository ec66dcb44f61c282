/- One of the texts that this claim stands on. -/
import Derived.Test.YtbnnfihjhamopaaGreatDoorEv38
import Derived.Test.YtbnnfihjhamopaaGreatDoorEv46
set_option maxHeartbeats 40000000
set_option maxRecDepth 400000
set_option linter.all false
namespace Go.Ab.Pd
open Go.Proofs
theorem rising{f:Nat->Int}{n:Nat}(h:∀ i,0 < i->i < n->f (i - 1) < f i):∀ {a b:Nat},a < b->b < n->f a < f b:=by
 intro a b hab hb
 induction b with
 | zero=>omega
 | succ b ih =>
  have h1:=h (b+1) (by omega) hb;rw[Nat.add_sub_cancel]at h1
  by_cases e:a=b
  ·subst e; exact h1
  ·have:=ih (by omega) (by omega);omega
theorem parts_rise{s:Sta}(h:s.partsV=true){a b:Nat}(hab:a < b)(hb:b < s.parts.length):(s.parts.getD a default).job < (s.parts.getD b default).job:=by
 refine rising (f:=fun i=>(s.parts.getD i default).job) (n:=s.parts.length) (fun i h0 hi=>?_) hab hb;have h1:=(parts_no h i hi).1;unfold Sta.odd1 at h1;rw[Bool.or_eq_false_iff]at h1;have h2:=h1.1;rw[zT h0,Bool.true_and,decide_eq_false_iff_not]at h2;omega
end Go.Ab.Pd
