/- Values that come up in the run of Step. -/
import Derived.Test.YtlipnijnfljdeaaGreatDoorEvOk
import Derived.Test.YtlipnijnfljdeaaGreatDoorEvSb
import Derived.Test.YtlipnijnfljdeaaGreatDoorEvX8
set_option maxRecDepth 100000
namespace Go.Ab
def aI (n : Nat) : AV := .c (.int .i64 (.ofNat n))
def aU (n : Nat) : AV := .c (.int .u64 (.ofNat n))
def aB (n : Nat) : AV := .c (.int .u8 (.ofNat n))
def aT : AV := .c (.bool true)
def aF : AV := .c (.bool false)
theorem ex_ok {t : TbT} (rows : List TRow) (hc : chkT t rows = true) (hr : AllR Go.Proofs.Tryz.prog GG0 rows) : EOk Go.Proofs.Tryz.prog { E1 with tb := tbT t } :=
  ⟨by kernel_rfl, te_ok, ft_ok, gp0, tbT_ok hc hr⟩
def s0 : AV := (.agg [(aI 2), (aI 1), (aI 1), (aI 3), (aI 2), (aI 1), (aI 1), (.isl [(.agg [(aI 0), (aI 20), (aI 2), (aI 2)])]), (aI 0), (aI 1), (.c (.slice .none 0 0)), (.c (.slice .none 0 0)), (.c (.slice .none 0 0)), (.c (.slice .none 0 0)), (.c (.slice .none 0 0)), (.c (.slice .none 0 0))])
def s1 : AV := (.isl [(.c (.slice .none 0 0)), (.c (.slice .none 0 0)), (.c (.slice .none 0 0)), (.c (.slice .none 0 0)), (.c (.slice .none 0 0)), (.c (.slice .none 0 0))])
def s2 : AV := (.isl [(.agg [(aI 0), (aI 0), (aI 0), (aI 1), (aI 1), (aI 1), aF, aF, aF]), (.agg [(aI 1), (aI 0), (aI 0), (aI 1), (aI 1), (aI 1), aF, aF, aF])])
def s3 : AV := (.agg [(aB 1), (aI 0), (aI 1), (aI 0), (aI 1), (aI 1), (aI 1), aF, aF, aF, aF, (aI 5), (aI 0), aF, (.c (.slice .none 0 0)), (aB 0), (aI 0), (aI 0), (aI 0), (aI 0), (aI 0), (aI 0), (aI 0), (aI 0), (aI 0), (aI 0), (aI 0), aF])
def s4 : AV := (.agg [(aI 1), (aI 1), (aI 0), (aI 1), (aI 1), (aI 1), aF, aF, aF, aF, (aI 5), (aI 0), aF, (.c (.slice .none 0 0)), (aB 2), (aI 0)])
def s5 : AV := (.agg [(aI 2), (aI 1), (aI 1), (aI 3), (aI 2), (aI 1), (aI 1), (.isl [(.agg [(aI 0), (aI 20), (aI 2), (aI 2)])]), (aI 0), (aI 2), (.isl [s4]), (.isl [(.agg [(aI 1), (aI 0), (aI 0), (aI 0), (aI 1), (aI 1), (aI 1), aF, aF, aF, (aB 1), (aI 1), (aI 0)])]), (.c (.slice .none 0 0)), (.c (.slice .none 0 0)), (.c (.slice .none 0 0)), (.c (.slice .none 0 0))])
def s6 : AV := (.agg [(aI 0), (aI 1), (.isl [(aI 1)]), (aI 0), (aI 0), (aI 0), (aI 0), (aI 0), (aI 0), (aI 0), (aI 0), aF, aF, aF])
def s7 : AV := (.agg [(aI 2), (aI 1), (aI 1), (aI 3), (aI 2), (aI 1), (aI 1), (.isl [(.agg [(aI 0), (aI 20), (aI 2), (aI 2)])])])
def s8 : AV := (.agg [(aB 7), (aI 0), (aI 0), (aI 0), (aI 0), (aI 0), (aI 0), aF, aF, aF, aF, (aI 0), (aI 0), aF, (.c (.slice .none 0 0)), (aB 0), (aI 0), (aI 0), (aI 0), (aI 0), (aI 0), (aI 0), (aI 0), (aI 0), (aI 0), (aI 0), (aI 3), aF])
def s9 : AV := (.agg [(aI 1), (aI 1), (aI 0), (aI 1), (aI 1), (aI 1), aF, aF, aF, aF, (aI 5), (aI 0), aF, (.c (.slice .none 0 0)), (aB 6), (aI 0)])
def s10 : AV := (.agg [(aI 2), (aI 1), (aI 1), (aI 3), (aI 2), (aI 1), (aI 1), (.isl [(.agg [(aI 0), (aI 20), (aI 2), (aI 2)])]), (aI 3), (aI 2), (.isl [s9]), (.isl [(.agg [(aI 1), (aI 0), (aI 0), (aI 0), (aI 1), (aI 1), (aI 1), aF, aF, aF, (aB 3), (aI 1), (aI 3)])]), (.c (.slice .none 0 0)), (.c (.slice .none 0 0)), (.c (.slice .none 0 0)), (.c (.slice .none 0 0))])
def s11 : AV := (.agg [(aI 0), (aI 0), (.c (.slice .none 0 0)), (aI 0), (aI 0), (aI 0), (aI 0), (aI 0), (aI 0), (aI 0), (aI 0), aF, aF, aF])
def Stepa17 : List AV := [s0]
def Stepv17 : AV := aT
def Stepa25 : List AV := [(.agg [(aI 2), (aI 1), (aI 1)]), (.c (.slice .none 0 0)), (.c (.slice .none 0 0)), (.c (.slice .none 0 0))]
def Stepv25 : AV := (.tup [(.isl [(aU 0)]), (.isl [(aU 0)]), (aI 0)])
def Stepa30 : List AV := [s0]
def Stepv30 : AV := (aI 0)
def Stepa48 : List AV := [(.agg [(aI 2), (aI 1), (aI 1), (.isl [(.c (.slice .none 0 0)), (.c (.slice .none 0 0))]), s1]), (.agg [(aI 0), (aI 10)])]
def Stepv48 : AV := (.tup [(.isl [(aU 0)]), (.isl [(aU 0)]), (aI 0)])
def Stepa75 : List AV := [(.agg [(aI 2), (aI 1), (aI 1)]), (.agg [(aI 0), (aI 0), (aI 0), (aI 1), (aI 1), (aI 1), aF, aF, aF])]
def Stepv75 : AV := (.tup [(.isl [(aI 0)]), (.c (.slice .none 0 0))])
def Stepa77 : List AV := [(.agg [(aI 2), (aI 1), (aI 1)]), (.agg [(aI 0), (aI 0), (aI 0), (aI 1), (aI 1), (aI 1), aF, aF, aF])]
def Stepv77 : AV := (.tup [(.isl [(aU 1)]), (.isl [(aU 0)]), (aI 0)])
def Stepa87 : List AV := [(.agg [(aI 2), (aI 1), (aI 1)]), (.agg [(aI 0), (aI 0), (aI 0), (aI 1), (aI 1), (aI 1), aF, aF, aF]), (.isl [(aU 0)]), (.isl [(aU 0)])]
def Stepv87 : AV := (.tup [aT, (aI 0)])
def Stepa95 : List AV := [(.agg [(aI 2), (aI 1), (aI 1)]), (.agg [(aI 1), (aI 0), (aI 0), (aI 1), (aI 1), (aI 1), aF, aF, aF])]
def Stepv95 : AV := (.tup [(.isl [(aI 1)]), (.c (.slice .none 0 0))])
def Stepa97 : List AV := [(.agg [(aI 2), (aI 1), (aI 1)]), (.agg [(aI 1), (aI 0), (aI 0), (aI 1), (aI 1), (aI 1), aF, aF, aF])]
def Stepv97 : AV := (.tup [(.isl [(aU 2)]), (.isl [(aU 0)]), (aI 0)])
def Stepa102 : List AV := [(.agg [(aI 2), (aI 1), (aI 1)]), (.agg [(aI 1), (aI 0), (aI 0), (aI 1), (aI 1), (aI 1), aF, aF, aF]), (.isl [(aU 0)]), (.isl [(aU 0)])]
def Stepv102 : AV := (.tup [aT, (aI 0)])
def Stepa103 : List AV := [(.agg [(aI 2), (aI 1), (aI 1)]), (.agg [(aI 1), (aI 1), (aI 1), aF, aF, aF, aF]), (.isl [(aU 0)]), (.isl [(aU 0)])]
def Stepv103 : AV := (.tup [s2, (aI 0)])
def Stepa113 : List AV := [(.agg [(aI 2), (aI 1), (aI 1)]), (aI 2), (.isl [(aU 2)]), (.isl [(aU 1)])]
def Stepv113 : AV := (aI 2)
def Stepa114 : List AV := [(.agg [(aI 2), (aI 1), (aI 1)]), (.agg [(aI 1), (aI 0), (aI 0), (aI 1), (aI 1), (aI 1), aF, aF, aF]), (.isl [(aU 0)])]
def Stepv114 : AV := (.tup [(aI 4), (aI 0)])
def Stepa121 : List AV := [(.agg [(aI 2), (aI 1), (aI 1)]), (aI 2), (.isl [(aU 1)]), (.isl [(aU 2)])]
def Stepv121 : AV := (aI 2)
def Stepa122 : List AV := [(.agg [(aI 2), (aI 1), (aI 1)]), (.agg [(aI 0), (aI 0), (aI 0), (aI 1), (aI 1), (aI 1), aF, aF, aF]), (.isl [(aU 0)])]
def Stepv122 : AV := (.tup [(aI 4), (aI 0)])
def Stepa123 : List AV := [(.agg [(aI 2), (aI 1), (aI 1)]), (.agg [(aI 1), (aI 1), (aI 1), aF, aF, aF, aF]), (.isl [(aU 0)]), (.isl [(aU 0)])]
def Stepv123 : AV := (.tup [(.agg [(aI 0), (aI 0), (aI 0), (aI 1), (aI 1), (aI 1), aF, aF, aF]), (aI 0)])
def Stepa124 : List AV := [s0, s3]
def Stepv124 : AV := (.tup [s5, s6])
def Stepa130 : List AV := [s7, (.isl [s4])]
def Stepv130 : AV := (aI 0)
def Stepa144 : List AV := [(.agg [(aI 2), (aI 1), (aI 1)]), (.agg [(aI 1), (aI 1), (aI 1), aF, aF, aF, aF]), (.agg [(aI 0), (aI 0), (aI 0), (aI 1), (aI 1), (aI 1), aF, aF, aF])]
def Stepv144 : AV := (.tup [aT, (aI 0)])
def Stepa146 : List AV := [s5, (.agg [(aI 1), (aI 0), (aI 0), (aI 0), (aI 1), (aI 1), (aI 1), aF, aF, aF, (aB 1), (aI 1), (aI 0)])]
def Stepv146 : AV := aT
def Stepa150 : List AV := [s5]
def Stepv150 : AV := (aI 0)
def Stepa154 : List AV := [s5, s8]
def Stepv154 : AV := (.tup [s10, s11])
def Stepa159 : List AV := []
def Stepv159 : AV := aT
end Go.Ab
