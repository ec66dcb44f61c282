/- Values that come up in the run of Model. -/
import Derived.Test.YtlipnijnfljdeaaGreatDoorEvOk
import Derived.Test.YtlipnijnfljdeaaGreatDoorEvSb
import Derived.Test.YtlipnijnfljdeaaGreatDoorEvX8
set_option maxRecDepth 100000
namespace Go.Ab
def aI (n : Nat) : AV := .c (.int .i64 (.ofNat n))
def aU (n : Nat) : AV := .c (.int .u64 (.ofNat n))
def aB (n : Nat) : AV := .c (.int .u8 (.ofNat n))
def aT : AV := .c (.bool true)
def aF : AV := .c (.bool false)
theorem ex_ok {t : TbT} (rows : List TRow) (hc : chkT t rows = true) (hr : AllR Go.Proofs.Tryz.prog GG0 rows) : EOk Go.Proofs.Tryz.prog { E1 with tb := tbT t } :=
  ⟨by kernel_rfl, te_ok, ft_ok, gp0, tbT_ok hc hr⟩
def s0 : AV := (.isl [(.agg [(aI 0), (aI 0), (aI 0), (aI 1), (aI 1), (aI 1), aF, aF, aF]), (.agg [(aI 1), (aI 0), (aI 0), (aI 1), (aI 1), (aI 1), aF, aF, aF])])
def s1 : AV := (.agg [(aI 1), (aI 1), (aI 0), (aI 1), (aI 1), (aI 1), aF, aF, aF, aF, (aI 5), (aI 0), aF, (.c (.slice .none 0 0)), (aB 2), (aI 0)])
def s2 : AV := (.agg [(aI 2), (aI 1), (aI 1), (aI 3), (aI 2), (aI 1), (aI 1), (.isl [(.agg [(aI 0), (aI 20), (aI 2), (aI 2)])]), (aI 0), (aI 2), (.isl [s1]), (.isl [(.agg [(aI 1), (aI 0), (aI 0), (aI 0), (aI 1), (aI 1), (aI 1), aF, aF, aF, (aB 1), (aI 1), (aI 0)])]), (.c (.slice .none 0 0)), (.c (.slice .none 0 0)), (.c (.slice .none 0 0)), (.c (.slice .none 0 0))])
def s3 : AV := (.agg [(aI 0), (aI 1), (.isl [(aI 1)]), (aI 0), (aI 0), (aI 0), (aI 0), (aI 0), (aI 0), (aI 0), (aI 0), aF, aF, aF])
def s4 : AV := (.agg [(aI 2), (aI 1), (aI 1), (aI 3), (aI 2), (aI 1), (aI 1), (.isl [(.agg [(aI 0), (aI 20), (aI 2), (aI 2)])])])
def Modela18 : List AV := [(.agg [(aI 2), (aI 1), (aI 1)]), (.c (.slice .none 0 0)), (.c (.slice .none 0 0)), (.c (.slice .none 0 0))]
def Modelv18 : AV := (.tup [(.isl [(aU 0)]), (.isl [(aU 0)]), (aI 0)])
def Modela51 : List AV := [(.agg [(aI 2), (aI 1), (aI 1)]), (.agg [(aI 0), (aI 0), (aI 0), (aI 1), (aI 1), (aI 1), aF, aF, aF])]
def Modelv51 : AV := (.tup [(.isl [(aI 0)]), (.c (.slice .none 0 0))])
def Modela53 : List AV := [(.agg [(aI 2), (aI 1), (aI 1)]), (.agg [(aI 0), (aI 0), (aI 0), (aI 1), (aI 1), (aI 1), aF, aF, aF])]
def Modelv53 : AV := (.tup [(.isl [(aU 1)]), (.isl [(aU 0)]), (aI 0)])
def Modela63 : List AV := [(.agg [(aI 2), (aI 1), (aI 1)]), (.agg [(aI 0), (aI 0), (aI 0), (aI 1), (aI 1), (aI 1), aF, aF, aF]), (.isl [(aU 0)]), (.isl [(aU 0)])]
def Modelv63 : AV := (.tup [aT, (aI 0)])
def Modela71 : List AV := [(.agg [(aI 2), (aI 1), (aI 1)]), (.agg [(aI 1), (aI 0), (aI 0), (aI 1), (aI 1), (aI 1), aF, aF, aF])]
def Modelv71 : AV := (.tup [(.isl [(aI 1)]), (.c (.slice .none 0 0))])
def Modela73 : List AV := [(.agg [(aI 2), (aI 1), (aI 1)]), (.agg [(aI 1), (aI 0), (aI 0), (aI 1), (aI 1), (aI 1), aF, aF, aF])]
def Modelv73 : AV := (.tup [(.isl [(aU 2)]), (.isl [(aU 0)]), (aI 0)])
def Modela78 : List AV := [(.agg [(aI 2), (aI 1), (aI 1)]), (.agg [(aI 1), (aI 0), (aI 0), (aI 1), (aI 1), (aI 1), aF, aF, aF]), (.isl [(aU 0)]), (.isl [(aU 0)])]
def Modelv78 : AV := (.tup [aT, (aI 0)])
def Modela79 : List AV := [(.agg [(aI 2), (aI 1), (aI 1)]), (.agg [(aI 1), (aI 1), (aI 1), aF, aF, aF, aF]), (.isl [(aU 0)]), (.isl [(aU 0)])]
def Modelv79 : AV := (.tup [s0, (aI 0)])
def Modela89 : List AV := [(.agg [(aI 2), (aI 1), (aI 1)]), (aI 2), (.isl [(aU 2)]), (.isl [(aU 1)])]
def Modelv89 : AV := (aI 2)
def Modela90 : List AV := [(.agg [(aI 2), (aI 1), (aI 1)]), (.agg [(aI 1), (aI 0), (aI 0), (aI 1), (aI 1), (aI 1), aF, aF, aF]), (.isl [(aU 0)])]
def Modelv90 : AV := (.tup [(aI 4), (aI 0)])
def Modela97 : List AV := [(.agg [(aI 2), (aI 1), (aI 1)]), (aI 2), (.isl [(aU 1)]), (.isl [(aU 2)])]
def Modelv97 : AV := (aI 2)
def Modela98 : List AV := [(.agg [(aI 2), (aI 1), (aI 1)]), (.agg [(aI 0), (aI 0), (aI 0), (aI 1), (aI 1), (aI 1), aF, aF, aF]), (.isl [(aU 0)])]
def Modelv98 : AV := (.tup [(aI 4), (aI 0)])
def Modela99 : List AV := [(.agg [(aI 2), (aI 1), (aI 1)]), (.agg [(aI 1), (aI 1), (aI 1), aF, aF, aF, aF]), (.isl [(aU 0)]), (.isl [(aU 0)])]
def Modelv99 : AV := (.tup [(.agg [(aI 0), (aI 0), (aI 0), (aI 1), (aI 1), (aI 1), aF, aF, aF]), (aI 0)])
def Modela100 : List AV := []
def Modelv100 : AV := (.tup [s2, s3])
def Modela106 : List AV := [s4, (.isl [s1])]
def Modelv106 : AV := (aI 0)
def Modela120 : List AV := [(.agg [(aI 2), (aI 1), (aI 1)]), (.agg [(aI 1), (aI 1), (aI 1), aF, aF, aF, aF]), (.agg [(aI 0), (aI 0), (aI 0), (aI 1), (aI 1), (aI 1), aF, aF, aF])]
def Modelv120 : AV := (.tup [aT, (aI 0)])
def Modela122 : List AV := [s2, (.agg [(aI 1), (aI 0), (aI 0), (aI 0), (aI 1), (aI 1), (aI 1), aF, aF, aF, (aB 1), (aI 1), (aI 0)])]
def Modelv122 : AV := aT
def Modela126 : List AV := [s2]
def Modelv126 : AV := (aI 0)
def Modela129 : List AV := []
def Modelv129 : AV := aT
end Go.Ab
